import Derived.Test.YtjbmodoofdpgcaaGreatDoorX09
import Derived.Lib.ItoaMem
/- A part of a proof; no law is stated here. -/
noncomputable section
open Go.IntKind renaming wrap -> zc, u64 -> zd, u8 -> z7
open UInt8 renaming toNat -> ze
open Go.Pe.Sh renaming str -> zf, list -> zg, bool -> zj, int -> zl
open Int renaming mul_le_mul_of_nonneg_right -> zh, eq_ofNat_of_zero_le -> zo, mul_nonneg -> zp, fdiv -> zq, mul_assoc -> zu, add_mul -> zw, tdiv -> zx, toNat_natCast -> zy, mul_comm -> zz, one_mul -> z8, le_of_lt -> yb, tmod -> yc, fdiv_eq_ediv_of_nonneg -> yd, natCast_pow -> yf, natCast_mul -> yi, tdiv_eq_ediv_of_nonneg -> ym, zero_add -> yq, ediv_nonneg -> yt
open Go.Pe.Ends renaming tt -> zi, leaf -> zk, ite -> zn, eq -> yn
open Go.Sp renaming vI -> zm, u64 -> yk, first -> yv
open Bool renaming and_eq_true -> zr
open Go.Pe.PV renaming agg -> zt
open Nat renaming sub -> z6, add -> yj, two_pow_pos -> yr, pow_add -> yu
open Go.Pe.Ac renaming of -> ye
open List renaming length -> yg, map -> yh
open Min renaming min -> yo
open BitVec renaming ofInt -> yp
namespace Go.Pe
open Sp
open Go.Det
theorem Fh{n:Int}(a: -9223372036854775808<=n)(b:n<9223372036854775808):Cx n=true:=by
 unfold Cx;rw[zr,w5,w5];exact⟨a,b⟩
theorem K5{n:Int}(h:Cx n=true):Du (n,[])=true:=by
 unfold Du;rw[h];rfl
theorem Nl{n:Int}{k:Nat}(h:Ag n<(Ao:Int)^k)(b:k<=20000):Du (CN n)=true/\(CN n).2.length<=k:=by
 unfold CN;split
 ·next c=>exact⟨K5 (Fh ae ae),Nat.zero_le _⟩
 ·next c=>
  obtain⟨n1,n2,a⟩:=De (AK n) h b;refine⟨?_,Mj (AK n) h⟩;have d:9223372036854775808<=Ag n:=by rw[Ai];omega
  unfold Du;refine Ad (Fh ?_ ?_) ?_
  ·show -9223372036854775808<=(if n<0 then -1 else 1);split<;>decide
  ·show(if n<0 then -1 else 1)<9223372036854775808;split<;>decide
  ·rw[Bool.or_eq_true];refine .inr (Ad (Ad n1 ?_) (w4<|by show _<=As (BW<|Ag n);rw[a];exact d));show(decide ((if n<0 then(-1:Int)else 1)=1)||decide ((if n<0 then(-1:Int)else 1)= -1))=true;split<;>rfl
theorem Ic(a:AF):zm (C0 a)= -zm a:=by
 unfold C0;split
 ·next h=>rw[E0,BG h.1]
 ·exact Cm _
theorem Ip(n:Int):Ag (-n)=Ag n:=by rw[Ai,Ai];omega
theorem Wi{a:AF}(h:Du a=true){k:Nat}(e:1<=k)(b:k<=20000)(d:a.2.length<=k):Du (C0 a)=true/\(C0 a).2.length<=k:=by
 have f:=(EZ h).1;unfold C0;split
 ·next c=>exact⟨K5 (Fh ae ae),Nat.zero_le _⟩
 ·exact Nl (by rw[Ip];exact Ia h d e) b
theorem U0{a:AF}(h:Bi a=true):Bi (C0 a)=true:=by
 obtain⟨b,c⟩:=B6 h;obtain⟨h3,h4⟩:=Wi b (k:=9000) ae ae c;unfold Bi;exact Ad h3<|w4 h4
theorem pX{a:AF}(h:Du a=true):a.1<0↔zm a<0:=by
 obtain⟨_,b⟩:=EZ h;obtain⟨s,w⟩:=a;rcases b with b|⟨_,e,d⟩
 ·have b:w=[]:=b;subst b;rw[E0]
 ·have e:s=1\/s= -1:=e;have d:9223372036854775808<=As w:=d;have c:w≠[]:=by rintro rfl;exact wh d af
  rw[dP c];show s<0↔_;split<;>omega
theorem WJ(a b:AF):zm (Eg a b)=zm a+zm b:=by
 unfold Eg;split
 ·next h=>rw[E0,BG h.1,BG h.2.1]
 ·exact Cm _
theorem rI(x y:Int):Ag (x+y)<=Ag x+Ag y:=by
 rw[Ai,Ai,Ai];omega
theorem Jt(x y:Int):Ag (x*y)=Ag x*Ag y:=by
 rw[Ai,Ai,Ai,Int.natAbs_mul,yi]
theorem bounds{a:AF}(h:Bi a=true):Ag (zm a)<(Ao:Int)^9000:=(words h).2.2.2.2.2
theorem Sf{a b:AF}(d:Bi a=true)(c:Bi b=true):Du (Eg a b)=true:=by
 unfold Eg;split
 ·next h=>exact K5 h.2.2
 ·exact(Nl (Int.lt_of_le_of_lt (rI _ _) (Mb (AK _) (bounds d)<|bounds c).1) ae).1
theorem fF(a b:AF):zm (M5 a b)=zm a-zm b:=by
 unfold M5;rw[WJ,Ic];omega
theorem Dm(a b:AF):zm (E3 a b)=zm a*zm b:=Cm _
theorem Ys[Srt]:Dn XJ1:=
 Aa T157.ok (Aa T102.ok AO)
namespace T158
theorem ok[Srt]:Af Bb 158 Md:=by
 refine BL I2<|fun(a:Int×List Int) b=>?_;have b:Du a=true:=b;exact yn (Aj a)<|zk<|ye rfl rfl (wM b)
end T158
namespace T172
theorem ok[Srt]:Af Bb 172 uX:=by
 refine BL Ys<|fun(a:Int×List Int) b=>?_;have b:Du a=true:=b;refine yn (Aj a)<|zn (fun c=>zi b<|zk<|ye rfl rfl ?_)<|fun c=>zk<|ye rfl rfl ?_
 ·show C0 a=Uv a;unfold Uv;rw[wd<|w6 c]
 ·show a=Uv a;unfold Uv;rw[wc<|w7 c]
end T172
namespace T174
theorem ok[Srt]:Af Bb 174 iN:=by
 refine BL Ys<|fun(i:(Int×List Int)×(Int×List Int)) c=>?_;obtain⟨a,b⟩:=i;have c:(Bi a&&Bi b)=true:=c;rw[zr]at c;exact yn (Aj a b)<|zi (B6 c.2).1<|zi (Ad c.1<|U0 c.2)<|zk<|ye rfl rfl rfl
end T174
theorem rP[Srt]:Dn XJ2:=
 Aa T174.ok (Aa T158.ok AO)
theorem pU(x y:Int):UT (x-y)=Cb x y:=by
 unfold UT Cb;split
 ·rw[wd ae]
 ·split
  ·rw[wc ae,wd ae]
  ·rw[wc ae,wc ae]
namespace T118
theorem ok[Srt]:Af Bb 118 jI:=by
 refine BL rP<|fun(i:(Int×List Int)×(Int×List Int)) f=>?_;obtain⟨a,b⟩:=i;have f:(Bi a&&Bi b)=true:=f;have c:=f;rw[zr]at c;have h:Du (M5 a b)=true:=by
  unfold M5;exact Sf c.1<|U0 c.2
 have j:IZ (M5 a b)=YY a b:=by
  show UT (zm<|M5 a b)=Cb (zm a) (zm b);rw[fF,pU]
 refine yn (Aj a b)<|zn (fun g=>zn (fun k=>zn (fun d=>zk<|ye rfl rfl ?_)<|fun d=>zn (fun e=>zk<|ye rfl rfl ?_)<|fun e=>zk<|ye rfl rfl ?_)<|fun k=>zi f<|zi h<|zk<|ye rfl rfl j)<|fun g=>zi f<|zi h<|zk<|ye rfl rfl j;all_goals
  have e1:=BG<|PZ g;have e2:=BG<|PZ k;show _=Cb (zm a) (zm b);rw[e1,e2];unfold Cb
 ·rw[wd<|w6 d]
 ·rw[wc<|w7 d,wd<|w6 e]
 ·rw[wc<|w7 d,wc<|w7 e]
end T118
theorem Sb(x y:Int):x*y=Sp.sg (!(decide (x<0)==decide (y<0))) (Ag x*Ag y):=by
 unfold Ag;rw[Dq];by_cases b:x<0<;>by_cases a:y<0<;>simp[b,a,Int.neg_mul,Int.mul_neg]
namespace T96
theorem ok[Srt]:Af Bb 96 Qg:=by
 refine BL Re<|fun(i:(Int×List Int)×(Int×List Int)) j=>?_;obtain⟨a,b⟩:=i;have j:(Bi a&&Bi b)=true:=j;rw[zr]at j;obtain⟨a1,a2,a3,a4,a5,a6⟩:=words j.1;obtain⟨b1,b2,b3,b4,b5,b6⟩:=words j.2;have d:=(EZ a1).1;have h:=(EZ b1).1;have m:=AK<|zm a;have nb:=AK<|zm b;obtain⟨_,t2⟩:=Mb m a6 b6;have n:0<=Ag (zm a)*Ag (zm b):=zp m nb;have n1:B7 (BW<|As (BW<|Ag<|zm a)*As (BW<|Ag<|zm b))=true:=by
  rw[a5,b5];exact(De n t2 ae).1
 have p:Sp.sg (!(decide (zm a<0)==decide (zm b<0))) (As<|BW<|As (BW<|Ag<|zm a)*As (BW<|Ag<|zm b))=zm a*zm b:=by
  rw[a5,b5,show As (BW<|Ag (zm a)*Ag (zm b))=_ from C3 af n, <-Sb]
 have o:∀ob,Ac Qg (a,b) (.agg [.dat i64<|CL<|Sp.sg (!(decide (zm a<0)==decide (zm b<0)))<|As<|BW<|As (BW<|Ag<|zm a)*As (BW<|Ag<|zm b),.dat (.nlist<|.int .u64)<|CH<|Sp.sg (!(decide (zm a<0)==decide (zm b<0)))<|As<|BW<|As (BW<|Ag<|zm a)*As (BW<|Ag<|zm b)]) ob:=fun ob=>ye rfl rfl (by
  show CN _=CN (zm a*zm b);rw[p])
 have q:yk (Ag a.1)=true:=CG (AK _) (by rw[Ai];omega);have ub:yk (Ag b.1)=true:=CG (AK _) (by rw[Ai];omega);refine yn (Aj a b)<|zn (fun k=>zn (fun l=>zi (Fh d.1 d.2)<|zi (Fh h.1 h.2)<|zi (Ad q ub)<|zn (fun e=>zn (fun g=>zn (fun c=>zk<|ye rfl rfl ?_)<|fun c=>zk<|ye rfl rfl ?_)<|fun g=>?_)<|fun e=>?_)<|fun l=>?_)<|fun k=>?_
 ·have e1:=BG<|PZ k;have e2:=BG<|PZ l;have e:(Ag a.1*Ag b.1)/18446744073709551616=0:=by simpa [Q0]using e
  have g:(Ag a.1*Ag b.1) % 18446744073709551616<=9223372036854775807:=w6 g;have p0:0<=Ag a.1*Ag b.1:=zp (AK _)<|AK _;have f:=Sb a.1 b.1;have c:(!(decide (a.1<0)==decide (b.1<0)))=true:=c;rw[c,Dq,wd rfl]at f;show(zc .i64<|0-zc .i64 ((Ag a.1*Ag b.1) % 18446744073709551616),[])=CN (zm a*zm b);rw[e1,e2,f,Cc ae,wr ((Ag a.1*Ag b.1) % 18446744073709551616) ae ae,wr _ ae ae];congr 1;omega
 ·have e1:=BG<|PZ k;have e2:=BG<|PZ l;have e:(Ag a.1*Ag b.1)/18446744073709551616=0:=by simpa [Q0]using e
  have g:(Ag a.1*Ag b.1) % 18446744073709551616<=9223372036854775807:=w6 g;have p0:0<=Ag a.1*Ag b.1:=zp (AK _)<|AK _;have f:=Sb a.1 b.1;have c:(!(decide (a.1<0)==decide (b.1<0)))=false:=c;rw[c,Dq,wc af]at f;show(zc .i64<|(Ag a.1*Ag b.1) % 18446744073709551616,[])=CN (zm a*zm b);rw[e1,e2,f,Cc ae,wr ((Ag a.1*Ag b.1) % 18446744073709551616) ae ae];congr 1;omega
 all_goals exact zi a1<|zi b1<|zi (Ad a2 b2)<|zi n1<|zk<|o _
end T96
end Go.Pe
namespace Go.Sp
def Gy(n:Int):Int:=if n<=0 then 0 else(n.toNat.log2:Int)+1
def lz(n:Int):Int:=64-Gy n
def dq(h l y:Int):Int:=(h*18446744073709551616+l)/y
def dr(h l y:Int):Int:=(h*18446744073709551616+l) % y
end Go.Sp
namespace Go.Pe
open Go.Det
def eZ:An:=⟨[u64],fun n=>yk n,[i64],fun n=>Sp.Gy n,false⟩
def cLZ:An:=⟨[u64],fun n=>yk n,[i64],fun n=>Sp.lz n,false⟩
def RQ:An:=⟨[u64,u64,u64],fun i=>yk i.1&&yk i.2.1&&yk i.2.2&&decide ((i.1:Int)<i.2.2),[u64,u64],fun i=>(Sp.dq i.1 i.2.1 i.2.2,Sp.dr i.1 i.2.1 i.2.2),false⟩
def XD1[Srt]:AX:=X7 [(184,eZ)]
def kF[Srt]:AX:=X7 [(245,cLZ)]
section
open List Int Prod
namespace T184
def T[Srt](x:Int):Tr:=tree eW false 9 184<|Ae ([zl zd]) x
theorem Aj[Srt](x:Int):T x=let a:=([0,1,2,2,3,3,3,3,4,4,4,4,4,4,4,4,5,5,5,5,5,5,5,5,5,5,5,5,5,5,5,5,6,6,6,6,6,6,6,6,6,6,6,6,6,6,6,6,6,6,6,6,6,6,6,6,6,6,6,6,6,6,6,6,7,7,7,7,7,7,7,7,7,7,7,7,7,7,7,7,7,7,7,7,7,7,7,7,7,7,7,7,7,7,7,7,7,7,7,7,7,7,7,7,7,7,7,7,7,7,7,7,7,7,7,7,7,7,7,7,7,7,7,7,7,7,7,7,8,8,8,8,8,8,8,8,8,8,8,8,8,8,8,8,8,8,8,8,8,8,8,8,8,8,8,8,8,8,8,8,8,8,8,8,8,8,8,8,8,8,8,8,8,8,8,8,8,8,8,8,8,8,8,8,8,8,8,8,8,8,8,8,8,8,8,8,8,8,8,8,8,8,8,8,8,8,8,8,8,8,8,8,8,8,8,8,8,8,8,8,8,8,8,8,8,8,8,8,8,8,8,8,8,8,8,8,8,8,8,8,8,8,8,8,8,8,8,8,8,8,8,8,8,8,8,8]:Rd);let b':=zq x<|2^32;let b:=(0:Sh.T (zl z7));let c:=zq x<|2^16;let g:=zq x<|2^8;let d:=zq b'<|2^16;let e:=zq b'<|2^8;let h':=zq c<|2^8;let f:=zq d<|2^8;.di (x>=4294967296) (.ck true<|.di (zq x (2^32)>=65536) (.ck true<|.di (zq b' (2^16)>=256) (.ck true<|.ck (decide (b<=zc .u8 f)&&decide (zc .u8 f<(↑256:Int)))<|.leaf (.dat i64<|zc .i64<|zc .i64 (zc .i64 (32+16)+8)+zc .i64 (↑(ze<|getD a (toNat<|zc .u8 f) (0:UInt8)):Int)) [])<|.ck (decide (b<=zc .u8 d)&&decide (zc .u8 d<(↑256:Int)))<|.leaf (.dat i64<|zc .i64<|zc .i64 (32+16)+zc .i64 (↑(ze<|getD a (toNat<|zc .u8 d) (0:UInt8)):Int)) [])<|.di (zq x (2^32)>=256) (.ck true<|.ck (decide (b<=zc .u8 e)&&decide (zc .u8 e<(↑256:Int)))<|.leaf (.dat i64<|zc .i64<|zc .i64 (32+8)+zc .i64 (↑(ze<|getD a (toNat<|zc .u8 e) (0:UInt8)):Int)) [])<|.ck (decide (b<=zc .u8 b')&&decide (zc .u8 b'<(↑256:Int)))<|.leaf (.dat i64<|zc .i64<|32+zc .i64 (↑(ze<|getD a (toNat<|zc .u8 b') (0:UInt8)):Int)) []) (.di (x>=65536) (.ck true<|.di (zq x (2^16)>=256) (.ck true<|.ck (decide (b<=zc .u8 h')&&decide (zc .u8 h'<(↑256:Int)))<|.leaf (.dat i64<|zc .i64<|zc .i64 (zc .i64 (0+16)+8)+zc .i64 (↑(ze<|getD a (toNat<|zc .u8 h') (0:UInt8)):Int)) [])<|.ck (decide (b<=zc .u8 c)&&decide (zc .u8 c<(↑256:Int)))<|.leaf (.dat i64<|zc .i64<|zc .i64 (0+16)+zc .i64 (↑(ze<|getD a (toNat<|zc .u8 c) (0:UInt8)):Int)) [])<|.di (x>=256) (.ck true<|.ck (decide (b<=zc .u8 g)&&decide (zc .u8 g<(↑256:Int)))<|.leaf (.dat i64<|zc .i64<|zc .i64 (0+8)+zc .i64 (↑(ze<|getD a (toNat<|zc .u8 g) (0:UInt8)):Int)) [])<|.ck (decide (b<=zc .u8 x)&&decide (zc .u8 x<(↑256:Int)))<|.leaf (.dat i64<|zc .i64<|0+zc .i64 (↑(ze<|getD a (toNat<|zc .u8 x) (0:UInt8)):Int)) []):=by kernel_rfl
end T184
namespace T245
def T[Srt](x:Int):Tr:=tree XD1 false 9 245<|Ae ([zl zd]) x
theorem Aj[Srt](x:Int):T x=.ck (yk x) (.leaf (.dat i64<|zc .i64<|64-Sp.Gy x) []):=by kernel_rfl
end T245
namespace T244
def T[Srt](a lo y:Int):Tr:=tree kF false 9 244<|Ae ([zl zd,zl zd,zl zd]) (a,lo,y)
def L1[Srt](v2 g v9 c a f e d b:Int):Tr:=re ((T 0 0 0).R.R.R.L.L.L.L.L.L.L.L)<|AE 135 [(2,.dat (zl zd) v2),(8,.dat (zl zd) g),(9,.dat (zl zd) v9),(10,.dat (zl zd) c),(11,.dat (zl zd) a),(13,.dat (zl zd) f),(14,.dat (zl zd) e),(15,.dat (zl zd) d),(16,.dat (zl zd) b)] [] 0
theorem Aj[Srt](b lo y:Int):T b lo y=let c:=decide (0<=zc .u64 (Sp.lz y));let h:=64-zc .u64 (Sp.lz y);let f:=zc .u64<|Sp.lz y;let d:=toNat f;let i:=zq lo<|2^yo (toNat<|zc .u64 h) 64;let a:=zc .u64<|y*2^yo d 64;let g:=zc .u64<|lo*2^yo d 64;let e:=zc .u64<|b*2^yo d 64;let b':=Zw zd e i;let h':=zq a<|2^32;.ite (y==0) .fail (.di (y<=b) .fail<|.ite (b==0) (.cd (y≠0)<|.cd (y≠0)<|.leaf (.tup [.dat (zl zd)<|zc .u64<|zx lo y,.dat (zl zd)<|yc lo y]) [])<|.ck (yk y)<|.ck c<|.ck true<|.ck c<|.cd (0<=zc .u64 h)<|.ck c<|.ck true<|.cd (zq a (2^32)≠0)<|L1 a f h' (Hc zd a 4294967295) b' (zq g<|2^32) (Hc zd g 4294967295) (zc .u64<|zx b' h')<|zc .u64<|Zw zd e i-zc .u64 (zc .u64 (zx b' h')*zq a (2^32))):=by kernel_rfl
def L2[Srt](v2 g v9 c f e b d a:Int):Tr:=re ((stepT kF<|L1 0 0 0 0 0 0 0 0 0).L.L.L)<|AE 135 [(2,.dat (zl zd) v2),(8,.dat (zl zd) g),(9,.dat (zl zd) v9),(10,.dat (zl zd) c),(14,.dat (zl zd) f),(15,.dat (zl zd) e),(16,.dat (zl zd) b),(17,.dat (zl zd) d),(18,.dat (zl zd) a)] [] 0
theorem Am[Srt](v2 g v9 b f e d a c:Int):stepT kF (L1 v2 g v9 b f e d a c)=let l:=zc .u64 (f*4294967296)+e;let j:=zc .u64<|a-1;let b':=zc .u64 l-zc .u64 (zc .u64 (a-1)*v2);let k:=zc .u64 l-zc .u64 (a*v2);let i:=zc .u64 k;let h:=zc .u64 b';let m:Tr:=.di (zc .u64 (c+v9)>=4294967296) (.cd (v9≠0)<|L2 v2 g v9 b d j (zc .u64<|zc .u64 b'-zc .u64 (zc .u64 (zx h v9)*v9)) h<|zc .u64<|zx h v9)<|L1 v2 g v9 b f e d j<|zc .u64<|c+v9;.di (a>=4294967296) m (.di (zc .u64 (a*b)>zc .u64 (zc .u64 (4294967296*c)+e)) m<|.cd (v9≠0)<|L2 v2 g v9 b d a (zc .u64<|zc .u64 k-zc .u64 (zc .u64 (zx i v9)*v9)) i<|zc .u64<|zx i v9):=by kernel_rfl
theorem AU[Srt](v2 g v9 e d c b f a:Int):stepT kF (L2 v2 g v9 e d c b f a)=let b':=zl zd;let h:=zc .u64 (f*4294967296)+d;let j:=2^yo (toNat g) 64;let i:Tr:=.di (zc .u64 (b+v9)>=4294967296) (.cd (0<=g)<|.leaf (.tup [.dat b'<|zc .u64<|zc .u64 (c*4294967296)+zc .u64 (a-1),.dat b'<|zq (zc .u64<|zc .u64 h-zc .u64 (zc .u64 (a-1)*v2)) j]) [])<|L2 v2 g v9 e d c (zc .u64<|b+v9) f<|zc .u64<|a-1;.di (a>=4294967296) i (.di (zc .u64 (a*e)>zc .u64 (zc .u64 (4294967296*b)+d)) i<|.cd (0<=g)<|.leaf (.tup [.dat b'<|zc .u64<|zc .u64 (c*4294967296)+a,.dat b'<|zq (zc .u64<|zc .u64 h-zc .u64 (a*v2)) j]) []):=by kernel_rfl
end T244
end
namespace T244
variable {Q:PV->Ob->Prop}
def Exact(Y u w q:Int):Prop:=q*Y<=u*4294967296+w/\u*4294967296+w<(q+1)*Y
theorem Xe{Y a b u w q r:Int}(c:Y=a*4294967296+b)(d:q*a+r=u)(h:q*b>4294967296*r+w):u*4294967296+w<q*Y:=by
 subst c;rw[Int.mul_add, <-zu];generalize q*a=A at*;generalize q*b=C at*;omega
theorem Lg{Y a b u w q r:Int}(c:Y=a*4294967296+b)(d:q*a+r=u)(h:q*b<=4294967296*r+w):q*Y<=u*4294967296+w:=by
 subst c;rw[Int.mul_add, <-zu];generalize q*a=A at*;generalize q*b=C at*;omega
theorem UW{Y u w q:Int}(c:u<Y)(a:0<=Y)(d:w<4294967296)(b:4294967296<=q):u*4294967296+w<q*Y:=by
 have:=zh b a;omega
theorem Tg{b c u w r:Int}{n:Nat}{Y:Int}(f:Y=b*4294967296+c)(d:0<=b)(h0:0<=c/\c<4294967296)(g:u<Y)(i:0<=w)(e:(n:Int)*b+r=u)(j:4294967296<=r):(n:Int)*Y<=u*4294967296+w:=by
 have k:(n:Int)<4294967296:=by
  rcases Int.lt_or_le (n:Int) 4294967296 with h|h
  ·exact h
  ·have:=zh h d;omega
 refine Lg f e ?_;have a:=zh (show(n:Int)<=4294967295 by omega) h0.1;omega
theorem Aq[Srt](Y s f g u w z:Int)(v:Y=f*4294967296+g)(F:0<f/\f<4294967296)(h0:0<=g/\g<4294967296)(A:u<Y)(B:0<=w/\w<4294967296)
  (t:∀q:Int,0<=q->Exact Y u w q->Ends kF (L2 Y s f g z q (zc zd<|zc zd (zc zd (zc zd (u*(4294967296:Int))+w)-zc zd (q*Y))-zc zd (zc zd (zx (zc zd<|zc zd (zc zd (u*(4294967296:Int))+w)-zc zd (q*Y)) f)*f)) (zc zd<|zc zd (zc zd (u*(4294967296:Int))+w)-zc zd (q*Y))<|zc zd<|zx (zc zd<|zc zd (zc zd (u*(4294967296:Int))+w)-zc zd (q*Y)) f) Q):
  ∀(n:Nat) (r:Int),(n:Int)<18446744073709551616->(n:Int)*f+r=u->0<=r->r<4294967296->u*4294967296+w<((n:Int)+1)*Y->Ends kF (L1 Y s f g u w z n r) Q:=by
 intro n;induction n with
 |zero=>
  intro r D k C r1 h;have p:decide (f≠0)=true:=w4 ae;refine Ends.Ap (Am ..) (Ends.ff (by simp)<|Ends.ff (w8 ?_)<|zi p<|t _ ae ⟨?_,h⟩)
  ·rw[show((0:Nat):Int)*g=0 by simp,wu 0 ae ae,wu (4294967296*r) ae ae,wu _ ae ae];omega
  ·exact Lg v k (by rw[show((0:Nat):Int)*g=0 by simp];omega)
 |succ n E=>
  intro r D k C r1 h;have p:decide (f≠0)=true:=w4 ae;have e1:zc .u64 (((n+1:Nat):Int)-1)=(n:Int):=by rw[wu _ ae ae];omega
  have e2:zc .u64 (r+f)=r+f:=wu _ ae ae;have x:0<=Y:=ae
  have o:(n:Int)*f+(r+f)=u:=by
   rw[show((n+1:Nat):Int)=(n:Int)+1 by omega,zw,z8]at k;omega
  have y:((n+1:Nat):Int)=(n:Int)+1:=ae
  have l:u*4294967296+w<((n:Int)+1)*Y->r+f<4294967296->Ends kF (L1 Y s f g u w z n<|r+f) Q:=fun i j=>
   E (r+f) ae o ae j i
  have cut:u*4294967296+w<((n:Int)+1)*Y->4294967296<=r+f->Exact Y u w n:=fun i j=>
   ⟨Tg v ae h0 A B.1 o j,i⟩
  refine Ends.Ap (Am ..) ?_;conv=>zeta
  rw[e1,e2];refine zn (fun c=>?_)<|fun c=>zn (fun d=>?_)<|fun d=>?_
  ·have c:=w6 c;have m:u*4294967296+w<((n:Int)+1)*Y:=by rw[<-y];exact UW A x B.2 c
   exact zn (fun e=>zi p<|t _ ae<|cut m<|w6 e) (fun e=>l m (by have:=w7 e;omega))
  ·have c:=w7 c;have d:=w6 d;have a:=zh (show((n+1:Nat):Int)<=4294967295 by omega) h0.1;have b:=zp (show 0<=((n+1:Nat):Int)by omega) h0.1;rw[wu (((n+1:Nat):Int)*g) ae ae,wu (4294967296*r) ae ae,wu _ ae ae]at d;have m:u*4294967296+w<((n:Int)+1)*Y:=by rw[<-y];exact Xe v k d
   exact zn (fun e=>zi p<|t _ ae<|cut m<|w6 e) (fun e=>l m (by have:=w7 e;omega))
  ·have c:=w7 c;have d:=w7 d;have a:=zh (show((n+1:Nat):Int)<=4294967295 by omega) h0.1;have b:=zp (show 0<=((n+1:Nat):Int)by omega) h0.1;rw[wu (((n+1:Nat):Int)*g) ae ae,wu (4294967296*r) ae ae,wu _ ae ae]at d;exact zi p (t _ ae ⟨Lg v k ae,h⟩)
theorem A8[Srt](Y s f g u w p:Int)(x:Y=f*4294967296+g)(G:0<f/\f<4294967296)(h0:0<=g/\g<4294967296)(A:u<Y)(B:0<=w/\w<4294967296)(C:0<=s)
  (v:∀q:Int,0<=q->Exact Y u w q->∀ob,Q (PV.tup [PV.dat (zl zd)<|zc zd<|zc zd (p*(4294967296:Int))+q,PV.dat (zl zd)<|zq (zc zd<|zc zd (zc zd (u*(4294967296:Int))+w)-zc zd (q*Y))<|(2:Int)^yo (Int.toNat s) (64:Nat)]) ob):
  ∀(n:Nat) (r:Int),(n:Int)<18446744073709551616->(n:Int)*f+r=u->0<=r->r<4294967296->u*4294967296+w<((n:Int)+1)*Y->Ends kF (L2 Y s f g w p r u n) Q:=by
 intro n;induction n with
 |zero=>
  intro r D o E r1 h;have m:decide (0<=s)=true:=w4 C;refine Ends.Ap (AU ..) (Ends.ff (by simp) (Ends.ff (w8 ?_)<|zi m<|zk<|v _ ae ⟨?_,h⟩ _))
  ·rw[show((0:Nat):Int)*g=0 by simp,wu 0 ae ae,wu (4294967296*r) ae ae,wu _ ae ae];omega
  ·exact Lg x o (by rw[show((0:Nat):Int)*g=0 by simp];omega)
 |succ n F=>
  intro r D o E r1 h;have m:decide (0<=s)=true:=w4 C;have e1:zc .u64 (((n+1:Nat):Int)-1)=(n:Int):=by rw[wu _ ae ae];omega
  have e2:zc .u64 (r+f)=r+f:=wu _ ae ae;have y:0<=Y:=ae
  have l:(n:Int)*f+(r+f)=u:=by
   rw[show((n+1:Nat):Int)=(n:Int)+1 by omega,zw,z8]at o;omega
  have z:((n+1:Nat):Int)=(n:Int)+1:=ae
  have t:u*4294967296+w<((n:Int)+1)*Y->r+f<4294967296->Ends kF (L2 Y s f g w p (r+f) u n) Q:=fun i j=>
   F (r+f) ae l ae j i
  have cut:u*4294967296+w<((n:Int)+1)*Y->4294967296<=r+f->Exact Y u w n:=fun i j=>
   ⟨Tg x ae h0 A B.1 l j,i⟩
  refine Ends.Ap (AU ..) ?_;conv=>zeta
  rw[e1,e2];refine zn (fun c=>?_)<|fun c=>zn (fun d=>?_)<|fun d=>?_
  ·have c:=w6 c;have k:u*4294967296+w<((n:Int)+1)*Y:=by rw[<-z];exact UW A y B.2 c
   exact zn (fun e=>zi m<|zk<|v _ ae (cut k<|w6 e) _) (fun e=>t k (by have:=w7 e;omega))
  ·have c:=w7 c;have d:=w6 d;have a:=zh (show((n+1:Nat):Int)<=4294967295 by omega) h0.1;have b:=zp (show 0<=((n+1:Nat):Int)by omega) h0.1;rw[wu (((n+1:Nat):Int)*g) ae ae,wu (4294967296*r) ae ae,wu _ ae ae]at d;have k:u*4294967296+w<((n:Int)+1)*Y:=by rw[<-z];exact Xe x o d
   exact zn (fun e=>zi m<|zk<|v _ ae (cut k<|w6 e) _) (fun e=>t k (by have:=w7 e;omega))
  ·have c:=w7 c;have d:=w7 d;have a:=zh (show((n+1:Nat):Int)<=4294967295 by omega) h0.1;have b:=zp (show 0<=((n+1:Nat):Int)by omega) h0.1;rw[wu (((n+1:Nat):Int)*g) ae ae,wu (4294967296*r) ae ae,wu _ ae ae]at d;exact zi m (zk<|v _ ae ⟨Lg x o ae,h⟩ _)
end T244
theorem UB{y:Int}(d:0<y)(e:y<18446744073709551616):∃s:Nat,Sp.lz y=(s:Int)/\s<=63/\y*2^s<18446744073709551616/\9223372036854775808<=y*2^s:=by
 obtain⟨n,rfl⟩:=zo<|yb d;have c:n≠0:=ae
 have f:n.log2<64:=(Nat.log2_lt c).2 ae;have a:=Nat.log2_self_le c;have b:=Nat.lt_log2_self (n:=n);have e1:2^n.log2*2^(63-n.log2)=2^63:=by rw[<-yu];congr 1;omega
 have e2:2^(n.log2+1)*2^(63-n.log2)=2^64:=by rw[<-yu];congr 1;omega
 have g:2^63<=n*2^(63-n.log2):=by rw[<-e1];exact Nat.mul_le_mul_right _ a
 have h:n*2^(63-n.log2)<2^64:=by rw[<-e2];exact Nat.mul_lt_mul_of_pos_right b<|yr _
 refine⟨63-n.log2,?_,by omega,?_,?_⟩
 ·unfold Sp.lz Sp.Gy;rw[wc ae,zy];omega
 ·have:((n*2^(63-n.log2):Nat):Int)<18446744073709551616:=ae
  rw[yi,yf]at this;exact this
 ·have:(9223372036854775808:Int)<=((n*2^(63-n.log2):Nat):Int):=ae
  rw[yi,yf]at this;exact this
theorem Yt{a b:Int}{s:Nat}(d:0<=a)(g:0<=b)(h:b<2^s)(i:a*2^s+b<18446744073709551616):Zw .u64 (a*2^s) b=a*2^s+b:=by
 obtain⟨m,rfl⟩:=zo d;obtain⟨k,rfl⟩:=zo g;have c:((m:Int)*2^s)=((m*2^s:Nat):Int):=by rw[yi,yf];rfl
 have f:k<2^s:=by
  have e:((2:Int)^s)=((2^s:Nat):Int):=by rw[yf];rfl
  rw[e]at h;omega
 rw[c]at i ⊢;have e:(yp 64 ((m*2^s:Nat):Int)|||yp 64 (k:Int)).toNat=m*2^s+k:=by
  rw[BitVec.toNat_or,BitVec.ofInt_natCast,BitVec.ofInt_natCast,BitVec.toNat_ofNat,BitVec.toNat_ofNat,Nat.mod_eq_of_lt ae,Nat.mod_eq_of_lt ae,Nat.mul_comm m,Nat.two_pow_add_eq_or_of_lt f]
 show zc .u64 (((yp 64 ((m*2^s:Nat):Int)|||yp 64 (k:Int)).toNat:Nat):Int)=_;rw[e,gA _ ae];omega
namespace T244
theorem start{u c d Y w:Int}(k:Y=c*4294967296+d)(i:0<c/\c<4294967296)(h0:0<=d)(f:0<=u/\u<18446744073709551616)(m:w<4294967296):
  ∃(n:Nat) (r:Int),zc .u64 (zx u c)=(n:Int)/\zc .u64 (u-zc .u64 ((n:Int)*c))=r/\(n:Int)<18446744073709551616/\(n:Int)*c+r=u/\0<=r/\r<4294967296/\u*4294967296+w<((n:Int)+1)*Y:=by
 have h:0<=u/c:=yt f.1 ae;have q1:u/c<=u:=Int.ediv_le_self _ f.1;have e:=Int.mul_ediv_add_emod u c;have j:=Int.emod_nonneg u (show c≠0 by omega);have r1:=Int.emod_lt_of_pos u i.1;rw[zz]at e;obtain⟨n,g⟩:=zo h;have l:0<=(n:Int)*c:=zp ae ae;rw[g]at e;refine⟨n,u % c,?_,?_,by omega,e,j,by omega,?_⟩
 ·rw[ym f.1,g,wu _ ae ae]
 ·rw[wu ((n:Int)*c) ae ae,wu _ ae ae];omega
 ·subst k;have a:((n:Int)+1)*(c*4294967296+d)=((n:Int)*c+c)*4294967296+((n:Int)+1)*d:=by
   rw[Int.mul_add, <-zu,zw,z8]
  have b:0<=((n:Int)+1)*d:=zp ae h0;rw[a];omega
theorem QX{u w q Y:Int}(c:Exact Y u w q)(d:Y<18446744073709551616):zc .u64 (zc .u64 (zc .u64 (u*(4294967296:Int))+w)-zc .u64 (q*Y))=u*4294967296+w-q*Y:=by
 obtain⟨a,b⟩:=c;rw[zw,z8]at b;rw[KP,KP,KP,KP];generalize q*Y=A at*;omega
theorem rF[Srt](h:Af Bb 245 cLZ):Dn kF:=Aa h AO
set_option maxHeartbeats 1000000 in
theorem ok[Srt](H:Af Bb 245 cLZ):Af Bb 244 RQ:=by
 refine MW (X:=kF) rfl (rF H) (d:=9) ag ag ag (fun(i:Int×Int×Int) v=>?_) (BK ag);obtain⟨e,lo,y⟩:=i;have v:(yk e&&yk lo&&yk y&&decide (e<y))=true:=v;rw[zr,zr,zr,w5]at v;obtain⟨⟨⟨A,f⟩,E⟩,h4⟩:=v;have uy:=E;have A:=Sp.A3 A;have f:=Sp.A3 f;have E:=Sp.A3 E;have hg:∀q r ob,q=Sp.dq e lo y->r=Sp.dr e lo y->Ac RQ (e,lo,y) (PV.tup [PV.dat (zl zd) q,PV.dat (zl zd) r]) ob:=fun q r ob e1 e2=>ye rfl rfl (Prod.ext e1 e2)
 refine yn (Aj e lo y) (Ends.ff (by simp;omega)<|Ends.ff (w8 ae)<|zn (fun c=>?_)<|fun c=>?_)
 ·have c:e=0:=by simpa using c
  subst c;have q0:0<=lo/y:=yt f.1 ae;have q1:lo/y<=lo:=Int.ediv_le_self _ f.1;refine zi (w4 ae) (zi (w4 ae)<|zk<|hg _ _ _ ?_ ?_)
  ·unfold Sp.dq;rw[ym f.1,wu _ ae ae,Int.zero_mul,yq]
  ·unfold Sp.dr;rw[Int.tmod_eq_emod_of_nonneg f.1,Int.zero_mul,yq]
 ·have c:e≠0:=by simpa using c
  obtain⟨s,hs,hs63,P,F⟩:=UB (y:=y) ae E.2;have es:zc .u64 (s:Int)=(s:Int):=gA s ae;have em:yo s 64=s:=ae
  have I:zc .u64 ((64:Int)-(s:Int))=((64-s:Nat):Int):=by rw[wu _ ae ae];omega
  have O:yo (64-s) 64=64-s:=ae
  have g:(2:Int)^s*2^(64-s)=18446744073709551616:=by rw[<-Int.pow_add,show s+(64-s)=64 by omega];rfl
  have h:(0:Int)<2^s:=Int.pow_pos af;have hR:(0:Int)<2^(64-s):=Int.pow_pos af;have a0:0<=lo/2^(64-s):=yt f.1 ae;have V:=Int.mul_ediv_add_emod lo<|2^(64-s);have c0:=Int.emod_nonneg lo (show(2:Int)^(64-s)≠0 by omega);have c1:=Int.emod_lt_of_pos lo hR;have aP:lo/2^(64-s)<2^s:=Int.ediv_lt_of_lt_mul hR (by rw[g];exact f.2);have hiP:e*2^s+2^s<=y*2^s:=by
   have:=zh (show e+1<=y by omega)<|yb h;rw[zw,z8]at this;exact this
  have R:0<=e*2^s:=zp A.1<|yb h;have N:zq lo ((2:Int)^(64-s))=lo/2^(64-s):=yd _ ae;have eio:Zw .u64 (e*2^s) (lo/2^(64-s))=e*2^s+lo/2^(64-s):=Yt A.1 a0 aP ae;have J:0<=(lo % 2^(64-s))*2^s:=zp c0<|yb h;have G:(lo % 2^(64-s))*2^s<18446744073709551616:=by
   have:=Int.mul_lt_mul_of_pos_right c1 h;rw[zz<|2^(64-s),g]at this;exact this
  have k:lo*2^s=(lo/2^(64-s))*18446744073709551616+(lo % 2^(64-s))*2^s:=by
   conv=>lhs;rw[<-V]
   rw[zw, <-g,zz (2^(64-s))<|lo/2^(64-s),zu,zz (2^(64-s))<|2^s]
  have T:zc .u64 (lo*2^s)=(lo % 2^(64-s))*2^s:=by rw[k,KP];omega
  have hN:(e*2^s+lo/2^(64-s))*18446744073709551616+(lo % 2^(64-s))*2^s=(e*18446744073709551616+lo)*2^s:=by
   rw[zw (e*18446744073709551616) lo<|2^s,k,zu e 18446744073709551616<|2^s,zz 18446744073709551616<|(2:Int)^s, <-zu];omega
  have W:zc .u64 (y*2^s)=y*2^s:=wu _ ae ae;have L:zc .u64 (e*2^s)=e*2^s:=wu _ R ae;have z0:decide ((0:Int)<=(s:Int))=true:=w4 ae;have fin:∀q:Int,q*(y*2^s)<=(e*18446744073709551616+lo)*2^s->(e*18446744073709551616+lo)*2^s<(q+1)*(y*2^s)->q=Sp.dq e lo y/\zq ((e*18446744073709551616+lo)*2^s-q*(y*2^s)) (2^s)=Sp.dr e lo y:=by
   intro q B x;unfold Sp.dq Sp.dr;generalize e*18446744073709551616+lo=M at*;rw[<-zu]at B x;have g1:q*y<=M:=Int.le_of_mul_le_mul_right B h;have g2:M<(q+1)*y:=Int.lt_of_mul_lt_mul_right x<|yb h;rw[zw,z8]at g2;obtain⟨u1,u2⟩:=(Int.ediv_emod_unique (a:=M) (b:=y) (r:=M-q*y) (q:=q) ae).2 ⟨by rw[zz y q];omega,by omega,by omega⟩;refine⟨u1.symm,?_⟩;rw[u2, <-zu, <-Int.sub_mul,yd _<|yb h];exact Int.mul_ediv_cancel _ ae
  obtain⟨Y,eY⟩:=zo (show 0<=y*2^s by omega);obtain⟨C,eC⟩:=zo J;have hU0:0<=e*2^s+lo/2^(64-s):=ae
  have j:e*2^s+lo/2^(64-s)<y*2^s:=ae
  rw[hs,es,I,zy,zy,em,O,W,L,N,eio,T];rw[eC]at hN G ⊢;rw[eY]at P F j fin ⊢;generalize hU:e*2^s+lo/2^(64-s)=U at*;generalize hM:(e*18446744073709551616+lo)*2^s=M at*;rw[ZB,ZB,Oy Y ae,Oy C ae];have D:(Y:Int)=((Y/4294967296:Nat):Int)*4294967296+((Y % 4294967296:Nat):Int):=ae
  have l:0<((Y/4294967296:Nat):Int)/\((Y/4294967296:Nat):Int)<4294967296:=ae
  have o:0<=((Y % 4294967296:Nat):Int)/\((Y % 4294967296:Nat):Int)<4294967296:=ae
  have w1:0<=((C/4294967296:Nat):Int)/\((C/4294967296:Nat):Int)<4294967296:=ae
  have w0:0<=((C % 4294967296:Nat):Int)/\((C % 4294967296:Nat):Int)<4294967296:=ae
  have hC:(C:Int)=((C/4294967296:Nat):Int)*4294967296+((C % 4294967296:Nat):Int):=ae
  generalize ((Y/4294967296:Nat):Int)=y1 at*;generalize ((Y % 4294967296:Nat):Int)=y0 at*;generalize ((C/4294967296:Nat):Int)=w at*;generalize ((C % 4294967296:Nat):Int)=z at*;refine zi uy (zi z0<|zi rfl (zi z0<|zi (w4 ae)<|zi z0<|zi rfl (zi (w4 ae) ?_)));obtain⟨n,r,e1,e2,n1,n2,n3,n4,n5⟩:=start (u:=U) (w:=w) D l o.1 ae w1.2;rw[e1,e2];refine Aq (Y:Int) s y1 y0 U w z D l o j w1 (fun p p0 K=>?_) n r n1 n2 n3 n4 n5;have er:=QX K ae;rw[er];have hp1:=K.1;have hp2:=K.2;rw[zw,z8]at hp2;obtain⟨m,t,k1,k2,m1,m2,m3,m4,m5⟩:=start (u:=U*4294967296+w-p*Y) (w:=z) D l o.1 ae w0.2;rw[k1,k2];refine A8 (Y:Int) s y1 y0 _ z p D l o ae w0 ae (fun q q0 hq ob=>?_) m t m1 m2 m3 m4 m5;rw[QX hq ae,zy,em];obtain⟨hq1,hq2⟩:=hq;have Z:(p*4294967296+q)*(Y:Int)=p*Y*4294967296+q*Y:=by
   rw[zw,zu,zz 4294967296 (Y:Int), <-zu]
  have S:(p*4294967296+q+1)*(Y:Int)=p*Y*4294967296+q*Y+Y:=by
   rw[zw,Z,z8]
  rw[zw,z8]at hq2;obtain⟨B,x⟩:=fin (p*4294967296+q) (by rw[Z];omega) (by rw[S];omega);refine hg _ _ _ ?_ ?_
  ·have hb:Sp.dq e lo y<18446744073709551616:=by
    unfold Sp.dq;refine Int.ediv_lt_of_lt_mul ae ?_;have:=Int.mul_le_mul_of_nonneg_left (show e+1<=y by omega) (show(0:Int)<=18446744073709551616 by decide);omega
   rw[<-B]at hb ⊢;rw[KP,KP];omega
  ·rw[<-x,Z];congr 1;omega
end T244
open Sp
theorem gU(x k:Nat)(h:2^k<=x):x.log2=k+(x/2^k).log2:=by
 have d:=yr k;have f:x/2^k≠0:=by
  have:=Nat.div_pos h d;omega
 have e:x≠0:=ae
 refine(Nat.log2_eq_iff e).2 ⟨?_,?_⟩
 ·rw[yu];exact Nat.le_trans (Nat.mul_le_mul_left _<|Nat.log2_self_le f)<|Nat.mul_div_le x<|2^k
 ·rw[Nat.add_assoc,yu];have a:x/2^k+1<=2^((x/2^k).log2+1):=Nat.lt_log2_self;have b:=Nat.mul_le_mul_left (2^k) a;have c:=Nat.lt_mul_div_succ x d;exact Nat.lt_of_lt_of_le c b
theorem PI(x k:Nat)(h:2^k<=x):Gy (x:Int)=(k:Int)+Gy ((x/2^k:Nat):Int):=by
 have a:=yr k;have b:=Nat.div_pos h a;have e:=gU x k h;unfold Gy;rw[wc ae,wc ae,zy,zy,e];omega
theorem yJ(n k:Nat):zq (n:Int) ((2:Int)^k)=((n/2^k:Nat):Int):=by
 have:(0:Int)<2^k:=Int.pow_pos af;rw[yd _ ae,Int.natCast_ediv,yf];rfl
def zB:Rd:=[(0:UInt8),1,2,2,3,3,3,3,4,4,4,4,4,4,4,4,5,5,5,5,5,5,5,5,5,5,5,5,5,5,5,5,6,6,6,6,6,6,6,6,6,6,6,6,6,6,6,6,6,6,6,6,6,6,6,6,6,6,6,6,6,6,6,6,7,7,7,7,7,7,7,7,7,7,7,7,7,7,7,7,7,7,7,7,7,7,7,7,7,7,7,7,7,7,7,7,7,7,7,7,7,7,7,7,7,7,7,7,7,7,7,7,7,7,7,7,7,7,7,7,7,7,7,7,7,7,7,7,8,8,8,8,8,8,8,8,8,8,8,8,8,8,8,8,8,8,8,8,8,8,8,8,8,8,8,8,8,8,8,8,8,8,8,8,8,8,8,8,8,8,8,8,8,8,8,8,8,8,8,8,8,8,8,8,8,8,8,8,8,8,8,8,8,8,8,8,8,8,8,8,8,8,8,8,8,8,8,8,8,8,8,8,8,8,8,8,8,8,8,8,8,8,8,8,8,8,8,8,8,8,8,8,8,8,8,8,8,8,8,8,8,8,8,8,8,8,8,8,8,8,8,8,8,8,8,8]
theorem Yf:∀m:Fin 256,((ze (zB.getD m.val 0):Nat):Int)=Gy (m.val:Int)/\zc .u8 (m.val:Int)=(m.val:Int)/\Gy (m.val:Int)<=8/\0<=Gy (m.val:Int):=by decide+kernel
theorem MU{b:Int}(a z x:Nat)(e:b=a)(f:a<=64)(d:z<256)(c:Gy (x:Int)=(a:Int)+Gy (z:Int)):zc .i64 (b+zc .i64 ((ze (zB.getD (Int.toNat<|zc .u8 (z:Int)) 0):Nat):Int))=Gy x:=by
 obtain⟨e1,e2,e3,e4⟩:=Yf ⟨z,d⟩;have e1:((ze (zB.getD z 0):Nat):Int)=Gy (z:Int):=e1;have e2:zc .u8 (z:Int)=(z:Int):=e2;have e3:Gy (z:Int)<=8:=e3;have e4:0<=Gy (z:Int):=e4;rw[e2,zy,e1,e,c,wr (Gy (z:Int)) ae ae,wr _ ae ae]
theorem sZ(z:Nat)(a:z<256):(decide ((0:Sh.T (zl z7))<=zc z7 (z:Int))&&decide (zc z7 (z:Int)<(↑(256:Nat):Int)))=true:=by
 obtain⟨_,e2,_,_⟩:=Yf ⟨z,a⟩;have e2:zc .u8 (z:Int)=(z:Int):=e2;rw[e2];exact Ad (w4<|show(0:Int)<=(z:Int)by omega) (w4 ae)
namespace T184
set_option maxHeartbeats 1000000 in
set_option maxRecDepth 100000 in
theorem ok[Srt]:Af Bb 184 eZ:=by
 refine BL I2<|fun(x:Int) f=>?_;have f:=Sp.A3 (n:=x) f;obtain⟨x,rfl⟩:=zo f.1;refine yn (Aj (x:Int)) ?_;conv=>zeta
 conv=>zeta
 rw[yJ x 32,yJ x 16,yJ x 8,yJ (x/2^32) 16,yJ (x/2^32) 8,yJ (x/2^32/2^16) 8,yJ (x/2^16) 8];have i:=PI x 32;have j:=PI x 16;have k:=PI x 8;have e:=PI (x/2^32) 16;have h:=PI (x/2^32) 8;have d:=PI (x/2^32/2^16) 8;have g:=PI (x/2^16) 8;refine zn (fun c=>zi rfl (zn (fun b=>zi rfl (zn (fun a=>zi rfl (zi (sZ _ ?_)<|zk<|ye rfl rfl (MU 56 _ x (by decide+kernel) af ?_ ?_)))<|fun a=>zi (sZ _ ?_)<|zk<|ye rfl rfl (MU 48 _ x (by decide+kernel) af ?_ ?_)))<|fun b=>zn (fun a=>zi rfl (zi (sZ _ ?_)<|zk<|ye rfl rfl (MU 40 _ x (by decide+kernel) af ?_ ?_)))<|fun a=>zi (sZ _ ?_)<|zk<|ye rfl rfl (MU 32 _ x rfl af ?_ ?_))) (fun c=>zn (fun b=>zi rfl (zn (fun a=>zi rfl (zi (sZ _ ?_)<|zk<|ye rfl rfl (MU 24 _ x (by decide+kernel) af ?_ ?_)))<|fun a=>zi (sZ _ ?_)<|zk<|ye rfl rfl (MU 16 _ x (by decide+kernel) af ?_ ?_)))<|fun b=>zn (fun a=>zi rfl (zi (sZ _ ?_)<|zk<|ye rfl rfl (MU 8 _ x (by decide+kernel) af ?_ ?_)))<|fun a=>zi (sZ _ ?_)<|zk<|ye rfl rfl (MU 0 _ x rfl af ?_ ?_));all_goals
  first
   |replace c:=w6 c
   |replace c:=w7 c
  first
   |replace b:=w6 b
   |replace b:=w7 b
  first
   |replace a:=w6 a
   |replace a:=w7 a
  omega
end T184
theorem rL[Srt]:Dn XD1:=Aa T184.ok AO
theorem qA{n:Int}(a:0<=n)(b:n<18446744073709551616):0<=Sp.Gy n/\Sp.Gy n<=64:=by
 unfold Sp.Gy;split
 ·omega
 ·have:n.toNat.log2<64:=(Nat.log2_lt ae).2 ae;omega
namespace T245
theorem ok[Srt]:Af Bb 245 cLZ:=by
 refine BL rL<|fun(x:Int) hx=>?_;have h:=Sp.A3 (n:=x) hx;have a:=qA h.1 h.2;refine yn (Aj x)<|zi hx<|zk<|ye rfl rfl ?_;show zc .i64 (64-Sp.Gy x)=Sp.lz x;unfold Sp.lz;exact wr _ ae ae
end T245
theorem jL[Srt]:Af Bb 244 RQ:=T244.ok T245.ok
end Go.Pe
namespace Go.Sp
def qT(a b:List Int):Bool:=B7 a&&B7 b&&decide (a.length<=9000)&&decide (b.length<=9000)&&decide (0<As b)
end Go.Sp
namespace Go.Pe
open Sp
open Go.Det
def Hw:An:=⟨[C4,C4],fun i=>qT i.1 i.2,[C4,C4],fun i=>(BW<|As i.1/As i.2,BW<|As i.1 % As i.2),false⟩
def JE[Srt]:AX:=X7 [(167,XJ),(229,Wc),(160,Rh),(228,Wj),(230,WG),(244,RQ),(245,cLZ)]
end Go.Pe
namespace Go.Sp
def Kf(c:UInt8):Int:=(c.toNat:Int)-48
def BI(c:UInt8):Bool:=decide (48<=c.toNat)&&decide (c.toNat<=57)
def AA(n:Int):Rd->Int
 |[]=>n
 |c::r=>AA (10*n+Kf c) r
def Al(s:Rd):Bool:=s.all BI
theorem CO:∀(n:Int) (a b:Rd),AA n (a++b)=AA (AA n a) b
 |_,[],_=>rfl
 |n,c::a,b=>by rw[List.cons_append,AA,AA,CO]
theorem Ep:∀(s:Rd) (n:Int),AA n s=n*10^s.length+AA 0 s
 |[],n=>by simp[AA]
 |c::s,n=>by
  rw[AA,AA,Ep s<|10*n+Kf c,Ep s<|10*0+Kf c,List.length_cons,Int.pow_succ,zw,Int.mul_zero,yq,zz 10 n,zu,zz 10<|10^s.length,Int.add_assoc]
theorem EM{c:UInt8}(h:BI c=true):0<=Kf c/\Kf c<=9:=by
 unfold BI at h;rw[zr,w5,w5]at h;unfold Kf;omega
theorem Bd:∀ {s:Rd},Al s=true->0<=AA 0 s/\AA 0 s<10^s.length
 |[],_=>by simp[AA]
 |c::s,h=>by
  unfold Al at h;rw[List.all_cons,zr]at h;have a:=EM h.1;have b:=Bd (s:=s) h.2;have d:=Bc (show(0:Int)<10 by decide) s.length;have e:=zp a.1<|yb d;have f:=zh a.2<|yb d;rw[AA,Ep,List.length_cons,Int.pow_succ,Int.mul_zero,yq,zz (10^s.length) 10];omega
theorem Be{s:Rd}(h:Al s=true)(i:Nat):Al (s.take i)=true:=by
 grind [Al]
theorem BQ{s:Rd}(h:Al s=true)(i:Nat):Al (s.drop i)=true:=by
 grind [Al]
def AV(s:Rd):Bool:=decide (s≠[])&&Al s&&(decide (s.getD 0 0≠48)||decide (s=[48]))
def FI(a b:AF):AF:=if vI a<0/\Ag (vI a) % vI b≠0 then M5 (CN<| -(Ag (vI a)/vI b)) (1,[])else CN<|sg (decide (vI a<0))<|Ag (vI a)/vI b
def Yd(a b:AF):Int:=(FI a b).1
def Xp(a b:AF):List Int:=(FI a b).2
def jJ(a b:AF):Int:=CL<|vI a % vI b
def kB(a b:AF):List Int:=CH<|vI a % vI b
def gI(a b:Int):Int:=if a<0 then -(-(Int.gcd a b:Int))else(Int.gcd a b:Int)
theorem FN(a b:Int):gI a b=(Int.gcd a b:Int):=by unfold gI;split<;>omega
def ME(a b:AF):Int:=CL<|gI (vI a)<|vI b
def MP(a b:AF):List Int:=CH<|gI (vI a)<|vI b
def pI(a k:Int):Int:=if k<0 then -(-(a^k.toNat))else a^k.toNat
theorem Vg(a k:Int):pI a k=a^k.toNat:=by unfold pI;split<;>omega
def nE(a k:Int):Bool:=decide (0<=k)&&decide (k<=100000)&&decide (Ag (pI a k)<(18446744073709551616:Int)^(4000:Nat))
def Uk(a:AF)(k:Int):Int:=CL<|pI (vI a) k
def Ux(a:AF)(k:Int):List Int:=CH<|pI (vI a) k
def BV(n:Int):List Int:=if n<0 then[]else[]
theorem Fk(n:Int):BV n=[]:=by unfold BV;split<;>rfl
def Bg(s:Rd):Int:=if s.getD 0 0=45 then -AA 0 (s.drop 1)else AA 0 s
def C1(s:Rd):Bool:=decide (s.length<=5999)&&(if s.getD 0 0=45 then Al (s.drop 1)else Al s)
def Dc(s:Rd):Int:=CL<|Bg s
def Da(s:Rd):List Int:=CH<|Bg s
end Go.Sp
namespace Go.Pe
open Sp
open Go.Det
def GV:An:=⟨[A0,A0],fun i=>Bi i.1&&Bi i.2&&decide (0<zm i.2),[A0,A0],fun i=>((Yd i.1 i.2,Xp i.1 i.2),(jJ i.1 i.2,kB i.1 i.2)),false⟩
def XF:An:=⟨[A0,A0],fun i=>Bi i.1&&Bi i.2,[A0],fun i=>(ME i.1 i.2,MP i.1 i.2),false⟩
def aV:An:=⟨[A0,i64],fun i=>Bi i.1&&nE (zm i.1) i.2,[A0],fun i=>(Uk i.1 i.2,Ux i.1 i.2),false⟩
def N4:An:=⟨[.str],fun s=>C1 s,[A0],fun s=>(Dc s,Da s),false⟩
def TK:An:=⟨[i64],fun _=>true,[A0],fun n=>(n,BV n),false⟩
def zN[Srt]:AX:=bK [(173,[9,10])] [] [(173,[(9,[3,4,5,8,12,13]),(10,[3,4,5,14,15])])] [(97,TK),(192,Hw),(162,Vy),(163,jW),(174,iN),(102,O5),(158,Md)]
def XF0[Srt]:AX:=X7 []
def XF2[Srt]:AX:=X7 [(173,GV),(172,uX),(158,Md)]
def zL[Srt]:AX:=X7 [(97,TK),(96,Qg)]
end Go.Pe
namespace Go.Sp
abbrev B9:Nat:=1000000000
def JU(l:List Int):Bool:=decide (l.length<=20000)&&l.all fun d=>decide (0<=d)&&decide (d<1000000000)
def hR(l:List Int):Bool:=JU l&&decide (l.length<=9000)
def A1(l:List Int):Bool:=JU l&&yS l
def Ak(l:List Int):Int:=val B9 l
def BA(n:Int):List Int:=dg B9 n
def rN(n:Int):Bool:=decide (n<0)
def rW(n:Int):List Int:=BA<|Ag n
def Cy(neg:Bool)(w:List Int):Bool:=neg&&decide (Aw w≠[])
def DN(s:Rd):Bool:=decide (s.length<=18)&&Al s
def BJ(s:Rd):Int:=AA 0 s
def E6(s:Rd):Bool:=rN<|Bg s
def DL(s:Rd):List Int:=rW<|Bg s
def Cg(a b:List Int):List Int:=BA<|gI (Ak a)<|Ak b
end Go.Sp
namespace Go.Pe
open Sp
open Go.Det
abbrev li:Sh:=.list i64
abbrev Hz:Sh:=.pair .bool li
def S1:An:=⟨[li],fun l=>decide (yg (α:=Int) l<=20000),[li],fun l=>Aw l,false⟩
def GN:An:=⟨[.bool,li],fun i=>decide (yg (α:=Int) i.2<=20000),[Hz],fun i=>(Cy i.1 i.2,Aw i.2),false⟩
def XG:An:=⟨[li,li],fun i=>A1 i.1&&A1 i.2,[i64],fun i=>Cb (Ak i.1)<|Ak i.2,false⟩
def Xr:An:=⟨[li,li],fun i=>Sp.hR i.1&&Sp.hR i.2,[li],fun i=>BA<|Ak i.1*Ak i.2,false⟩
def WI:An:=⟨[li,i64],fun i=>JU i.1&&decide (0<(i.2:Int))&&decide ((i.2:Int)<1000000000),[li,i64],fun i=>(BA<|Ak i.1/i.2,Ak i.1 % i.2),false⟩
def Q2:An:=⟨[li,li],fun i=>A1 i.1&&A1 i.2&&decide (yg (α:=Int) i.1<=9000)&&decide (yg (α:=Int) i.2<=9000)&&decide (0<Ak i.2),[li,li],fun i=>(BA<|Ak i.1/Ak i.2,BA<|Ak i.1 % Ak i.2),false⟩
def KX:An:=⟨[li,li],fun i=>A1 i.1&&A1 i.2&&decide (yg (α:=Int) i.1<=9000)&&decide (yg (α:=Int) i.2<=9000),[li],fun i=>Cg i.1 i.2,false⟩
def SQ:An:=⟨[.str],fun s=>DN s,[i64],fun s=>BJ s,false⟩
def Nv:An:=⟨[.str],fun s=>C1 s,[Hz],fun s=>(E6 s,DL s),false⟩
def lX[Srt]:AX:=X7 []
def aM[Srt]:AX:=X7 [(188,S1)]
def LX[Srt]:AX:=X7 [(130,XG),(188,S1),(187,WI),(132,Xr)]
def XG3[Srt]:AX:=X7 [(127,Q2)]
def aN[Srt]:AX:=X7 [(125,SQ),(128,GN)]
end Go.Pe
namespace Go.Sp
def Dh:Rd:=[48,49,50,51,52,53,54,55,56,57]
def tQ(o:List Bool):List Bool:=(List.range 256).map fun j=>o.getD j false
def tN:List Bool:=List.replicate 256 false
def OI(s:Rd):Rd:=((s.reverse.dropWhile BI).reverse).dropWhile BI
def NX(s:Rd)(c:Int):Int:=match s.findIdx? (fun x=>x==c.toNat.toUInt8)with
 |some i=>(i:Int)
 |none=> -1
def AB(s:Rd):Rd:=match s.findIdx? (fun x=>x==47)with
 |some i=>s.take i
 |none=>s
def AR(s:Rd):Rd:=match s.findIdx? (fun x=>x==47)with
 |some i=>s.drop<|i+1
 |none=>[]
def Bw(s:Rd):Bool:=s.any<|fun x=>x==47
def A6(s:Rd):Rd:=if s.getD 0 0=45 then s.drop 1 else s
def preB(s:Rd):Bool:=decide (s.getD 0 0=45)
def uQ(s t:Rd):Bool:=decide (t=Dh)&&decide (s.length<=1000000)
def wB(s t:Rd):Bool:=decide (t=[47])&&decide (s.length<=1000000)
def bC(s t:Rd):Bool:=decide (t=[45])&&decide (s.length<=1000000)
end Go.Sp
namespace Go.Pe
open Sp
open Go.Det
def VP:An:=⟨[.str,.str],fun i=>uQ i.1 i.2,[.str],fun i=>OI i.1,false⟩
def tJ:An:=⟨[.str,.int .u8],fun i=>decide (0<=(i.2:Int))&&decide ((i.2:Int)<256),[i64],fun i=>NX i.1 i.2,false⟩
def lG:An:=⟨[.str,.str],fun i=>wB i.1 i.2,[.str,.str,.bool],fun i=>(AB i.1,Sp.AR i.1,Bw i.1),false⟩
def uH:An:=⟨[.str,.str],fun i=>bC i.1 i.2,[.str,.bool],fun i=>(A6 i.1,Sp.preB i.1),false⟩
def Wn:An:=⟨[.str],fun s=>decide (s.length<=1000000),[.bool],fun s=>AV s,false⟩
def Nn[Srt]:AX:=X7 []
def aD[Srt]:AX:=X7 [(236,⟨[.str,.str],fun _=>false,[.str],fun i=>i.1,false⟩),(237,⟨[.str,.str],fun _=>false,[.str],fun i=>i.1,false⟩),(231,⟨[.str,.int .u8],fun _=>false,[.str],fun i=>i.1,false⟩),(232,⟨[.str,.int .u8],fun _=>false,[.str],fun i=>i.1,false⟩)]
def XH1[Srt]:AX:=X7 [(171,VP)]
def XH2[Srt]:AX:=X7 [(300,tJ)]
def Qc[Srt]:AX:=X7 [(97,TK),(156,aV),(96,Qg),(102,O5),(157,Tf),(267,⟨[.str,i64,i64],fun _=>false,[i64],fun _=>(0:Int),false⟩),(227,⟨[.str],fun _=>false,[i64],fun _=>(0:Int),false⟩)]
end Go.Pe
namespace Go.Sp
def F5(a:Rd):Bool:=AV (AB<|A6 a)&&(!preB a||decide (AB (A6 a)≠[48]))&&(!Bw (A6 a)||(AV (AR<|A6 a)&&decide (AR (A6 a)≠[48])&&decide (AR (A6 a)≠[49])))
def nM(a:Rd):Int:=AA 0<|AB<|A6 a
def rH(a:Rd):Int:=AA 0<|AR<|A6 a
def AH(a:Rd):Int:=if F5 a=false then 1 else if 600<(AB<|A6 a).length\/600<(AR<|A6 a).length then 4 else if Bw (A6 a)=true/\gI (nM a) (rH a)≠1 then 1 else 0
def AW(s:Rd):Int:=((AB s).length:Int)
def H5(a:Rd):Bool:=C1 (AB a)&&C1 (AR a)&&decide (a.length<=5999)
def Bf(a:Rd):Int:=Bg<|AB a
def AS(a:Rd):Int:=if Bw a=true then Bg (AR a)else 1
def BF(a:Rd):Bool:=rN<|Bf a
def By(a:Rd):List Int:=rW<|Bf a
def Bl(a:Rd):Bool:=rN<|AS a
def Bh(a:Rd):List Int:=rW<|AS a
end Go.Sp
namespace Go.Pe
open Sp
open Go.Det
def FZ:An:=⟨[.str],fun s=>decide (s.length<=1000000),[i64],fun s=>AH s,false⟩
def OM:An:=⟨[.str],fun s=>decide (s.length<=1000000),[i64],fun s=>AW s,false⟩
def Rp:An:=⟨[.str],fun s=>decide (s.length<=9223372036854775807),[i64],fun s=>AH s,false⟩
def Xd:An:=⟨[.str],fun s=>decide (s.length<=9223372036854775807),[i64],fun s=>AW s,false⟩
def SU:An:=⟨[.str],fun s=>decide (s.length<=9223372036854775807),[.bool],fun s=>AV s,false⟩
def Jw:An:=⟨[i64],fun n=>Cx n,[Hz],fun n=>(Sp.rN n,Sp.rW n),false⟩
def Nt:An:=⟨[.str],fun s=>H5 s,[Hz,Hz],fun s=>((BF s,By s),(Bl s,Bh s)),false⟩
def LZ[Srt]:AX:=bK [(61,[4,6,7,9,10])] [] [(61,[(4,[5,6,7,8]),(6,[5,6,7,8]),(7,[5,6,7,9]),(9,[5,6,7]),(10,[10])])] [(115,GB),(116,JK),(113,uH),(92,lG),(114,Wn),(117,XF),(94,N4),(118,jI),(97,TK)]
def sP[Srt]:AX:=X7 [(128,GN)]
def XK3[Srt]:AX:=X7 [(104,OM),(124,Nv),(109,Jw)]
def UM[Srt]:AX:=bK [(48,[4,7,9,11,13,14])] [] [(48,[(4,[0,3]),(7,[3,4]),(9,[3,4]),(11,[3,4]),(13,[5,6]),(14,[7])])] [(104,Xd),(105,SU),(74,Nt),(106,KX)]
end Go.Pe
namespace Go.Sp
abbrev Ah:=(Int×List Int)×(Int×List Int)
def P7(a:AF):Bool:=Du a&&decide (a.2.length<=4000)
def D2(a:Ah):Bool:=P7 a.1&&P7 a.2
def Iq(a b:Ah):Int:=Cb (vI a.1*vI b.2)<|vI b.1*vI a.2
def jQ(a:Rd):Int:=CL<|Bf a
def jF(a:Rd):List Int:=CH<|Bf a
def VI(a:Rd):Int:=CL<|AS a
def WN(a:Rd):List Int:=CH<|AS a
def iQ(a b:AF):AF:=if vI b<0 then FI (C0 a) (C0 b)else FI a b
def iQS(a b:AF):Int:=(iQ a b).1
def iQW(a b:AF):List Int:=(iQ a b).2
def DQ(d:AF):Bool:=decide (d.2=[])&&decide (d.1=1)
def gR(n d:AF):AF:=(ME n d,MP n d)
def LI(n d:AF):Ah:=if DQ d=true then(n,d)else(iQ n<|gR n d,iQ d<|gR n d)
def U5(n d:AF):Ah:=if vI d<0 then LI (C0 n) (C0 d)else LI n d
def fWh(n:AF):Ah:=(n,(1,BV 1))
def Gt(a b:Ah):Ah:=if DQ a.2=true/\DQ b.2=true then fWh (Eg a.1 b.1)else U5 (Eg (E3 a.1 b.2)<|E3 b.1 a.2)<|E3 a.2 b.2
def JD(a b:Ah):Ah:=U5 (E3 a.1 b.1)<|E3 a.2 b.2
def zF(a:Ah):Ah:=(C0 a.1,a.2)
def Ta(a b:Ah):Ah:=Gt a<|zF b
def Uj(a:Ah):Ah:=U5 a.2 a.1
def Hu(a b:Ah):Ah:=JD a<|Uj b
def nS(f:Ah):Int:=f.1.1
def nW(f:Ah):List Int:=f.1.2
def dS(f:Ah):Int:=f.2.1
def dW(f:Ah):List Int:=f.2.2
def lQ(n d:AF):Int:=nS<|U5 n d
def cU(n d:AF):List Int:=nW<|U5 n d
def lK(n d:AF):Int:=dS<|U5 n d
def aZ(n d:AF):List Int:=dW<|U5 n d
def uP(a b:Ah):Int:=nS<|Gt a b
def uL(a b:Ah):List Int:=nW<|Gt a b
def tU(a b:Ah):Int:=dS<|Gt a b
def uR(a b:Ah):List Int:=dW<|Gt a b
def Aac(a b:Ah):Int:=nS<|Ta a b
def AaT(a b:Ah):List Int:=nW<|Ta a b
def AaI(a b:Ah):Int:=dS<|Ta a b
def AbC(a b:Ah):List Int:=dW<|Ta a b
def tG(a b:Ah):Int:=nS<|JD a b
def tH(a b:Ah):List Int:=nW<|JD a b
def sR(a b:Ah):Int:=dS<|JD a b
def uT(a b:Ah):List Int:=dW<|JD a b
def Abv(a:Ah):Int:=nS<|Uj a
def Aao(a:Ah):List Int:=nW<|Uj a
def Aay(a:Ah):Int:=dS<|Uj a
def Aap(a:Ah):List Int:=dW<|Uj a
def tL(a b:Ah):Int:=nS<|Hu a b
def uV(a b:Ah):List Int:=nW<|Hu a b
def uU(a b:Ah):Int:=dS<|Hu a b
def sY(a b:Ah):List Int:=dW<|Hu a b
def zR(a:Ah):Int:=Yd a.1 a.2
def zI(a:Ah):List Int:=Xp a.1 a.2
def CZ(a:Ah):Bool:=D2 a&&decide (0<vI a.2)
def JZ(n d:AF):Bool:=Bi n&&Bi d&&decide (vI d≠0)
end Go.Sp
namespace Go.Pe
open Sp
open Go.Det
abbrev AL:Sh:=.pair A0 A0
def YE:An:=⟨[.str],fun s=>H5 s,[AL],fun s=>((jQ s,jF s),(VI s,WN s)),false⟩
def fH:An:=⟨[AL,AL],fun i=>Sp.D2 (i.1:Ah)&&Sp.D2 (i.2:Ah),[i64],fun i=>Iq (i.1:Ah) (i.2:Ah),false⟩
def cIQ:An:=⟨[A0,A0],fun i=>JZ i.1 i.2,[A0],fun i=>(Sp.iQS i.1 i.2,Sp.iQW i.1 i.2),false⟩
def cV:An:=⟨[A0,A0],fun i=>JZ i.1 i.2,[AL],fun i=>((lQ i.1 i.2,cU i.1 i.2),(lK i.1 i.2,aZ i.1 i.2)),false⟩
def Um:An:=⟨[AL],fun _=>true,[.bool],fun a=>DQ (a:Ah).2,false⟩
def iV:An:=⟨[A0],fun _=>true,[AL],fun n=>((n:AF),((1:Int),BV 1)),false⟩
def cF:An:=⟨[i64],fun _=>true,[AL],fun n=>(((n:Int),BV n),((1:Int),BV 1)),false⟩
def tV:An:=⟨[AL],fun a=>Du (a:Ah).1,[AL],fun a=>((Ek (a:Ah).1,Ej (a:Ah).1),((a:Ah).2.1,(a:Ah).2.2)),false⟩
def Q1:An:=⟨[AL,AL],fun i=>Sp.CZ (i.1:Ah)&&Sp.CZ (i.2:Ah),[AL],fun i=>((uP i.1 i.2,uL i.1 i.2),(tU i.1 i.2,uR i.1 i.2)),false⟩
def uC:An:=⟨[AL,AL],fun i=>Sp.CZ (i.1:Ah)&&Sp.CZ (i.2:Ah),[AL],fun i=>((Aac i.1 i.2,AaT i.1 i.2),(AaI i.1 i.2,AbC i.1 i.2)),false⟩
def Xf:An:=⟨[AL,AL],fun i=>Sp.CZ (i.1:Ah)&&Sp.CZ (i.2:Ah),[AL],fun i=>((tG i.1 i.2,tH i.1 i.2),(sR i.1 i.2,uT i.1 i.2)),false⟩
def tD:An:=⟨[AL],fun a=>Sp.CZ (a:Ah)&&decide (zm (a:Ah).1≠0),[AL],fun a=>((Abv a,Aao a),(Aay a,Aap a)),false⟩
def Qp:An:=⟨[AL,AL],fun i=>Sp.CZ (i.1:Ah)&&Sp.CZ (i.2:Ah)&&decide (zm (i.2:Ah).1≠0),[AL],fun i=>((tL i.1 i.2,uV i.1 i.2),(uU i.1 i.2,sY i.1 i.2)),false⟩
def dZ:An:=⟨[AL],fun a=>Sp.CZ (a:Ah),[A0],fun a=>(zR a,zI a),false⟩
def lU[Srt]:AX:=bK [(159,[3])] [] [(159,[(3,[2,3,4])])] [(158,Md),(157,Tf),(173,GV),(117,XF),(97,TK),(102,O5),(96,Qg),(118,jI),(92,lG),(94,N4)]
def wH[Srt]:AX:=bK [(95,[3,6])] [] [(95,[(3,[2,3,4]),(6,[2,3,4,5])])] [(158,Md),(157,Tf),(117,XF),(159,cIQ)]
def xO[Srt]:AX:=bK [(46,[3])] [] [(46,[(3,[2,3,4])])] [(101,Um),(93,iV),(102,O5),(96,Qg),(95,cV)]
def XA3[Srt]:AX:=X7 [(103,tV),(46,Q1),(42,Xf),(98,tD)]
end Go.Pe
namespace Go.Sp
def SZ(a:Rd):Rd:=if Bw a=true then AR a else[49]
def Kd(a:Rd)(n:Int):Bool:=decide ((a.length:Int)<=2*n+2)&&decide (AH a=0)&&decide (((A6<|AB a).length:Int)<=n)&&decide (((SZ a).length:Int)<=n)
end Go.Sp
namespace Go.Pe
open Go.Det
def cD:An:=⟨[.str,i64],fun i=>decide (0<=(i.2:Int))&&decide ((i.2:Int)<=1000),[.bool],fun i=>Sp.Kd i.1 i.2,false⟩
def YK:An:=⟨[.str],fun s=>decide (s.length<=1000000),[.str],fun s=>Sp.A6 s,false⟩
def gK:An:=⟨[.str],fun s=>decide (s.length<=1000000),[.str],fun s=>Sp.AB s,false⟩
def XO:An:=⟨[.str],fun s=>decide (s.length<=1000000),[.str],fun s=>Sp.SZ s,false⟩
def XM5[Srt]:AX:=X7 [(104,OM)]
def XM3[Srt]:AX:=X7 [(48,FZ),(70,YK),(71,gK),(72,XO)]
end Go.Pe
namespace Go.Sp
def D4(a:Rd):Bool:=decide (a.length<=20)&&decide ((AB<|A6 a).length<=9)&&decide ((AR<|A6 a).length<=9)
def IG(a:Rd):Int:=if preB a=true then -AA 0 (AB<|A6 a)else AA 0<|AB<|A6 a
def SK(a:Rd):Int:=if Bw (A6 a)=true then AA 0 (AR<|A6 a)else 1
def GH(a:Rd):Int:=if a=[48]then 0 else if a.getD 0 0=45 then -1 else 1
def KI(a:Rd):Rd:=if a=[48]then a else if a.getD 0 0=45 then a.drop 1 else 45::a
def Hx:Nat->Nat->Nat->Rd->Rd
 |0,_,_,a=>a
 |f+1,n,l,a=>if n=0/\l<=a.length then a else Hx f (n/10) l (UInt8.ofNat (48+n % 10)::a)
def Ij(n l:Int):Rd:=Hx 64 n.toNat l.toNat []
def Aa5(a b:Int):Bool:=decide (0<=a)&&decide (a<9223372036854775808)&&decide (0<=b)&&decide (b<9223372036854775808)
end Go.Sp
namespace Go.Pe
open Go.Det
def tM:An:=⟨[i64,i64],fun i=>Sp.Aa5 i.1 i.2,[i64],fun i=>Sp.gI i.1 i.2,false⟩
def Rk:An:=⟨[.str],fun s=>decide (s.length<=1000000),[i64],fun s=>Sp.GH s,false⟩
def kD:An:=⟨[.str],fun s=>decide (s.length<=1000000),[.str],fun s=>Sp.KI s,false⟩
def Oz:An:=⟨[i64,i64],fun i=>decide (0<=(i.1:Int))&&decide ((i.1:Int)<9223372036854775808)&&decide (0<=(i.2:Int))&&decide ((i.2:Int)<=20),[.str],fun i=>Sp.Ij i.1 i.2,false⟩
def Ns[Srt]:AX:=bK [(73,[5,7,11,13])] [] [(73,[(5,[5,6]),(7,[5,6]),(11,[5,6,7,8,9]),(13,[6,8,9])])] [(125,SQ),(104,OM)]
def XO2[Srt]:AX:=X7 [(107,Rk)]
end Go.Pe
namespace Go.Sp
open Go.Lib
theorem FC(a d:Nat)(c:0<a)(b:d<10):decDigits (10*a+d)=decDigits a++[UInt8.ofNat<|48+d]:=by
 rw[decDigits,dif_neg ae,show(10*a+d)/10=a from by omega,show(10*a+d) % 10=d from by omega]
theorem bP(a d:Nat)(c:0<a)(b:d<10):nDigits (10*a+d)=nDigits a+1:=by
 rw[nDigits_big ae,show(10*a+d)/10=a from by omega]
def Sa(k b:Nat):Rd:=List.replicate (k-nDigits b) 48++decDigits b
theorem Qn(k b d:Nat)(c:1<=k)(a:d<10):Sa (k+1) (10*b+d)=Sa k b++[UInt8.ofNat<|48+d]:=by
 unfold Sa;rcases Nat.eq_zero_or_pos b with rfl|e
 ·rw[Nat.mul_zero,Nat.zero_add,nDigits_small a,decDigits_one a,nDigits_small ae,decDigits_one ae];obtain⟨j,rfl⟩:∃j,k=j+1:=⟨k-1,by omega⟩;simp_all [List.replicate_succ']
 grind [bP,FC]
theorem Xk:∀(k a b:Nat),1<=k->0<a->b<10^k->decDigits (a*10^k+b)=decDigits a++Sa k b
 |0,_,_,h,_,_=>by omega
 |1,a,b,_,c,d=>by
  rw[Nat.mul_comm,FC a b c d];simp_all [Sa,nDigits_small,decDigits_one]
 |k+2,a,b,_,c,d=>by
  have j:b=10*(b/10)+b % 10:=ae
  have e:b/10<10^(k+1):=by
   grind
  have i:a*10^(k+2)+b=10*(a*10^(k+1)+b/10)+b % 10:=by
   grind
  have l:0<a*10^(k+1):=Nat.mul_pos c ae;have g:=Xk (k+1) a (b/10) ae c e;have f:=Qn (k+1) (b/10) (b % 10) ae ae;rw[i,FC _ _ ae ae,g,List.append_assoc, <-f, <-j]
end Go.Sp
namespace Go.Pe
open Sp
open Go.Det
section
open List Int Prod
namespace T41
def T[Srt](s:Rd):Tr:=tree lU false 9 41<|Ae ([zf]) s
theorem Aj[Srt](s:Rd):T s=.ck (wB s [(47:UInt8)]) (.ite (!Bw s) (.ck (C1<|AB s)<|.ck true<|.leaf (zt [.dat i64<|Dc<|AB s,.dat wU<|Da<|AB s,.dat i64 (1:Int),.dat wU<|BV 1]) [])<|.ck (C1<|AB s)<|.ck (C1<|Sp.AR s)<|.leaf (zt [.dat i64<|Dc<|AB s,.dat wU<|Da<|AB s,.dat i64<|Dc<|Sp.AR s,.dat wU<|Da<|Sp.AR s]) []):=by kernel_rfl
end T41
namespace T159
def T[Srt](a b:AF):Tr:=tree lU false 9 159<|Ae ([A0,A0]) (a,b)
def L1[Srt](c o1:Int)(b:List Int)(d:Int)(a:List Int):Tr:=re ((T (0,[]) (0,[])).L.L.L.L)<|AE 21 [(2,.ptr 0 0),(3,.ptr 1 0),(4,.ptr 2 0)] [(2,.box [.dat i64 c,.nil]),(1,.box [.dat i64 o1,.dat wU b]),(0,.box [.dat i64 d,.dat wU a])] 3
theorem Aj[Srt](a b:AF):T a b=.ck (Du b) (.ite (decide (IZ b<0)) (.ck (Du a)<|.ck (Du b)<|L1 0 (Ek b) (Ej b) (Ek a)<|Ej a)<|L1 0 (fst b) (snd b) (fst a)<|snd a):=by kernel_rfl
theorem Am[Srt](d o1:Int)(a:List Int)(c:Int)(b:List Int):stepT lU (L1 d o1 a c b)=.ck (Bi (c,b)&&Bi (o1,a)&&decide (0<zm (o1,a))) (.leaf (zt [.dat i64<|Yd (c,b) (o1,a),.dat wU<|Xp (c,b) (o1,a)]) []):=by kernel_rfl
end T159
namespace T95
def T[Srt](n d:AF):Tr:=tree wH false 9 95<|Ae ([A0,A0]) (n,d)
def L1[Srt](d a o1:Int)(c:List Int)(e:Int)(b:List Int):Tr:=re ((T (0,[]) (0,[])).L.L.L.L)<|AE 34 [(2,.ptr 0 0),(3,.ptr 1 0),(4,.ptr 2 0)] [(2,.box [.dat i64 d,.nil,.dat i64 a,.nil]),(1,.box [.dat i64 o1,.dat wU c]),(0,.box [.dat i64 e,.dat wU b])] 3
theorem Aj[Srt](n d:AF):T n d=.ck (Du d) (.ite (decide (IZ d<0)) (.ck (Du n)<|.ck (Du d)<|L1 0 0 (Ek d) (Ej d) (Ek n)<|Ej n)<|L1 0 0 (fst d) (snd d) (fst n)<|snd n):=by kernel_rfl
def L2[Srt](f:Int)(a:List Int)(g b o1:Int)(d:List Int)(e:Int)(c:List Int):Tr:=re ((stepT wH<|L1 0 0 0 [] 0 []).L.R.L)<|AE 34 [(2,.ptr 0 0),(3,.ptr 1 0),(4,.ptr 2 0),(5,.ptr 3 0)] [(3,.box [.dat i64 f,.dat wU a]),(2,.box [.dat i64 g,.nil,.dat i64 b,.nil]),(1,.box [.dat i64 o1,.dat wU d]),(0,.box [.dat i64 e,.dat wU c])] 4
theorem Am[Srt](e c o1:Int)(a:List Int)(d:Int)(b:List Int):stepT wH (L1 e c o1 a d b)=let f:Tr:=.ck (Bi (d,b)&&Bi (o1,a))<|L2 (ME (d,b) (o1,a)) (MP (d,b) (o1,a)) e c o1 a d b;.ite (!decide (0<length a)) (.ite (o1==1) (.leaf (zt [.dat i64 d,.dat wU b,.dat i64 o1,.dat wU a]) []) f) f:=by kernel_rfl
theorem AU[Srt](d:Int)(a:List Int)(g e o1:Int)(c:List Int)(f:Int)(b:List Int):stepT wH (L2 d a g e o1 c f b)=.ck (JZ (f,b) (d,a)) (.ck (JZ (o1,c) (d,a))<|.leaf (zt [.dat i64<|Sp.iQS (f,b) (d,a),.dat wU<|Sp.iQW (f,b) (d,a),.dat i64<|Sp.iQS (o1,c) (d,a),.dat wU<|Sp.iQW (o1,c) (d,a)]) []):=by kernel_rfl
end T95
namespace T101
def T[Srt](a:Ah):Tr:=tree lU false 9 101<|Ae ([AL]) a
theorem Aj[Srt](a:Ah):T a=.ite (!decide (0<length (snd<|snd a))) (.leaf (.dat zj<|fst (snd a)==1) []) (.leaf (.bl false) []):=by kernel_rfl
end T101
namespace T93
def T[Srt](n:AF):Tr:=tree lU false 9 93<|Ae ([A0]) n
theorem Aj[Srt](n:AF):T n=.ck true (.leaf (zt [.dat i64<|fst n,.dat wU<|snd n,.dat i64 (1:Int),.dat wU<|BV 1]) []):=by kernel_rfl
end T93
namespace T103
def T[Srt](a:Ah):Tr:=tree lU false 9 103<|Ae ([AL]) a
theorem Aj[Srt](a:Ah):T a=.ck (Du<|fst a) (.leaf (zt [.dat i64<|Ek<|fst a,.dat wU<|Ej<|fst a,.dat i64<|fst<|snd a,.dat wU<|snd<|snd a]) []):=by kernel_rfl
end T103
namespace T46
def T[Srt](a b:Ah):Tr:=tree xO false 9 46<|Ae ([AL,AL]) (a,b)
def L1[Srt](i a o1:Int)(e:List Int)(b:Int)(c:List Int)(h:Int)(f:List Int)(g:Int)(d:List Int):Tr:=re ((T ((0,[]),(0,[])) ((0,[]),(0,[]))).L.L.L.R)<|AE 34 [(2,.ptr 0 0),(3,.ptr 1 0),(4,.ptr 2 0)] [(2,.box [.dat i64 i,.nil,.dat i64 a,.nil]),(1,.box [.dat i64 o1,.dat wU e,.dat i64 b,.dat wU c]),(0,.box [.dat i64 h,.dat wU f,.dat i64 g,.dat wU d])] 3
theorem Aj[Srt](a b:Ah):T a b=let c:=L1 0 0 (fst<|fst b) (snd<|fst b) (fst<|snd b) (snd<|snd b) (fst<|fst a) (snd<|fst a) (fst<|snd a)<|snd<|snd a;.ck true (.ite (DQ<|snd a) (.ck true<|.ite (DQ<|snd b) (.ck (Bi (fst a)&&Bi (fst b))<|.ck true<|.leaf (zt [.dat i64<|JH (fst a)<|fst b,.dat wU<|JQ (fst a)<|fst b,.dat i64 (1:Int),.dat wU<|BV 1]) []) c) c):=by kernel_rfl
theorem Am[Srt](l g o1:Int)(e:List Int)(a:Int)(b:List Int)(i:Int)(f:List Int)(d:Int)(c:List Int):stepT xO (L1 l g o1 e a b i f d c)=let b':=(ER (d,c) (a,b),EP (d,c) (a,b));let j:=(ER (i,f) (a,b),EP (i,f) (a,b));let k:=(ER (o1,e) (d,c),EP (o1,e) (d,c));let h:=(JH j k,JQ j k);.ck (Bi (i,f)&&Bi (a,b)) (.ck (Bi (o1,e)&&Bi (d,c))<|.ck (Bi j&&Bi k)<|.ck (Bi (d,c)&&Bi (a,b))<|.ck (JZ h b')<|.leaf (zt [.dat i64<|lQ h b',.dat wU<|cU h b',.dat i64<|lK h b',.dat wU<|aZ h b']) []):=by kernel_rfl
end T46
namespace T42
def T[Srt](a b:Ah):Tr:=tree xO false 9 42<|Ae ([AL,AL]) (a,b)
theorem Aj[Srt](a b:Ah):T a b=let c:=(ER (fst a)<|fst b,EP (fst a)<|fst b);let b':=(ER (snd a)<|snd b,EP (snd a)<|snd b);.ck (Bi (fst a)&&Bi (fst b)) (.ck (Bi (snd a)&&Bi (snd b))<|.ck (JZ c b')<|.leaf (zt [.dat i64<|lQ c b',.dat wU<|cU c b',.dat i64<|lK c b',.dat wU<|aZ c b']) []):=by kernel_rfl
end T42
namespace T98
def T[Srt](a:Ah):Tr:=tree xO false 9 98<|Ae ([AL]) a
theorem Aj[Srt](a:Ah):T a=.ck (JZ (snd a)<|fst a) (.leaf (zt [.dat i64<|lQ (snd a)<|fst a,.dat wU<|cU (snd a)<|fst a,.dat i64<|lK (snd a)<|fst a,.dat wU<|aZ (snd a)<|fst a]) []):=by kernel_rfl
end T98
namespace T47
def T[Srt](a b:Ah):Tr:=tree XA3 false 9 47<|Ae ([AL,AL]) (a,b)
theorem Aj[Srt](a b:Ah):T a b=let c:=((Ek<|fst b,Ej<|fst b),fst<|snd b,snd<|snd b);let b':=((fst a),fst<|snd a,snd<|snd a);.ck (Du<|fst b) (.ck (Sp.CZ b'&&Sp.CZ c)<|.leaf (zt [.dat i64<|uP b' c,.dat wU<|uL b' c,.dat i64<|tU b' c,.dat wU<|uR b' c]) []):=by kernel_rfl
end T47
namespace T44
def T[Srt](a b:Ah):Tr:=tree XA3 false 9 44<|Ae ([AL,AL]) (a,b)
theorem Aj[Srt](a b:Ah):T a b=let b':=((fst a),fst<|snd a,snd<|snd a);let d:=((fst b),fst<|snd b,snd<|snd b);let c:=Uj d;.ck (Sp.CZ d&&decide (zm (fst b)≠0)) (.ck (Sp.CZ b'&&Sp.CZ c)<|.leaf (zt [.dat i64<|tG b' c,.dat wU<|tH b' c,.dat i64<|sR b' c,.dat wU<|uT b' c]) []):=by kernel_rfl
end T44
namespace T64
def T[Srt](a b:Ah):Tr:=tree lU false 9 64<|Ae ([AL,AL]) (a,b)
theorem Aj[Srt](a b:Ah):T a b=let c:=(ER (fst a)<|snd b,EP (fst a)<|snd b);let b':=(ER (fst b)<|snd a,EP (fst b)<|snd a);.ck (Bi (fst a)&&Bi (snd b)) (.ck (Bi (fst b)&&Bi (snd a))<|.ck (Bi c&&Bi b')<|.leaf (.dat i64<|YY c b') []):=by kernel_rfl
end T64
namespace T165
def T[Srt](a:Ah):Tr:=tree lU false 9 165<|Ae ([AL]) a
theorem Aj[Srt](a:Ah):T a=.ck (Bi (fst a)&&Bi (snd a)&&decide (0<zm (snd a))) (.leaf (zt [.dat i64<|Yd (fst a)<|snd a,.dat wU<|Xp (fst a)<|snd a]) []):=by kernel_rfl
end T165
namespace T104
def T[Srt](s:Rd):Tr:=tree Nn false 9 104<|Ae ([zf]) s
def L1[Srt](v0:Rd)(v3:Int):Tr:=re ((T []))<|AE 17 [(0,.dat zf v0),(3,.dat i64 v3)] [] 0
theorem Aj[Srt](s:Rd):T s=L1 s 0:=by kernel_rfl
theorem Am[Srt](v0:Rd)(v3:Int):stepT Nn (L1 v0 v3)=let a:=(length v0:Int);.di (v3<a) (.ck (decide (0<=v3)&&decide (v3<a))<|.ite ((↑(ze<|getD v0 (toNat v3) (0:UInt8)):Int)==47) (.leaf (.dat i64 v3) [])<|L1 v0<|zc .i64<|v3+1) (.leaf (.dat i64 a) []):=by kernel_rfl
end T104
namespace T105
def T[Srt](s:Rd):Tr:=tree Nn false 9 105<|Ae ([zf]) s
def L1[Srt](s v0:Rd)(v3:Int):Tr:=re ((T s).R.L.L.R)<|AE 20 [(0,.dat zf v0),(3,.dat i64 v3)] [] 0
def L2[Srt](s v0:Rd)(v3:Int):Tr:=re ((T s).R.R)<|AE 20 [(0,.dat zf v0),(3,.dat i64 v3)] [] 0
theorem Aj[Srt](s:Rd):T s=let a:=(length s:Int);.ite (a==0) (.leaf (.bl false) []) (.di (a>1) (.cd (0<a)<|.ite ((↑(ze<|getD s 0 (0:UInt8)):Int)==48) (.leaf (.bl false) [])<|L1 s s 0)<|L2 s s 0):=by kernel_rfl
theorem Am[Srt](s v0:Rd)(v3:Int):stepT Nn (L1 s v0 v3)=let a:=decide (v3<(length v0:Int));let b':=(↑(ze<|getD v0 (toNat v3) (0:UInt8)):Int);.ite a (.ck (decide (0<=v3)&&a)<|.di (b'<48) (.leaf (.bl false) [])<|.ck (decide (0<=v3)&&a)<|.di (b'>57) (.leaf (.bl false) [])<|L1 s v0<|zc .i64<|v3+1) (.leaf (.bl true) []):=by kernel_rfl
theorem AU[Srt](s v0:Rd)(v3:Int):stepT Nn (L2 s v0 v3)=let a:=decide (v3<(length v0:Int));let b':=(↑(ze<|getD v0 (toNat v3) (0:UInt8)):Int);.ite a (.ck (decide (0<=v3)&&a)<|.di (b'<48) (.leaf (.bl false) [])<|.ck (decide (0<=v3)&&a)<|.di (b'>57) (.leaf (.bl false) [])<|L2 s v0<|zc .i64<|v3+1) (.leaf (.bl true) []):=by kernel_rfl
end T105
namespace T109
def T[Srt](n:Int):Tr:=tree sP false 9 109<|Ae ([zl IntKind.i64]) n
def L1[Srt](v0:Int)(v4:Bool):Tr:=re ((T 0))<|AE 25 [(0,.dat i64 v0),(2,.ptr 0 0),(3,.nil),(4,.dat zj v4)] [(0,.box [.bl false,.nil])] 1
theorem Aj[Srt](n:Int):T n=L1 n (decide (n<0)):=by kernel_rfl
def L2[Srt](v0:Int)(a:Nat)(v4:Bool)(o1:List Int):Tr:=re ((stepT sP<|L1 0 false).L.L.L.L.L)<|AE 25 [(0,.dat i64 v0),(2,.ptr 0 0),(3,.sl 1 1 0 a none),(4,.dat zj v4)] [(1,.arr false 3 i64 o1),(0,.box [.bl false,.nil])] 2
theorem Am[Srt](v0:Int)(v4:Bool):stepT sP (L1 v0 v4)=let a:=aa 8;let b':=zc .i64<|zx v0 1000000000;.ite (v0 !=0) (.ck true<|.di (yc v0 1000000000<0) (.ck a<|.ck true<|L2 b' 1 v4<|[zc .i64<|0-yc v0 1000000000])<|.ck a<|.ck true<|L2 b' 1 v4<|[yc v0 1000000000]) (.cd (0<=20000)<|.leaf (zt [.dat zj<|Sp.Cy v4 [],.dat (zg i64)<|Sp.Aw []]) []):=by kernel_rfl
theorem AU[Srt](v0:Int)(a:Nat)(v4:Bool)(o1:List Int):stepT sP (L2 v0 a v4 o1)=let b:=ac a (length o1) 8;let b':=zc .i64<|zx v0 1000000000;.ite (v0 !=0) (.ck true<|.di (yc v0 1000000000<0) (.ck b<|.ck true<|L2 b' (yj a 1) v4<|o1++[zc .i64<|0-yc v0 1000000000])<|.ck b<|.ck true<|L2 b' (yj a 1) v4<|o1++[yc v0 1000000000]) (.ck (decide (0+a<=length o1)&&true&&decide (length (take a o1)<=20000))<|.leaf (zt [.dat zj<|Sp.Cy v4<|take a o1,.dat (zg i64)<|Sp.Aw<|take a o1]) []):=by kernel_rfl
end T109
namespace T74
def T[Srt](a:Rd):Tr:=tree XK3 false 9 74<|Ae ([zf]) a
theorem Aj[Srt](a:Rd):T a=let b':=zc .i64<|AW a+1;let c:=take (toNat<|AW a) a;let b:=take (z6 (length a)<|toNat b')<|drop (toNat b') a;.cd (length a<=1000000) (.ite (AW a==(length a:Int)) (.ck (C1 a)<|.ck true<|.leaf (.tup [zt [.dat zj<|E6 a,.dat (zg i64)<|DL a],zt [.dat zj false,.dat (zg i64)<|Sp.rW 1]]) [])<|.ck (decide (0<=AW a)&&decide (0<=toNat (AW a))&&decide (toNat (AW a)<=length a))<|.ck (decide (0<=zc .i64 (AW a+1))&&true&&decide (toNat b'<=length a)&&decide (length a<=length a))<|.ck (C1 c)<|.ck (C1 b)<|.leaf (.tup [zt [.dat zj<|E6 c,.dat (zg i64)<|DL c],zt [.dat zj<|E6 b,.dat (zg i64)<|DL b]]) []):=by kernel_rfl
end T74
namespace T48
def T[Srt](a:Rd):Tr:=tree UM false 9 48<|Ae ([zf]) a
def L1[Srt](v0 v3:Rd):Tr:=re ((T []).L.L.L.L)<|AE 96 [(0,.dat zf v0),(3,.dat zf v3)] [] 0
theorem Aj[Srt](a:Rd):T a=.di ((length a:Int)>0) (.cd (0<(length a:Int))<|.ite ((↑(ze<|getD a 0 (0:UInt8)):Int)==45) (.ck (decide (1<=length a)&&decide (length a<=length a))<|L1 a<|take (z6 (length a) 1)<|drop 1 a)<|L1 a a) (L1 a a):=by kernel_rfl
def L2[Srt](v3:Rd)(v4:Int):Tr:=re ((stepT UM<|L1 [] []).L.L.L.R.L.L.L.R)<|AE 96 [(3,.dat zf v3),(4,.dat i64 v4)] [] 0
theorem Am[Srt](v0 v3:Rd):stepT UM (L1 v0 v3)=let b':=AW v3;let b:Tr:=.leaf (.dat i64 (1:Int)) [];let a:=decide (0<=AW v3)&&decide (0<=toNat b')&&decide (toNat b'<=length v3);.cd (length v3<=9223372036854775807) (.ck a<|.cd (length (take (toNat b') v3)<=9223372036854775807)<|.ite (!AV (take (toNat b') v3)) b<|.cd (0<(length v0:Int))<|.ite ((↑(ze<|getD v0 0 (0:UInt8)):Int)==45) (.ck a<|.ite (take (toNat b') v3==[(48:UInt8)]) b<|L2 v3 b')<|L2 v3 b'):=by kernel_rfl
def L3[Srt](v3:Rd)(v4:Int):Tr:=re ((stepT UM<|L2 [] 0).L.L.L.R.L.R.L.R)<|AE 96 [(3,.dat zf v3),(4,.dat i64 v4)] [] 0
theorem AU[Srt](v3:Rd)(v4:Int):stepT UM (L2 v3 v4)=let c:Tr:=.leaf (.dat i64 (1:Int)) [];let d:=zc .i64<|v4+1;let b:=decide (0<=zc .i64 (v4+1))&&true&&decide (toNat d<=length v3)&&decide (length v3<=length v3);let b':=toNat d;let a:=z6 (length v3) b';.di (v4<(length v3:Int)) (.ck b<|.cd (length (take a<|drop b' v3)<=9223372036854775807)<|.ite (!AV (take a<|drop b' v3)) c<|.ck b<|.ite (take a (drop b' v3)==[(48:UInt8)]) c<|.ck b<|.ite (take a (drop b' v3)==[(49:UInt8)]) c<|L3 v3 v4) (L3 v3 v4):=by kernel_rfl
def L4[Srt](v3:Rd)(v4:Int):Tr:=re ((stepT UM<|L3 [] 0).R.R)<|AE 96 [(3,.dat zf v3),(4,.dat i64 v4)] [] 0
theorem BH[Srt](v3:Rd)(v4:Int):stepT UM (L3 v3 v4)=let a:Tr:=.leaf (.dat i64 (4:Int)) [];.di (v4>600) a (.di (zc .i64 (zc .i64 ((length v3:Int)-v4)-1)>600) a<|L4 v3 v4):=by kernel_rfl
def L5[Srt](o1:Bool)(b:List Int)(c:Bool)(a:List Int):Tr:=re ((stepT UM<|L4 [] 0).L.L)<|AE 96 [(5,.ptr 0 0),(6,.ptr 1 0)] [(1,.box [.dat zj o1,.dat (zg i64) b]),(0,.box [.dat zj c,.dat (zg i64) a])] 2
theorem CA[Srt](v3:Rd)(v4:Int):stepT UM (L4 v3 v4)=.di (v4<(length v3:Int)) (.ck (H5 v3)<|L5 (Bl v3) (Bh v3) (BF v3)<|By v3) (.leaf (.dat i64 (0:Int)) []):=by kernel_rfl
def L6[Srt](a:List Int):Tr:=re ((stepT UM<|L5 false [] false []).L)<|AE 96 [(7,.dat (zg i64) a)] [] 0
theorem FO[Srt](o1:Bool)(b:List Int)(c:Bool)(a:List Int):stepT UM (L5 o1 b c a)=.ck (A1 a&&A1 b&&decide (length a<=9000)&&decide (length b<=9000)) (L6<|Cg a b):=by kernel_rfl
theorem Lr[Srt](a:List Int):stepT UM (L6 a)=let b:Tr:=.leaf (.dat i64 (1:Int)) [];.ite ((length a:Int) !=1) b (.cd (0<(length a:Int))<|.ite (getD a 0 0 !=1) b<|.leaf (.dat i64 (0:Int)) []):=by kernel_rfl
end T48
namespace T115
def T[Srt](l:List Int):Tr:=tree Nn false 9 115<|Ae ([zg i64]) l
def L1[Srt](v5:List Int)(a b:Int):Tr:=re ((T []))<|AE 15 [(5,.dat (zg i64) v5),(6,.dat i64 a),(7,.dat i64 b)] [] 0
theorem Aj[Srt](l:List Int):T l=L1 l ((length l:Int)) 0:=by kernel_rfl
theorem Am[Srt](v5:List Int)(b a:Int):stepT Nn (L1 v5 b a)=.di (a<b) (.ck (decide (0<=a)&&decide (a<(length v5:Int)))<|.ite (getD v5 (toNat a) 0 !=0) (.leaf (.dat i64<|getD v5 (toNat a) 0) [])<|L1 v5 b<|zc .i64<|a+1) (.leaf (.dat i64 (0:Int)) []):=by kernel_rfl
end T115
namespace T116
def T[Srt](b:Bool)(e:Int):Tr:=tree Nn false 9 116<|Ae ([zj,zl IntKind.i64]) (b,e)
theorem Aj[Srt](b:Bool)(e:Int):T b e=.ite b (.leaf (.dat i64 e) []) (.leaf (.dat i64 (0:Int)) []):=by kernel_rfl
end T116
namespace T61
def T[Srt](a:Rd):Tr:=tree LZ false 9 61<|Ae ([zf]) a
def L1[Srt](v5 b:Rd)(a:Bool):Tr:=re ((T []).L.L.L.L.L)<|AE 76 [(5,.dat zf v5),(6,.dat zf b),(7,.dat zj a),(8,.bl true)] [] 0
def L2[Srt](v5 c:Rd)(b a:Bool):Tr:=re ((T []).L.L.L.L.R)<|AE 76 [(5,.dat zf v5),(6,.dat zf c),(7,.dat zj b),(8,.dat zj a)] [] 0
def L3[Srt](v5 b:Rd)(a:Bool):Tr:=re ((T []).L.L.L.R)<|AE 76 [(5,.dat zf v5),(6,.dat zf b),(7,.dat zj a),(8,.bl false)] [] 0
theorem Aj[Srt](a:Rd):T a=let b:=AB<|A6 a;let b':=Sp.AR<|A6 a;let c:=Bw<|A6 a;.ck (bC a [(45:UInt8)]) (.ck (wB (A6 a) [(47:UInt8)])<|.cd (length b<=1000000)<|.ite (AV b) (.ite (!Sp.preB a) (L1 b b' c)<|L2 b b' c<|!AB (A6 a)==[(48:UInt8)])<|L3 b b' c):=by kernel_rfl
def L4[Srt](v5 c:Rd)(b a:Bool):Tr:=re ((stepT LZ<|L1 [] [] false).L.L.L.L)<|AE 76 [(5,.dat zf v5),(6,.dat zf c),(7,.dat zj b),(8,.dat zj a)] [] 0
def L5[Srt](v5 b:Rd)(a:Bool):Tr:=re ((stepT LZ<|L1 [] [] false).L.L.L.R)<|AE 76 [(5,.dat zf v5),(6,.dat zf b),(7,.dat zj a),(8,.bl false)] [] 0
def L6[Srt](v5 b:Rd)(a:Bool):Tr:=re ((stepT LZ<|L1 [] [] false).R)<|AE 76 [(5,.dat zf v5),(6,.dat zf b),(7,.dat zj a),(8,.bl true)] [] 0
theorem Am[Srt](v5 a:Rd)(b:Bool):stepT LZ (L1 v5 a b)=.ite b (.cd (length a<=1000000)<|.ite (AV a) (.ite (!a==[(48:UInt8)]) (L4 v5 a b<|!a==[(49:UInt8)])<|L5 v5 a b)<|L5 v5 a b) (L6 v5 a b):=by kernel_rfl
theorem AU[Srt](v5 a:Rd)(b c:Bool):stepT LZ (L2 v5 a b c)=.ite b (.ite c (.cd (length a<=1000000)<|.ite (AV a) (.ite (!a==[(48:UInt8)]) (L4 v5 a b<|!a==[(49:UInt8)])<|L5 v5 a b)<|L5 v5 a b)<|L5 v5 a b) (L4 v5 a b c):=by kernel_rfl
theorem BH[Srt](v5 b:Rd)(a:Bool):stepT LZ (L3 v5 b a)=.ite a (L5 v5 b a) (L5 v5 b a):=by kernel_rfl
def L7[Srt](v5 b:Rd)(a:Bool)(v9:Int):Tr:=re ((stepT LZ<|L4 [] [] false false).L.L.L.L)<|AE 76 [(5,.dat zf v5),(6,.dat zf b),(7,.dat zj a),(9,.dat i64 v9)] [] 0
theorem CA[Srt](v5 a:Rd)(b c:Bool):stepT LZ (L4 v5 a b c)=let d:=decide (2<=2)&&true&&decide (2<=1000000);.ck true (.di ((length v5:Int)>600) (.ck true<|.ck d<|L7 v5 a b<|yv [BO (!c) 1,BO true 4])<|.ck true<|.ck d<|L7 v5 a b<|yv [BO (!c) 1,BO (decide ((length a:Int)>600)) 4]):=by kernel_rfl
theorem FO[Srt](v5 a:Rd)(b:Bool):stepT LZ (L5 v5 a b)=.ck true (.di ((length v5:Int)>600) (.ck true<|.ck true<|L7 v5 a b<|yv [BO true 1,BO true 4])<|.ck true<|.ck (decide (2<=2)&&true&&decide (2<=1000000))<|L7 v5 a b<|yv [BO true 1,BO (decide ((length a:Int)>600)) 4]):=by kernel_rfl
theorem Lr[Srt](v5 a:Rd)(b:Bool):stepT LZ (L6 v5 a b)=.ck true (.di ((length v5:Int)>600) (.ck true<|.ck true<|L7 v5 a b<|yv [BO false 1,BO true 4])<|.ck true<|.ck (decide (2<=2)&&true&&decide (2<=1000000))<|L7 v5 a b<|yv [BO false 1,BO (decide ((length a:Int)>600)) 4]):=by kernel_rfl
def L8[Srt](v5 b:Rd)(a:Bool):Tr:=re ((stepT LZ<|L7 [] [] false 0).R)<|AE 76 [(5,.dat zf v5),(6,.dat zf b),(7,.dat zj a)] [] 0
theorem FV[Srt](v5 b:Rd)(a:Bool)(v9:Int):stepT LZ (L7 v5 b a v9)=.ite (v9 !=0) (.leaf (.dat i64 v9) []) (L8 v5 b a):=by kernel_rfl
def L9[Srt](a:Bool):Tr:=re ((stepT LZ<|L8 [] [] false).L.L.L.L.L.L)<|AE 76 [(10,.dat zj a)] [] 0
def L10[Srt]:Tr:=re ((stepT LZ<|L8 [] [] false).R)<|AE 76 [(10,.bl false)] [] 0
theorem MD[Srt](v5 a:Rd)(c:Bool):stepT LZ (L8 v5 a c)=let b:=(ME (Dc v5,Da v5) (Dc a,Da a),MP (Dc v5,Da v5) (Dc a,Da a));.ite c (.ck (C1 v5)<|.ck (C1 a)<|.ck (Bi (Dc v5,Da v5)&&Bi (Dc a,Da a))<|.ck true<|.ck (Bi b&&Bi (1,BV 1))<|L9<|YY b (1,BV 1) !=0) L10:=by kernel_rfl
theorem Aa7[Srt](a:Bool):stepT LZ (L9 a)=.ck true (.leaf (.dat i64<|BO a 1) []):=by kernel_rfl
theorem vJ[Srt]:stepT LZ L10=.ck true (.leaf (.dat i64<|BO false 1) []):=by kernel_rfl
end T61
namespace T94
def T[Srt](s:Rd):Tr:=tree Qc false 9 94<|Ae ([zf]) s
def L1[Srt](v0:Rd)(v3:Bool)(o1 a:Int):Tr:=re ((T []).L.L.L.L.L.L)<|AE 41 [(0,.dat zf v0),(2,.ptr 0 0),(3,.dat zj v3),(4,.ptr 1 0)] [(1,.box [.dat i64 o1,.nil]),(0,.box [.dat i64 a,.nil])] 2
def L2[Srt](v0:Rd)(o1 a:Int):Tr:=re ((T []).R.L.L.L.L)<|AE 41 [(0,.dat zf v0),(2,.ptr 0 0),(3,.bl false),(4,.ptr 1 0)] [(1,.box [.dat i64 o1,.nil]),(0,.box [.dat i64 a,.nil])] 2
theorem Aj[Srt](s:Rd):T s=let a:=take 1 s==[(45:UInt8)];let b':=decide ((length s:Int)>=1);let d:=decide (1<=length s)&&decide (length s<=length s);let b:=decide (1<=length s);let c:=take (z6 (length s) 1)<|drop 1 s;.ite b' (.ck b<|.ite b' (.ck b<|.ite a (.ck d<|L1 c a 0 0)<|L1 s a 0 0)<|L1 s a 0 0) (.ite b' (.ck b<|.ite a (.ck d<|L2 c 0 0)<|L2 s 0 0)<|L2 s 0 0):=by kernel_rfl
def L3[Srt](v0:Rd)(v3:Bool)(o1 f:Int)(v5:Rd)(g:Int)(a:Nat)(c b:Int)(h:List Int)(d:Int)(e:Int):Tr:=re ((stepT Qc<|L1 v0 v3 o1 f).L.L.L.L.L.L.L.R)<|AE 77 [(5,.dat zf v5),(6,.dat i64 g),(47,.sl 2 1 0 a none),(48,.dat i64 c),(49,.dat i64 b)] [(2,.arr false 5 (zl z7) h),(1,.box [.dat i64 d,.nil]),(0,.box [.dat i64 e,.nil])] 3
theorem Am[Srt](v0:Rd)(v3:Bool)(o1 c:Int):stepT Qc (L1 v0 v3 o1 c)=let d:=(length v0:Int);let a:=take (toNat<|B5 18 d) v0;let b':=take (z6 (length a) 1)<|drop 1 a;let f:=(↑(length a):Int);let g:=decide (1<=length a)&&decide (length a<=length a);let h:=(↑(ze<|getD a 0 (0:UInt8)):Int);let e:=decide (0<f);.di (d>0) (.ck (decide (0<=B5 18 d)&&decide (0<=toNat (B5 18 d))&&decide (toNat (B5 18 d)<=length v0))<|.ite e (.di (f<19) (.ck e<|.ite (h==45) (.ck g<|.di ((↑(length b'):Int)<1) .fail<|L3 v0 v3 o1 c a 0 (length b') ((↑(length b'):Int)) 0 (yh (fun b=>(↑(ze b):Int)) b') o1 c)<|.ck e<|.ite (h==43) (.ck g<|.di ((↑(length b'):Int)<1) .fail<|L3 v0 v3 o1 c a 0 (length b') ((↑(length b'):Int)) 0 (yh (fun b=>(↑(ze b):Int)) b') o1 c)<|L3 v0 v3 o1 c a 0 (length a) f 0 (yh (fun b=>(↑(ze b):Int)) a) o1 c)<|.ck false .fail)<|.ck false .fail) (.ite v3 (.ck (Du (o1,[]))<|.leaf (zt [.dat i64<|Ek (o1,[]),.dat wU<|Ej (o1,[])]) [])<|.leaf (zt [.dat i64 o1,.nil]) []):=by kernel_rfl
def L4[Srt](v0:Rd)(o1 f:Int)(v5:Rd)(g:Int)(a:Nat)(c b:Int)(h:List Int)(d:Int)(e:Int):Tr:=re ((stepT Qc<|L2 v0 o1 f).L.L.L.L.L.L.L.R)<|AE 77 [(5,.dat zf v5),(6,.dat i64 g),(47,.sl 2 1 0 a none),(48,.dat i64 c),(49,.dat i64 b)] [(2,.arr false 5 (zl z7) h),(1,.box [.dat i64 d,.nil]),(0,.box [.dat i64 e,.nil])] 3
theorem AU[Srt](v0:Rd)(o1 c:Int):stepT Qc (L2 v0 o1 c)=let d:=(length v0:Int);let a:=take (toNat<|B5 18 d) v0;let b':=take (z6 (length a) 1)<|drop 1 a;let f:=(↑(length a):Int);let g:=decide (1<=length a)&&decide (length a<=length a);let h:=(↑(ze<|getD a 0 (0:UInt8)):Int);let e:=decide (0<f);.di (d>0) (.ck (decide (0<=B5 18 d)&&decide (0<=toNat (B5 18 d))&&decide (toNat (B5 18 d)<=length v0))<|.ite e (.di (f<19) (.ck e<|.ite (h==45) (.ck g<|.di ((↑(length b'):Int)<1) .fail<|L4 v0 o1 c a 0 (length b') ((↑(length b'):Int)) 0 (yh (fun b=>(↑(ze b):Int)) b') o1 c)<|.ck e<|.ite (h==43) (.ck g<|.di ((↑(length b'):Int)<1) .fail<|L4 v0 o1 c a 0 (length b') ((↑(length b'):Int)) 0 (yh (fun b=>(↑(ze b):Int)) b') o1 c)<|L4 v0 o1 c a 0 (length a) f 0 (yh (fun b=>(↑(ze b):Int)) a) o1 c)<|.ck false .fail)<|.ck false .fail) (.leaf (zt [.dat i64 o1,.nil]) []):=by kernel_rfl
def L5[Srt](v0:Rd)(v3:Bool)(o1:Int)(a:List Int)(b:Int):Tr:=re ((stepT Qc<|L3 [] false 0 0 [] 0 0 0 0 [] 0 0).R.L.L.L.L.L.L.L.L)<|AE 41 [(0,.dat zf v0),(2,.ptr 0 0),(3,.dat zj v3),(4,.ptr 1 0)] [(1,.box [.dat i64 o1,.dat wU a]),(0,.box [.dat i64 b,.nil])] 2
theorem BH[Srt](v0:Rd)(v3:Bool)(o1 k:Int)(v5:Rd)(d:Int)(c:Nat)(f a:Int)(h:List Int)(b:Int)(e:Int):stepT Qc (L3 v0 v3 o1 k v5 d c f a h b e)=let b':=B5 18 (length v0:Int);let i:=(zc .i64<|0-d,BV<|zc .i64<|0-d);let o:=getD h (toNat a) 0-48;let j:=(Uk (10,BV 10) b',Ux (10,BV 10) b');let m:=decide (0<=B5 18 (length v0:Int))&&true&&decide (toNat b'<=length v0)&&decide (length v0<=length v0);let n:=take (z6 (length v0)<|toNat b')<|drop (toNat b') v0;let l:=Bi (10,BV 10)&&nE (zm (10,BV 10)) b';let g:=(ER (b,[]) j,EP (b,[]) j);let h':=Bi (b,[])&&Bi j;.di (a<f) (.ck (decide (0<=a)&&decide (a<(↑c:Int)))<|.cd (toNat a<length h)<|.di (zc .u8 o>9) .fail<|L3 v0 v3 o1 k v5 (zc .i64<|zc .i64 (d*10)+zc .i64 (zc .u8 o)) c f (zc .i64<|a+1) h b e) (.cd (0<(length v5:Int))<|.ite ((↑(ze<|getD v5 0 (0:UInt8)):Int)==45) (.ck true<|.ck l<|.ck h'<|.ck true<|.ck (Bi g&&Bi i)<|.ck m<|L5 n v3 (JH g i) (JQ g i) e)<|.ck true<|.ck l<|.ck h'<|.ck true<|.ck (Bi g&&Bi (d,BV d))<|.ck m<|L5 n v3 (JH g (d,BV d)) (JQ g (d,BV d)) e):=by kernel_rfl
def L7[Srt](v0:Rd)(v3:Bool)(o1:Int)(b:List Int)(h:Int)(v5:Rd)(i:Int)(c:Nat)(e d:Int)(j:List Int)(f:Int)(a:List Int)(g:Int):Tr:=re ((stepT Qc<|L5 v0 v3 o1 b h).L.L.L.L.L.L.L.R)<|AE 77 [(5,.dat zf v5),(6,.dat i64 i),(47,.sl 2 1 0 c none),(48,.dat i64 e),(49,.dat i64 d)] [(2,.arr false 5 (zl z7) j),(1,.box [.dat i64 f,.dat wU a]),(0,.box [.dat i64 g,.nil])] 3
theorem FO[Srt](v0:Rd)(v3:Bool)(o1:Int)(a:List Int)(d:Int):stepT Qc (L5 v0 v3 o1 a d)=let e:=(length v0:Int);let c:=take (toNat<|B5 18 e) v0;let b':=take (z6 (length c) 1)<|drop 1 c;let g:=(↑(length c):Int);let h:=decide (1<=length c)&&decide (length c<=length c);let i:=(↑(ze<|getD c 0 (0:UInt8)):Int);let f:=decide (0<g);.di (e>0) (.ck (decide (0<=B5 18 e)&&decide (0<=toNat (B5 18 e))&&decide (toNat (B5 18 e)<=length v0))<|.ite f (.di (g<19) (.ck f<|.ite (i==45) (.ck h<|.di ((↑(length b'):Int)<1) .fail<|L7 v0 v3 o1 a d c 0 (length b') ((↑(length b'):Int)) 0 (yh (fun b=>(↑(ze b):Int)) b') o1 a d)<|.ck f<|.ite (i==43) (.ck h<|.di ((↑(length b'):Int)<1) .fail<|L7 v0 v3 o1 a d c 0 (length b') ((↑(length b'):Int)) 0 (yh (fun b=>(↑(ze b):Int)) b') o1 a d)<|L7 v0 v3 o1 a d c 0 (length c) g 0 (yh (fun b=>(↑(ze b):Int)) c) o1 a d)<|.ck false .fail)<|.ck false .fail) (.ite v3 (.ck (Du (o1,a))<|.leaf (zt [.dat i64<|Ek (o1,a),.dat wU<|Ej (o1,a)]) [])<|.leaf (zt [.dat i64 o1,.dat wU a]) []):=by kernel_rfl
theorem FV[Srt](v0:Rd)(v3:Bool)(o1:Int)(g:List Int)(m:Int)(v5:Rd)(e:Int)(d:Nat)(h b:Int)(j:List Int)(c:Int)(a:List Int)(f:Int):stepT Qc (L7 v0 v3 o1 g m v5 e d h b j c a f)=let i:=B5 18 (length v0:Int);let k:=(zc .i64<|0-e,BV<|zc .i64<|0-e);let q:=getD j (toNat b) 0-48;let l:=(Uk (10,BV 10) i,Ux (10,BV 10) i);let o:=decide (0<=B5 18 (length v0:Int))&&true&&decide (toNat i<=length v0)&&decide (length v0<=length v0);let p:=take (z6 (length v0)<|toNat i)<|drop (toNat i) v0;let n:=Bi (10,BV 10)&&nE (zm (10,BV 10)) i;let b':=(ER (c,a) l,EP (c,a) l);let h':=Bi (c,a)&&Bi l;.di (b<h) (.ck (decide (0<=b)&&decide (b<(↑d:Int)))<|.cd (toNat b<length j)<|.di (zc .u8 q>9) .fail<|L7 v0 v3 o1 g m v5 (zc .i64<|zc .i64 (e*10)+zc .i64 (zc .u8 q)) d h (zc .i64<|b+1) j c a f) (.cd (0<(length v5:Int))<|.ite ((↑(ze<|getD v5 0 (0:UInt8)):Int)==45) (.ck true<|.ck n<|.ck h'<|.ck true<|.ck (Bi b'&&Bi k)<|.ck o<|L5 p v3 (JH b' k) (JQ b' k) f)<|.ck true<|.ck n<|.ck h'<|.ck true<|.ck (Bi b'&&Bi (e,BV e))<|.ck o<|L5 p v3 (JH b' (e,BV e)) (JQ b' (e,BV e)) f):=by kernel_rfl
end T94
namespace T171
def T[Srt](s t:Rd):Tr:=tree aD false 9 171<|Ae ([zf,zf]) (s,t)
def L1[Srt](s t v0:Rd)(v4:Int)(a:List Bool):Tr:=re ((T s t).R.R.L.L.R)<|AE 21 [(0,.dat zf v0),(2,.ptr 0 0),(4,.dat i64 v4)] [(0,.arr false 258 zj a)] 1
def L2[Srt](s t v0:Rd)(v4:Int)(a:List Bool):Tr:=re ((T s t).R.R.R)<|AE 21 [(0,.dat zf v0),(2,.ptr 0 0),(4,.dat i64 v4)] [(0,.arr false 258 zj a)] 1
theorem Aj[Srt](s t:Rd):T s t=let a:=decide (0<(length t:Int));let b':Tr:=.leaf (.dat zf s) [];.ite (s==[]) b' (.ite (t==[]) b'<|.ite ((length t:Int)==1) (.ck a<|.di ((↑(ze<|getD t 0 (0:UInt8)):Int)<128) (.ck a<|.ck a<|.ck false<|.ck false b')<|L1 s t t 0 Sp.tN)<|L2 s t t 0 Sp.tN):=by kernel_rfl
def L4[Srt](s t v0:Rd)(v4:Int)(c:List Bool)(a:Rd)(o1:List Bool)(b:List Bool):Tr:=re ((stepT aD<|L2 s t v0 v4 c).R.L.L.L.L)<|AE 22 [(0,.dat zf a),(1,.ptr 1 0)] [(1,.arr false 258 zj o1),(0,.arr false 258 zj b)] 2
theorem AU[Srt](s t v0:Rd)(v4:Int)(a:List Bool):stepT aD (L2 s t v0 v4 a)=let b:=(↑(ze<|getD v0 (toNat v4) (0:UInt8)):Int);let b':=decide (length a=256);let c:=decide (v4<(length v0:Int));.ite c (.ck (decide (0<=v4)&&c)<|.di (b>=128) (.ck b'<|.ck b'<|.cd (256=256)<|.ck true<|.ck false<|.ck false<|.leaf (.dat zf s) [])<|.ck (decide ((0:Sh.T (zl z7))<=b)&&decide (b<(↑256:Int)))<|.cd (toNat b<length a)<|L2 s t v0 (zc .i64<|v4+1)<|set a (toNat b) true) (.ck b'<|.ck b'<|.cd (256=256)<|.ck true<|L4 s t v0 v4 a s ((Sp.tQ a))<|(Sp.tQ a)):=by kernel_rfl
def L7[Srt](s t v0:Rd)(v4:Int)(f:List Bool)(e:Rd)(o1:List Bool)(c:List Bool)(a:Rd)(d:List Bool)(b:List Bool):Tr:=re ((stepT aD<|L4 s t v0 v4 f e o1 c).L.L.L.L.L)<|AE 16 [(0,.dat zf a),(1,.ptr 1 0)] [(1,.arr false 258 zj d),(0,.arr false 258 zj b)] 2
def L8[Srt](s t v0:Rd)(v4:Int)(f:List Bool)(e:Rd)(o1:List Bool)(c:List Bool)(a:Rd)(d:List Bool)(b:List Bool):Tr:=re ((stepT aD<|L4 s t v0 v4 f e o1 c).R)<|AE 16 [(0,.dat zf a),(1,.ptr 1 0)] [(1,.arr false 258 zj d),(0,.arr false 258 zj b)] 2
theorem CA[Srt](s t v0:Rd)(v4:Int)(c:List Bool)(a:Rd)(o1:List Bool)(b:List Bool):stepT aD (L4 s t v0 v4 c a o1 b)=let b':=(↑(length a):Int);let e:=zc .i64<|b'-1;let f:=decide (0<=zc .i64 (b'-1));let d:=(↑(ze<|getD a (toNat e) (0:UInt8)):Int);.di (b'>0) (.ck (f&&decide (zc .i64 (b'-1)<b'))<|.ck (decide ((0:Sh.T (zl z7))<=d)&&decide (d<(↑256:Int)))<|.cd (toNat d<length o1)<|.ite (!getD o1 (toNat d) false) (L7 s t v0 v4 c a o1 b a o1 b)<|.ck (f&&decide (0<=toNat e)&&decide (toNat e<=length a))<|L4 s t v0 v4 c (take (toNat e) a) o1 b) (L8 s t v0 v4 c a o1 b a o1 b):=by kernel_rfl
theorem FV[Srt](s t v0:Rd)(v4:Int)(g:List Bool)(e:Rd)(o1:List Bool)(d:List Bool)(a:Rd)(b:List Bool)(c:List Bool):stepT aD (L7 s t v0 v4 g e o1 d a b c)=let f:=(↑(ze<|getD a 0 (0:UInt8)):Int);let b':Tr:=.leaf (.dat zf a) [];.di ((↑(length a):Int)>0) (.cd (0<(↑(length a):Int))<|.ck (decide ((0:Sh.T (zl z7))<=f)&&decide (f<(↑256:Int)))<|.cd (toNat f<length b)<|.ite (!getD b (toNat f) false) b'<|.ck (decide (1<=length a)&&decide (length a<=length a))<|L7 s t v0 v4 g e o1 d (take (z6 (length a) 1)<|drop 1 a) b c) b':=by kernel_rfl
theorem MD[Srt](s t v0:Rd)(v4:Int)(g:List Bool)(e:Rd)(o1:List Bool)(d:List Bool)(a:Rd)(b:List Bool)(c:List Bool):stepT aD (L8 s t v0 v4 g e o1 d a b c)=let f:=(↑(ze<|getD a 0 (0:UInt8)):Int);let b':Tr:=.leaf (.dat zf a) [];.di ((↑(length a):Int)>0) (.cd (0<(↑(length a):Int))<|.ck (decide ((0:Sh.T (zl z7))<=f)&&decide (f<(↑256:Int)))<|.cd (toNat f<length b)<|.ite (!getD b (toNat f) false) b'<|.ck (decide (1<=length a)&&decide (length a<=length a))<|L8 s t v0 v4 g e o1 d (take (z6 (length a) 1)<|drop 1 a) b c) b':=by kernel_rfl
end T171
namespace T114
def T[Srt](s:Rd):Tr:=tree XH1 false 9 114<|Ae ([zf]) s
theorem Aj[Srt](s:Rd):T s=.ite (!s==[]) (.ck (Sp.uQ s [(48:UInt8),49,50,51,52,53,54,55,56,57])<|.ite (Sp.OI s==[]) (.cd (0<(length s:Int))<|.ite ((↑(ze<|getD s 0 (0:UInt8)):Int) !=48) (.leaf (.bl true) [])<|.leaf (.dat zj<|s==[(48:UInt8)]) [])<|.leaf (.bl false) []) (.leaf (.bl false) []):=by kernel_rfl
end T114
namespace T113
def T[Srt](s t:Rd):Tr:=tree Nn false 9 113<|Ae ([zf,zf]) (s,t)
theorem Aj[Srt](s t:Rd):T s t=let a:=(length t:Int);let b':Tr:=.leaf (.tup [.dat zf s,.bl false]) [];let b:=decide (toNat a<=length s);.di ((length s:Int)>=a) (.ck (decide (0<=a)&&decide (0<=toNat a)&&b)<|.ite (!take (toNat a) s==t) b'<|.ck (decide (0<=a)&&true&&b&&decide (length s<=length s))<|.leaf (.tup [.dat zf<|take (z6 (length s)<|toNat a)<|drop (toNat a) s,.bl true]) []) b':=by kernel_rfl
end T113
namespace T92
def T[Srt](s t:Rd):Tr:=tree XH2 false 9 92<|Ae ([zf,zf]) (s,t)
theorem Aj[Srt](s t:Rd):T s t=let b':=(↑(ze<|getD t 0 (0:UInt8)):Int);let a:=(length t:Int);let c:Tr:=.leaf (.tup [.dat zf s,.dat zf [],.bl false]) [];let d:=decide (length s<=length s);let h:=Bz [zl z7];let e:=zc .i64<|Sp.NX s b'+a;let f:=zc .i64<|(-1)+a;let h':=zc .i64<|0+a;let b:=Sp.NX s b';let g:Tr:=.ite true (.cd (0<=length s)<|.ck (decide (0<=zc .i64 (0+a))&&true&&decide (toNat h'<=length s)&&d)<|.leaf (.tup [.dat zf<|take 0 s,.dat zf<|take (z6 (length s)<|toNat h')<|drop (toNat h') s,.bl true]) []) c;.ite (a==0) g (.ite (t==s) g<|.ite (a==1) (.cd (0<a)<|.ck (decide ((0:Sh.T h)<=b')&&decide (b'<(256:Sh.T h)))<|.di (Sp.NX s b'>=0) (.ck (decide (0<=Sp.NX s b')&&decide (0<=toNat b)&&decide (toNat b<=length s))<|.ck (decide (0<=zc .i64 (Sp.NX s b'+a))&&true&&decide (toNat e<=length s)&&d)<|.leaf (.tup [.dat zf<|take (toNat b) s,.dat zf<|take (z6 (length s)<|toNat e)<|drop (toNat e) s,.bl true]) []) c)<|.cd (a>=(length s:Int))<|.ite false (.ck (false&&decide (0<=length s))<|.ck (decide (0<=zc .i64 ((-1)+a))&&true&&decide (toNat f<=length s)&&d)<|.leaf (.tup [.dat zf<|take 0 s,.dat zf<|take (z6 (length s)<|toNat f)<|drop (toNat f) s,.bl true]) []) c):=by kernel_rfl
end T92
namespace T188
def T[Srt](w:List Int):Tr:=tree lX false 9 188<|Ae ([zg i64]) w
def L1[Srt](v0:List Int):Tr:=re ((T []))<|AE 21 [(0,.dat (zg i64) v0)] [] 0
theorem Aj[Srt](w:List Int):T w=L1 w:=by kernel_rfl
theorem Am[Srt](v0:List Int):stepT lX (L1 v0)=let b':=(length v0:Int);let c:Tr:=.leaf (.dat (zg i64) v0) [];let a:=zc .i64<|b'-1;let b:=decide (0<=zc .i64 (b'-1));.di (b'>0) (.ck (b&&decide (zc .i64 (b'-1)<b'))<|.ite (getD v0 (toNat a) 0==0) (.ck (b&&decide (0<=toNat a)&&decide (toNat a<=length v0))<|L1<|take (toNat a) v0) c) c:=by kernel_rfl
end T188
namespace T128
def T[Srt](n:Bool)(w:List Int):Tr:=tree aM false 9 128<|Ae ([zj,zg i64]) (n,w)
theorem Aj[Srt](n:Bool)(w:List Int):T n w=.cd (length w<=20000) (.ite n (.leaf (zt [.dat zj<|decide ((↑(length<|Aw w):Int)>0),.dat (zg i64)<|Aw w]) [])<|.leaf (zt [.bl false,.dat (zg i64)<|Aw w]) []):=by kernel_rfl
end T128
namespace T130
def T[Srt](a b:List Int):Tr:=tree lX false 9 130<|Ae ([zg i64,zg i64]) (a,b)
def L1[Srt](v0 v1:List Int)(v5:Int):Tr:=re ((T [] []).R)<|AE 41 [(0,.dat (zg i64) v0),(1,.dat (zg i64) v1),(5,.dat i64 v5)] [] 0
theorem Aj[Srt](a b:List Int):T a b=let c:=(length a:Int);.ite (c !=(length b:Int)) (.di (c<(length b:Int)) (.leaf (.dat i64 (-1:Int)) [])<|.leaf (.dat i64 (1:Int)) []) (L1 a b<|zc .i64<|c-1):=by kernel_rfl
theorem Am[Srt](v0 v1:List Int)(v5:Int):stepT lX (L1 v0 v1 v5)=let a:=decide (0<=v5)&&decide (v5<(length v0:Int));let b':=decide (0<=v5)&&decide (v5<(length v1:Int));.di (v5>=0) (.ck a<|.ck b'<|.di (getD v0 (toNat v5) 0<getD v1 (toNat v5) 0) (.leaf (.dat i64 (-1:Int)) [])<|.ck a<|.ck b'<|.di (getD v0 (toNat v5) 0>getD v1 (toNat v5) 0) (.leaf (.dat i64 (1:Int)) [])<|L1 v0 v1<|zc .i64<|v5-1) (.leaf (.dat i64 (0:Int)) []):=by kernel_rfl
end T130
namespace T132
def T[Srt](a b:List Int):Tr:=tree aM false 9 132<|Ae ([zg i64,zg i64]) (a,b)
def L1[Srt](v0 v1:List Int)(a:Nat)(b:Int)(c:List Int):Tr:=re ((T [] []).L)<|AE 72 [(0,.dat (zg i64) v0),(1,.dat (zg i64) v1),(5,.sl 0 1 0 a none),(6,.dat i64 b)] [(0,.arr false 3 i64 c)] 1
theorem Aj[Srt](a b:List Int):T a b=let c:=(length a:Int)+(length b:Int);let b':=zc .i64 c;.ck (decide (0<=zc .i64 c)&&decide (zc .i64 c=zc .i64 c)&&decide (8*toNat b'<=281474976710656)&&decide (zc .i64 c<9223372036854775808)) (L1 a b (toNat b') 0<|replicate (toNat b') 0):=by kernel_rfl
def L2[Srt](v0 v1:List Int)(a:Nat)(d c e:Int)(b:List Int):Tr:=re ((stepT aM<|L1 [] [] 0 0 []).L)<|AE 72 [(0,.dat (zg i64) v0),(1,.dat (zg i64) v1),(5,.sl 0 1 0 a none),(6,.dat i64 d),(7,.dat i64 c),(8,.dat i64 e)] [(0,.arr false 3 i64 b)] 1
theorem Am[Srt](v0 v1:List Int)(a:Nat)(c:Int)(b:List Int):stepT aM (L1 v0 v1 a c b)=.di (c<(length v0:Int)) (L2 v0 v1 a c 0 0 b) (.ck (decide (0+a<=length b)&&true&&decide (length (take a b)<=20000))<|.leaf (.dat (zg i64)<|Aw<|take a b) []):=by kernel_rfl
theorem AU[Srt](v0 v1:List Int)(a:Nat)(b f c:Int)(d:List Int):stepT aM (L2 v0 v1 a b f c d)=let l:=decide (0<=zc .i64 (b+c))&&decide (zc .i64 (b+c)<(↑a:Int));let h:=zc .i64<|b+c;let g:=(length v1:Int);let j:=zc .i64<|zc .i64 (getD d (toNat h) 0+zc .i64 (getD v0 (toNat b) 0*getD v1 (toNat c) 0))+f;let b':=b+g;let i:=decide (toNat h<length d);let k:=decide (0<=zc .i64 b')&&decide (zc .i64 b'<(↑a:Int));let e:=zc .i64 b';let h':=decide (toNat e<length d);.di (c<g) (.ck l<|.ck i<|.ck (decide (0<=b)&&decide (b<(length v0:Int)))<|.ck (decide (0<=c)&&decide (c<g))<|.ck true<|.ck l<|.ck i<|.ck true<|L2 v0 v1 a b (zc .i64<|zx j 1000000000) (zc .i64<|c+1)<|set d (toNat h)<|yc j 1000000000) (.ck k<|.ck h'<|.ck k<|.ck h'<|L1 v0 v1 a (zc .i64<|b+1)<|set d (toNat e)<|zc .i64<|getD d (toNat e) 0+f):=by kernel_rfl
end T132
namespace T187
def T[Srt](a:List Int)(d:Int):Tr:=tree aM false 9 187<|Ae ([zg i64,zl IntKind.i64]) (a,d)
def L1[Srt](v0:List Int)(v1:Int)(a:Nat)(b d:Int)(c:List Int):Tr:=re ((T [] 0).L)<|AE 39 [(0,.dat (zg i64) v0),(1,.dat i64 v1),(6,.sl 0 1 0 a none),(7,.dat i64 b),(8,.dat i64 d)] [(0,.arr false 3 i64 c)] 1
theorem Aj[Srt](a:List Int)(d:Int):T a d=let b:=(length a:Int);.ck (decide (0<=b)&&decide (b=b)&&decide (8*toNat b<=281474976710656)&&decide (b<9223372036854775808)) (L1 a d (toNat b) 0 (zc .i64<|b-1)<|replicate (toNat b) 0):=by kernel_rfl
theorem Am[Srt](v0:List Int)(v1:Int)(a:Nat)(d b:Int)(c:List Int):stepT aM (L1 v0 v1 a d b c)=let e:=zc .i64<|zc .i64 (d*1000000000)+getD v0 (toNat b) 0;.di (b>=0) (.ck (decide (0<=b)&&decide (b<(length v0:Int)))<|.cd (v1≠0)<|.ck (decide (0<=b)&&decide (b<(↑a:Int)))<|.cd (toNat b<length c)<|.cd (v1≠0)<|L1 v0 v1 a (yc e v1) (zc .i64<|b-1)<|set c (toNat b)<|zc .i64<|zx e v1) (.ck (decide (0+a<=length c)&&true&&decide (length (take a c)<=20000))<|.leaf (.tup [.dat (zg i64)<|Aw<|take a c,.dat i64 d]) []):=by kernel_rfl
end T187
namespace T127
def T[Srt](a b:List Int):Tr:=tree LX false 9 127<|Ae ([zg i64,zg i64]) (a,b)
def L1[Srt](v0:List Int)(c:Nat)(v9:List Int)(b:Int)(a:Nat)(o1 d:List Int):Tr:=re ((T [] []).L.R.R.L.L.L.L.L)<|AE 206 [(0,.dat (zg i64) v0),(8,.sl 0 1 0 c none),(9,.dat (zg i64) v9),(10,.dat i64 b),(11,.sl 1 1 0 a none)] [(1,.arr false 3 i64 o1),(0,.arr true 3 i64 d)] 2
theorem Aj[Srt](a b:List Int):T a b=let c:=(length b:Int);let e:=getD b (toNat<|zc .i64<|c-1) 0+1;let d:=zx 1000000000<|zc .i64 e;let b':=Ak a*Ak [zc .i64 d];let f:=BA<|Ak b*Ak [zc .i64 d];.ck (A1 a&&A1 b) (.di (Cb (Ak a) (Ak b)<0) (.leaf (.tup [.nil,.dat (zg i64) a]) [])<|.ite (c==1) (.cd (0<c)<|.ck (JU a&&decide (0<getD b 0 0)&&decide (getD b 0 0<1000000000))<|.ck (decide (1<=1)&&true&&decide (1<=20000))<|.leaf (.tup [.dat (zg i64)<|BA<|Ak a/getD b 0 0,.dat (zg i64)<|Aw [Ak a % getD b 0 0]]) [])<|.ck (decide (0<=zc .i64 (c-1))&&decide (zc .i64 (c-1)<c))<|.cd (zc .i64 e≠0)<|.ck (decide (1<=1)&&true&&(Sp.hR b&&Sp.hR [zc .i64 d]))<|.ck (decide (1<=1)&&true&&(Sp.hR a&&Sp.hR [zc .i64 d]))<|.cd ((3*(0+length (BA b'))+2000)*8<=562949953421312)<|L1 a 1 f ((↑(length f):Int)) (yj 0<|length<|BA b') ([]++BA b')<|[zc .i64 d]):=by kernel_rfl
def L2[Srt](c:Nat)(v9:List Int)(d:Int)(b a:Nat)(e:Int)(f o1 g:List Int):Tr:=re ((stepT LX<|L1 [] 0 [] 0 0 [] []).R.L)<|AE 206 [(8,.sl 0 1 0 c none),(9,.dat (zg i64) v9),(10,.dat i64 d),(11,.sl 1 1 0 b none),(12,.sl 2 1 0 a none),(13,.dat i64 e)] [(2,.arr false 3 i64 f),(1,.arr false 3 i64 o1),(0,.arr true 3 i64 g)] 3
theorem Am[Srt](v0:List Int)(c:Nat)(v9:List Int)(b:Int)(a:Nat)(o1 e:List Int):stepT LX (L1 v0 c v9 b a o1 e)=let d:=(↑a:Int)-b;let b':=zc .i64 d;.di ((↑a:Int)<zc .i64 ((length v0:Int)+1)) (.ck (decide (a=length o1)&&decide ((3*(a+1)+2000)*8<=562949953421312))<|L1 v0 c v9 b (yj a 1) (o1++[0]) e) (.ck (decide (0<=zc .i64 d)&&decide (zc .i64 d=zc .i64 d)&&decide (8*toNat b'<=281474976710656)&&decide (zc .i64 d<9223372036854775808))<|L2 c v9 b a (toNat b') (zc .i64<|zc .i64 d-1) (replicate (toNat b') 0) o1 e):=by kernel_rfl
def L3[Srt](i:Nat)(v9:List Int)(j:Int)(c b:Nat)(k:Int)(l o1 m:List Int)(e:Nat)(v1:List Int)(v2 n:Int)(g:Int)(a:Int)(d:List Int)(f:List Int)(h:List Int):Tr:=re ((stepT LX<|L2 i v9 j c b k l o1 m).L.L.L.L.L.L.L.L.L)<|AE 77 [(0,.sl 1 1 0 e none),(1,.dat (zg i64) v1),(2,.dat i64 v2),(7,.dat i64 n),(9,.dat i64 g),(10,.dat i64 a)] [(2,.arr false 3 i64 d),(1,.arr false 3 i64 f),(0,.arr true 3 i64 h)] 3
theorem AU[Srt](g:Nat)(v9:List Int)(d:Int)(a b:Nat)(c:Int)(h o1 f:List Int):stepT LX (L2 g v9 d a b c h o1 f)=let e:=(length v9:Int);let j:=take (toNat d) o1;let k:=toNat<|zc .i64<|e-1;let i:=zc .i64 (c+e)-1;let m:=decide (0<=zc .i64 (e-1))&&decide (zc .i64 (e-1)<e);let l:=zc .i64<|c+e;let b':=zc .i64<|zc .i64 (getD o1 (toNat l) 0*1000000000)+getD o1 (toNat<|zc .i64 i) 0;let h':=decide (getD v9 k 0≠0);.di (c>=0) (.ck (decide (0<=zc .i64 (c+e))&&decide (zc .i64 (c+e)<(↑a:Int)))<|.cd (toNat l<length o1)<|.ck (decide (0<=zc .i64 i)&&decide (zc .i64 i<(↑a:Int)))<|.cd (toNat (zc .i64 i)<length o1)<|.ck m<|.ck h'<|.ck m<|.ck h'<|L3 g v9 d a b c h o1 f a v9 c e (zc .i64<|zx b'<|getD v9 k 0) (yc b'<|getD v9 k 0) h o1 f) (.ck (decide (0<=d)&&true&&decide (0<=toNat d)&&decide (toNat d<=Option.getD none a)&&decide (Option.getD none a<=Option.getD none a)&&true)<|.cd (0<(↑g:Int))<|.cd (0<length f)<|.ck (decide (0+toNat d<=length o1)&&true&&decide (length j<=20000))<|.ck (JU (Aw j)&&decide (0<getD f 0 0)&&decide (getD f 0 0<1000000000))<|.ck (decide (0+b<=length h)&&true&&decide (length (take b h)<=20000))<|.leaf (.tup [.dat (zg i64)<|Aw<|take b h,.dat (zg i64)<|BA<|Ak (Aw j)/getD f 0 0]) []):=by kernel_rfl
def L4[Srt](c:Nat)(v9:List Int)(d:Int)(b a:Nat)(h g f e:Int)(i o1 j:List Int):Tr:=re ((stepT LX<|L3 0 [] 0 0 0 0 [] [] [] 0 [] 0 0 0 0 [] [] []).L.L.L)<|AE 206 [(8,.sl 0 1 0 c none),(9,.dat (zg i64) v9),(10,.dat i64 d),(11,.sl 1 1 0 b none),(12,.sl 2 1 0 a none),(13,.dat i64 h),(14,.dat i64 g),(15,.dat i64 f),(16,.dat i64 e)] [(2,.arr false 3 i64 i),(1,.arr false 3 i64 o1),(0,.arr true 3 i64 j)] 3
theorem BH[Srt](h:Nat)(v9:List Int)(i:Int)(b a:Nat)(k:Int)(q o1 m:List Int)(l:Nat)(v1:List Int)(v2 j:Int)(d:Int)(e:Int)(f:List Int)(c:List Int)(g:List Int):stepT LX (L3 h v9 i b a k q o1 m l v1 v2 j d e f c g)=let b':=zc .i64 (v2+j)-2;let p:=e+getD v1 (toNat<|zc .i64<|j-1) 0;let o:=zc .i64<|d-1;let n:Tr:=.ck (decide (0<=zc .i64 (j-1))&&decide (zc .i64 (j-1)<(length v1:Int)))<|.di (zc .i64 p>=1000000000) (L4 h v9 i b a k o 0 0 f c g)<|L3 h v9 i b a k q o1 m l v1 v2 j o (zc .i64 p) f c g;.di (d>=1000000000) n (.ck (decide (0<=zc .i64 (j-2))&&decide (zc .i64 (j-2)<(length v1:Int)))<|.ck (decide (0<=zc .i64 b')&&decide (zc .i64 b'<(↑l:Int)))<|.cd (toNat (zc .i64 b')<length c)<|.di (zc .i64 (d*getD v1 (toNat<|zc .i64<|j-2) 0)>zc .i64 (zc .i64 (e*1000000000)+getD c (toNat<|zc .i64 b') 0)) n<|L4 h v9 i b a k d 0 0 f c g):=by kernel_rfl
def L5[Srt](c:Nat)(v9:List Int)(d:Int)(b a:Nat)(g e f v20:Int)(h o1 i:List Int):Tr:=re ((stepT LX<|L4 0 [] 0 0 0 0 0 0 0 [] [] []).R.L.L.L.L.L.L.L)<|AE 206 [(8,.sl 0 1 0 c none),(9,.dat (zg i64) v9),(10,.dat i64 d),(11,.sl 1 1 0 b none),(12,.sl 2 1 0 a none),(13,.dat i64 g),(14,.dat i64 e),(19,.dat i64 f),(20,.dat i64 v20)] [(2,.arr false 3 i64 h),(1,.arr false 3 i64 o1),(0,.arr true 3 i64 i)] 3
theorem CA[Srt](g:Nat)(v9:List Int)(e:Int)(b c:Nat)(a f h d:Int)(i o1 j:List Int):stepT LX (L4 g v9 e b c a f h d i o1 j)=let o:=decide (0<=zc .i64 (d+a))&&decide (zc .i64 (d+a)<(↑b:Int));let n:=decide (0<=zc .i64 (a+e))&&decide (zc .i64 (a+e)<(↑b:Int));let r:=zc .i64<|zc .i64 (f*getD v9 (toNat d) 0)+h;let l:=zc .i64<|d+a;let k:=zc .i64<|a+e;let q:=zc .i64<|d+1;let m:=set o1 (toNat k)<|zc .i64<|getD o1 (toNat k) 0-h;let b':=getD o1 (toNat l) 0-yc r 1000000000;let h':=decide (toNat l<length o1);let s:=decide (toNat k<length o1);let p:=zx r 1000000000;.di (d<e) (.ck (decide (0<=d)&&decide (d<(length v9:Int)))<|.ck o<|.ck h'<|.ck true<|.ck true<|.di (zc .i64 b'<0) (.ck o<|.ck h'<|L4 g v9 e b c a f (zc .i64<|zc .i64 p+1) q i (set o1 (toNat l)<|zc .i64<|zc .i64 b'+1000000000) j)<|.ck o<|.ck h'<|L4 g v9 e b c a f (zc .i64 p) q i (set o1 (toNat l)<|zc .i64 b') j) (.ck n<|.ck s<|.ck n<|.ck s<|.ck n<|.cd (toNat k<length m)<|.di (getD m (toNat k) 0<0) (L5 g v9 e b c a (zc .i64<|f-1) 0 0 i m j)<|.ck (decide (0<=a)&&decide (a<(↑c:Int)))<|.cd (toNat a<length i)<|L2 g v9 e b c (zc .i64<|a-1) (set i (toNat a) f) m j):=by kernel_rfl
theorem FO[Srt](e:Nat)(v9:List Int)(c:Int)(b d:Nat)(a f g v20:Int)(h o1 i:List Int):stepT LX (L5 e v9 c b d a f g v20 h o1 i)=let b':=decide (0<=zc .i64 (v20+a))&&decide (zc .i64 (v20+a)<(↑b:Int));let n:=decide (0<=zc .i64 (a+c))&&decide (zc .i64 (a+c)<(↑b:Int));let j:=zc .i64<|v20+a;let k:=zc .i64<|a+c;let o:=zc .i64<|zc .i64 (getD o1 (toNat j) 0+getD v9 (toNat v20) 0)+g;let m:=decide (toNat j<length o1);let l:=decide (toNat k<length o1);.di (v20<c) (.ck b'<|.ck m<|.ck (decide (0<=v20)&&decide (v20<(length v9:Int)))<|.ck true<|.ck b'<|.ck m<|.ck true<|L5 e v9 c b d a f (zc .i64<|zx o 1000000000) (zc .i64<|v20+1) h (set o1 (toNat j)<|yc o 1000000000) i) (.ck n<|.ck l<|.ck n<|.ck l<|.ck (decide (0<=a)&&decide (a<(↑d:Int)))<|.cd (toNat a<length h)<|L2 e v9 c b d (zc .i64<|a-1) (set h (toNat a) f) (set o1 (toNat k)<|zc .i64<|getD o1 (toNat k) 0+g) i):=by kernel_rfl
end T127
namespace T106
def T[Srt](a b:List Int):Tr:=tree XG3 false 9 106<|Ae ([zg i64,zg i64]) (a,b)
def L1[Srt](v0 v1:List Int):Tr:=re ((T [] []))<|AE 19 [(0,.dat (zg i64) v0),(1,.dat (zg i64) v1)] [] 0
theorem Aj[Srt](a b:List Int):T a b=L1 a b:=by kernel_rfl
theorem Am[Srt](v0 v1:List Int):stepT XG3 (L1 v0 v1)=.di ((length v1:Int)>0) (.ck (A1 v0&&A1 v1&&decide (length v0<=9000)&&decide (length v1<=9000)&&decide (0<Ak v1))<|L1 v1<|BA<|Ak v0 % Ak v1) (.leaf (.dat (zg i64) v0) []):=by kernel_rfl
end T106
namespace T125
def T[Srt](s:Rd):Tr:=tree lX false 9 125<|Ae ([zf]) s
def L1[Srt](v0:Rd)(v3 v4:Int):Tr:=re ((T []))<|AE 20 [(0,.dat zf v0),(3,.dat i64 v3),(4,.dat i64 v4)] [] 0
theorem Aj[Srt](s:Rd):T s=L1 s 0 0:=by kernel_rfl
theorem Am[Srt](v0:Rd)(v3 v4:Int):stepT lX (L1 v0 v3 v4)=let a:=decide (v4<(length v0:Int));.ite a (.ck (decide (0<=v4)&&a)<|L1 v0 (zc .i64<|zc .i64 (zc .i64 (10*v3)+zc .i64 (↑(ze<|getD v0 (toNat v4) (0:UInt8)):Int))-48)<|zc .i64<|v4+1) (.leaf (.dat i64 v3) []):=by kernel_rfl
end T125
namespace T124
def T[Srt](s:Rd):Tr:=tree aN false 9 124<|Ae ([zf]) s
def L1[Srt](v0:Rd)(v3:Bool):Tr:=re ((T []).L.L.L.L)<|AE 40 [(0,.dat zf v0),(2,.ptr 0 0),(3,.dat zj v3),(4,.nil)] [(0,.box [.bl false,.nil])] 1
def L2[Srt](v0:Rd):Tr:=re ((T []).R)<|AE 40 [(0,.dat zf v0),(2,.ptr 0 0),(3,.bl false),(4,.nil)] [(0,.box [.bl false,.nil])] 1
theorem Aj[Srt](s:Rd):T s=let a:=(↑(ze<|getD s 0 (0:UInt8)):Int)==45;.di ((length s:Int)>0) (.cd (0<(length s:Int))<|.ite a (.ck (decide (1<=length s)&&decide (length s<=length s))<|L1 (take (z6 (length s) 1)<|drop 1 s) a)<|L1 s a) (L2 s):=by kernel_rfl
def L3[Srt](v0:Rd)(v3:Bool)(a:Nat)(o1:List Int):Tr:=re ((stepT aN<|L1 [] false).L.L.L.L.L)<|AE 40 [(0,.dat zf v0),(2,.ptr 0 0),(3,.dat zj v3),(4,.sl 1 1 0 a none)] [(1,.arr false 3 i64 o1),(0,.box [.bl false,.nil])] 2
theorem Am[Srt](v0:Rd)(v3:Bool):stepT aN (L1 v0 v3)=let b':=aa 8;let b:=(length v0:Int);let a:=zc .i64<|b-9;let e:=decide (0<=zc .i64 (b-9));let c:=take (z6 (length v0)<|toNat a)<|drop (toNat a) v0;let d:=decide (toNat a<=length v0);.di (b>9) (.ck (e&&true&&d&&decide (length v0<=length v0))<|.ck (DN c)<|.ck b'<|.ck (e&&decide (0<=toNat a)&&d)<|L3 (take (toNat a) v0) v3 1<|[BJ c]) (.ck (DN v0)<|.ck b'<|.ck (decide (0+1<=1)&&true&&decide (1<=20000))<|.leaf (zt [.dat zj<|Cy v3 [BJ v0],.dat (zg i64)<|Aw [BJ v0]]) []):=by kernel_rfl
def L4[Srt](v0:Rd)(a:Nat)(o1:List Int):Tr:=re ((stepT aN<|L2 []).L.L.L.L.L)<|AE 40 [(0,.dat zf v0),(2,.ptr 0 0),(3,.bl false),(4,.sl 1 1 0 a none)] [(1,.arr false 3 i64 o1),(0,.box [.bl false,.nil])] 2
theorem AU[Srt](v0:Rd):stepT aN (L2 v0)=let b':=aa 8;let b:=(length v0:Int);let a:=zc .i64<|b-9;let e:=decide (0<=zc .i64 (b-9));let c:=take (z6 (length v0)<|toNat a)<|drop (toNat a) v0;let d:=decide (toNat a<=length v0);.di (b>9) (.ck (e&&true&&d&&decide (length v0<=length v0))<|.ck (DN c)<|.ck b'<|.ck (e&&decide (0<=toNat a)&&d)<|L4 (take (toNat a) v0) 1<|[BJ c]) (.ck (DN v0)<|.ck b'<|.ck (decide (0+1<=1)&&true&&decide (1<=20000))<|.leaf (zt [.dat zj<|Cy false [BJ v0],.dat (zg i64)<|Aw [BJ v0]]) []):=by kernel_rfl
theorem BH[Srt](v0:Rd)(v3:Bool)(a:Nat)(o1:List Int):stepT aN (L3 v0 v3 a o1)=let b':=ac a (length o1) 8;let c:=take (yj a 1)<|o1++[BJ v0];let d:=(length v0:Int);let b:=zc .i64<|d-9;let g:=decide (0<=zc .i64 (d-9));let e:=take (z6 (length v0)<|toNat b)<|drop (toNat b) v0;let f:=decide (toNat b<=length v0);.di (d>9) (.ck (g&&true&&f&&decide (length v0<=length v0))<|.ck (DN e)<|.ck b'<|.ck (g&&decide (0<=toNat b)&&f)<|L3 (take (toNat b) v0) v3 (yj a 1)<|o1++[BJ e]) (.ck (DN v0)<|.ck b'<|.ck (decide (0+yj a 1<=length (o1++[BJ v0]))&&true&&decide (length c<=20000))<|.leaf (zt [.dat zj<|Cy v3 c,.dat (zg i64)<|Aw c]) []):=by kernel_rfl
theorem CA[Srt](v0:Rd)(a:Nat)(o1:List Int):stepT aN (L4 v0 a o1)=let b':=ac a (length o1) 8;let d:=take (yj a 1)<|o1++[BJ v0];let c:=(length v0:Int);let b:=zc .i64<|c-9;let g:=decide (0<=zc .i64 (c-9));let e:=take (z6 (length v0)<|toNat b)<|drop (toNat b) v0;let f:=decide (toNat b<=length v0);.di (c>9) (.ck (g&&true&&f&&decide (length v0<=length v0))<|.ck (DN e)<|.ck b'<|.ck (g&&decide (0<=toNat b)&&f)<|L4 (take (toNat b) v0) (yj a 1)<|o1++[BJ e]) (.ck (DN v0)<|.ck b'<|.ck (decide (0+yj a 1<=length (o1++[BJ v0]))&&true&&decide (length d<=20000))<|.leaf (zt [.dat zj<|Cy false d,.dat (zg i64)<|Aw d]) []):=by kernel_rfl
end T124
end
end Go.Pe
