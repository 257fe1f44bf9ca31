import Derived.Test.YtbmofcgiokkikaaGreatDoorX12
/- A part of a proof; no law is stated here. -/
noncomputable section
set_option maxRecDepth 10000
open Go.IntKind renaming wrap -> zc, i64 -> ye
open Go.Pe.Ends renaming tt -> zd, leaf -> zf, ite -> zh, Ah -> zj, eq -> zp, ff -> zq
open Bool renaming and_eq_true -> ze
open Int renaming toNat_natCast -> zi, tmod -> ya, eq_ofNat_of_zero_le -> yb, mul_le_mul_of_nonneg_left -> yc, tdiv -> yd, le_of_lt -> yf, lt_of_lt_of_le -> yi, gcd -> ym, mul_ne_zero -> yr, mul_neg -> yx, mul_ediv_cancel_left -> yy, tdiv_eq_ediv_of_dvd -> y8, mul_zero -> y9, add_zero -> qc, ediv_nonneg -> qe, one_mul -> qh, mul_add -> qi, mul_nonneg -> qj, natAbs_mul -> qk, add_assoc -> ql, gcd_comm -> qq
open Go.Lib renaming decDigits -> zk, itoa -> yv
open Rat renaming divInt -> zl, not_lt -> qd, floor_def -> qm, lt_irrefl -> qn
open Go.Pe.Sh renaming list -> zm, str -> zo, bool -> zt, pair -> yt, int -> qo
open List renaming all_eq_true -> zn, drop_eq_nil_of_le -> zz, length_cons -> z6, length_append -> z7, take_of_length_le -> yj, mem_cons -> yn, getD_eq_getElem?_getD -> yu, getElem?_eq_getElem -> yz, length_eq_zero_iff -> y7
open Go.Sp renaming rW -> zr, rN -> zu, Bb -> yk, B9 -> yo, vR -> qf, gI -> qt
open Go.Pe.Ac renaming of -> zy
open Classical renaming not_not -> z8
open Nat renaming sub -> yg, add_sub_cancel -> yh, pow_le_pow_right -> yp, le_refl -> qg, add -> qu
open UInt8 renaming toNat_inj -> yq, ofNat -> yw
open Go.Pe.PV renaming agg -> qp
variable {Q:Go.Pe.PV->Go.Pe.Ob->Prop}
namespace Go.Pe
open Sp
open Go.Det
section
open List Int Prod
namespace T192
def T(a:List Int)(i:Int):Tr:=tree XR0 false 9 192<|Af ([zm i64,qo ye]) (a,i)
theorem Ai(a:List Int)(i:Int):T a i=.di (i<(length a:Int)) (.ck (decide (0<=i)&&decide (i<(length a:Int)))<|.leaf (.dat i64<|getD a (toNat i) 0) []) (.leaf (.dat i64 (0:Int)) []):=by kernel_rfl
end T192
namespace T150
def T(a b:List Int):Tr:=tree WA false 9 150<|Af ([zm i64,zm i64]) (a,b)
def L1(v0 v1:List Int)(b a:Int):Tr:=re ((T [] []))<|Ap 42 [(0,.dat (zm i64) v0),(1,.dat (zm i64) v1),(5,.nil),(6,.dat i64 b),(7,.dat i64 a)] [] 0
theorem Ai(a b:List Int):T a b=L1 a b 0 0:=by kernel_rfl
def L2(v0 v1:List Int)(a:Nat)(d b:Int)(c:List Int):Tr:=re ((stepT WA<|L1 [] [] 0 0).L.L.L.L.L.L)<|Ap 42 [(0,.dat (zm i64) v0),(1,.dat (zm i64) v1),(5,.sl 0 1 0 a none),(6,.dat i64 d),(7,.dat i64 b)] [(0,.arr false 3 i64 c)] 1
theorem Al(v0 v1:List Int)(b a:Int):stepT WA (L1 v0 v1 b a)=.di (a<(length v0:Int)) (.cd (0<=a)<|.cd (0<=a)<|.ck true<|.ck (aa 8)<|.ck true<|L2 v0 v1 1 (zc .i64<|yd (zc .i64<|zc .i64 (Jo v0 a+Jo v1 a)+b) 1000000000) (zc .i64<|a+1)<|[ya (zc .i64<|zc .i64 (Jo v0 a+Jo v1 a)+b) 1000000000]) (.di (a<(length v1:Int)) (.cd (0<=a)<|.cd (0<=a)<|.ck true<|.ck (aa 8)<|.ck true<|L2 v0 v1 1 (zc .i64<|yd (zc .i64<|zc .i64 (Jo v0 a+Jo v1 a)+b) 1000000000) (zc .i64<|a+1)<|[ya (zc .i64<|zc .i64 (Jo v0 a+Jo v1 a)+b) 1000000000])<|.di (b>0) (.cd (0<=a)<|.cd (0<=a)<|.ck true<|.ck (aa 8)<|.ck true<|L2 v0 v1 1 (zc .i64<|yd (zc .i64<|zc .i64 (Jo v0 a+Jo v1 a)+b) 1000000000) (zc .i64<|a+1)<|[ya (zc .i64<|zc .i64 (Jo v0 a+Jo v1 a)+b) 1000000000])<|.leaf .nil []):=by kernel_rfl
theorem AA(v0 v1:List Int)(b:Nat)(c a:Int)(d:List Int):stepT WA (L2 v0 v1 b c a d)=.di (a<(length v0:Int)) (.cd (0<=a)<|.cd (0<=a)<|.ck true<|.ck (ac b (length d) 8)<|.ck true<|L2 v0 v1 (qu b 1) (zc .i64<|yd (zc .i64<|zc .i64 (Jo v0 a+Jo v1 a)+c) 1000000000) (zc .i64<|a+1)<|d++[ya (zc .i64<|zc .i64 (Jo v0 a+Jo v1 a)+c) 1000000000]) (.di (a<(length v1:Int)) (.cd (0<=a)<|.cd (0<=a)<|.ck true<|.ck (ac b (length d) 8)<|.ck true<|L2 v0 v1 (qu b 1) (zc .i64<|yd (zc .i64<|zc .i64 (Jo v0 a+Jo v1 a)+c) 1000000000) (zc .i64<|a+1)<|d++[ya (zc .i64<|zc .i64 (Jo v0 a+Jo v1 a)+c) 1000000000])<|.di (c>0) (.cd (0<=a)<|.cd (0<=a)<|.ck true<|.ck (ac b (length d) 8)<|.ck true<|L2 v0 v1 (qu b 1) (zc .i64<|yd (zc .i64<|zc .i64 (Jo v0 a+Jo v1 a)+c) 1000000000) (zc .i64<|a+1)<|d++[ya (zc .i64<|zc .i64 (Jo v0 a+Jo v1 a)+c) 1000000000])<|.leaf (.sl 0 1 0 b none)<|[(0,.arr false 3 i64 d)]):=by kernel_rfl
end T150
namespace T152
def T(a b:List Int):Tr:=tree WA false 9 152<|Af ([zm i64,zm i64]) (a,b)
def L1(v0 v1:List Int)(b a:Int):Tr:=re ((T [] []))<|Ap 35 [(0,.dat (zm i64) v0),(1,.dat (zm i64) v1),(5,.nil),(6,.dat i64 b),(7,.dat i64 a)] [] 0
theorem Ai(a b:List Int):T a b=L1 a b 0 0:=by kernel_rfl
def L2(v0 v1:List Int)(a:Nat)(d b:Int)(c:List Int):Tr:=re ((stepT WA<|L1 [] [] 0 0).L.L.L.L.L)<|Ap 35 [(0,.dat (zm i64) v0),(1,.dat (zm i64) v1),(5,.sl 0 1 0 a none),(6,.dat i64 d),(7,.dat i64 b)] [(0,.arr false 3 i64 c)] 1
theorem Al(v0 v1:List Int)(b a:Int):stepT WA (L1 v0 v1 b a)=.di (a<(length v0:Int)) (.ck (decide (0<=a)&&decide (a<(length v0:Int)))<|.cd (0<=a)<|.di (zc .i64 (zc .i64 (getD v0 (toNat a) 0-Jo v1 a)-b)<0) (.ck (aa 8)<|L2 v0 v1 1 1 (zc .i64<|a+1)<|[zc .i64<|zc .i64 (zc .i64 (getD v0 (toNat a) 0-Jo v1 a)-b)+1000000000])<|.ck (aa 8)<|L2 v0 v1 1 0 (zc .i64<|a+1)<|[zc .i64<|zc .i64 (getD v0 (toNat a) 0-Jo v1 a)-b]) (.ck true<|.leaf (.dat (zm i64)<|AE []) []):=by kernel_rfl
theorem AA(v0 v1:List Int)(a:Nat)(d b:Int)(c:List Int):stepT WA (L2 v0 v1 a d b c)=.di (b<(length v0:Int)) (.ck (decide (0<=b)&&decide (b<(length v0:Int)))<|.cd (0<=b)<|.di (zc .i64 (zc .i64 (getD v0 (toNat b) 0-Jo v1 b)-d)<0) (.ck (ac a (length c) 8)<|L2 v0 v1 (qu a 1) 1 (zc .i64<|b+1)<|c++[zc .i64<|zc .i64 (zc .i64 (getD v0 (toNat b) 0-Jo v1 b)-d)+1000000000])<|.ck (ac a (length c) 8)<|L2 v0 v1 (qu a 1) 0 (zc .i64<|b+1)<|c++[zc .i64<|zc .i64 (getD v0 (toNat b) 0-Jo v1 b)-d]) (.ck (decide (0+a<=length c)&&true&&decide (length (take a c)<=20000))<|.leaf (.dat (zm i64)<|AE<|take a c) []):=by kernel_rfl
end T152
namespace T84
def T(a b:Bool×List Int):Tr:=tree XR2 false 9 84<|Af ([yt zt<|zm i64,yt zt<|zm i64]) (a,b)
theorem Ai(a b:Bool×List Int):T a b=.ite (fst a==fst b) (.ck (sO (snd a)<|snd b)<|.cd (length (IG (snd a)<|snd b)<=20000)<|.leaf (qp [.dat zt<|CY (fst a)<|IG (snd a)<|snd b,.dat (zm i64)<|AE<|IG (snd a)<|snd b]) []) (.ck (Bh (snd a)&&Bh (snd b))<|.di (Cd (Ar<|snd a) (Ar<|snd b)>=0) (.ck (sO (snd a) (snd b)&&decide (Ar (snd b)<=Ar (snd a)))<|.cd (length (Km (snd a)<|snd b)<=20000)<|.leaf (qp [.dat zt<|CY (fst a)<|Km (snd a)<|snd b,.dat (zm i64)<|AE<|Km (snd a)<|snd b]) [])<|.ck (sO (snd b) (snd a)&&decide (Ar (snd a)<=Ar (snd b)))<|.cd (length (Km (snd b)<|snd a)<=20000)<|.leaf (qp [.dat zt<|CY (fst b)<|Km (snd b)<|snd a,.dat (zm i64)<|AE<|Km (snd b)<|snd a]) []):=by kernel_rfl
end T84
namespace T85
def T(a b:Bool×List Int):Tr:=tree XR2 false 9 85<|Af ([yt zt<|zm i64,yt zt<|zm i64]) (a,b)
theorem Ai(a b:Bool×List Int):T a b=.ck (Sp.hR (snd a)&&Sp.hR (snd b)) (.cd (length (B0<|Ar (snd a)*Ar (snd b))<=20000)<|.leaf (qp [.dat zt<|CY (!fst a==fst b)<|B0<|Ar (snd a)*Ar (snd b),.dat (zm i64)<|AE<|B0<|Ar (snd a)*Ar (snd b)]) []):=by kernel_rfl
end T85
namespace T146
def T(a:Bool×List Int):Tr:=tree XR2 false 9 146<|Af ([yt zt<|zm i64]) a
theorem Ai(a:Bool×List Int):T a=.cd (length (snd a)<=20000) (.leaf (qp [.dat zt<|CY (!fst a)<|snd a,.dat (zm i64)<|AE<|snd a]) []):=by kernel_rfl
end T146
namespace T182
def T(a b:Bool×List Int):Tr:=tree XR2 false 9 182<|Af ([yt zt<|zm i64,yt zt<|zm i64]) (a,b)
theorem Ai(a b:Bool×List Int):T a b=.ck (Bh (snd a)&&Bh (snd b)&&decide (length (snd a)<=9000)&&decide (length (snd b)<=9000)&&decide (0<Ar (snd b))) (.ite (fst a) (.di ((↑(length<|B0<|Ar (snd a) % Ar (snd b)):Int)>0) (.ck (sO (B0<|Ar (snd a)/Ar (snd b)) [1])<|.cd (length (IG (B0<|Ar (snd a)/Ar (snd b)) [1])<=20000)<|.leaf (qp [.dat zt<|CY (fst a)<|IG (B0<|Ar (snd a)/Ar (snd b)) [1],.dat (zm i64)<|AE<|IG (B0<|Ar (snd a)/Ar (snd b)) [1]]) [])<|.cd (length (B0<|Ar (snd a)/Ar (snd b))<=20000)<|.leaf (qp [.dat zt<|CY (fst a)<|B0<|Ar (snd a)/Ar (snd b),.dat (zm i64)<|AE<|B0<|Ar (snd a)/Ar (snd b)]) [])<|.cd (length (B0<|Ar (snd a)/Ar (snd b))<=20000)<|.leaf (qp [.dat zt<|CY (fst a)<|B0<|Ar (snd a)/Ar (snd b),.dat (zm i64)<|AE<|B0<|Ar (snd a)/Ar (snd b)]) []):=by kernel_rfl
end T182
namespace T148
def T(a:Bool×List Int):Tr:=tree XR3 false 9 148<|Af ([yt zt<|zm i64]) a
def L1(v3:Z)(v4:Int)(b:Bool)(a:List Int):Tr:=re ((T (false,[])).R.L.L)<|Ap 39 [(1,.ptr 0 0),(3,.dat zo v3),(4,.dat i64 v4)] [(0,.box [.dat zt b,.dat (zm i64) a])] 1
theorem Ai(a:Bool×List Int):T a=.ite ((↑(length<|snd a):Int)==0) (.leaf (.dat zo [(48:UInt8)]) []) (.ck (decide (0<=zc .i64 ((↑(length<|snd a):Int)-1))&&decide (zc .i64 ((↑(length<|snd a):Int)-1)<(↑(length<|snd a):Int)))<|.ck (decide (0<=getD (snd a) (toNat<|zc .i64<|(↑(length<|snd a):Int)-1) 0)&&decide (getD (snd a) (toNat<|zc .i64<|(↑(length<|snd a):Int)-1) 0<9223372036854775808)&&decide (0<=1)&&decide (1<=20))<|L1 (JF (getD (snd a) (toNat<|zc .i64<|(↑(length<|snd a):Int)-1) 0) 1) (zc .i64<|(↑(length<|snd a):Int)-2) (fst a)<|snd a):=by kernel_rfl
theorem Al(v3:Z)(v4:Int)(b:Bool)(a:List Int):stepT XR3 (L1 v3 v4 b a)=.di (v4>=0) (.ck (decide (0<=v4)&&decide (v4<(length a:Int)))<|.ck (decide (0<=getD a (toNat v4) 0)&&decide (getD a (toNat v4) 0<9223372036854775808)&&decide (0<=9)&&decide (9<=20))<|.cd (length v3+length (JF (getD a (toNat v4) 0) 9)<=4611686018427387904)<|L1 (v3++JF (getD a (toNat v4) 0) 9) (zc .i64<|v4-1) b a) (.ite b (.cd (1+length v3<=4611686018427387904)<|.leaf (.dat zo<|[(45:UInt8)]++v3) [])<|.leaf (.dat zo v3) []):=by kernel_rfl
end T148
namespace T83
def T(a b:Bool×List Int):Tr:=tree yN false 9 83<|Af ([yt zt<|zm i64,yt zt<|zm i64]) (a,b)
def L1(o1:Bool)(a:List Int)(c:Bool)(b:List Int):Tr:=re ((T (false,[]) (false,[])).L.L.L)<|Ap 57 [(2,.ptr 0 0),(3,.ptr 1 0)] [(1,.box [.dat zt o1,.dat (zm i64) a]),(0,.box [.dat zt c,.dat (zm i64) b])] 2
theorem Ai(a b:Bool×List Int):T a b=.ite (fst b) (.ck (CP a)<|.ck (CP b)<|L1 (U6 b) (Wm b) (U6 a)<|Wm a) (L1 (fst b) (snd b) (fst a)<|snd a):=by kernel_rfl
def L2(b:List Int)(a:Z):Tr:=re ((stepT yN<|L1 false [] false []).L.L.L.L.L)<|Ap 57 [(8,.dat (zm i64) b),(10,.dat zo a)] [] 0
theorem Al(o1:Bool)(b:List Int)(c:Bool)(a:List Int):stepT yN (L1 o1 b c a)=.ck (Bh a&&Bh b&&decide (length a<=9000)&&decide (length b<=9000)) (.ck (Bh a&&Bh (CN a b)&&decide (length a<=9000)&&decide (length (CN a b)<=9000)&&decide (0<Ar (CN a b)))<|.ck (Bh b&&Bh (CN a b)&&decide (length b<=9000)&&decide (length (CN a b)<=9000)&&decide (0<Ar (CN a b)))<|.cd (length (B0<|Ar a/Ar (CN a b))<=20000)<|.ck (CP (CY c<|B0<|Ar a/Ar (CN a b),AE<|B0<|Ar a/Ar (CN a b)))<|L2 (B0<|Ar b/Ar (CN a b))<|Gt (CY c<|B0<|Ar a/Ar (CN a b),AE<|B0<|Ar a/Ar (CN a b))):=by kernel_rfl
def L3(b:List Int)(a:Z):Tr:=re ((stepT yN<|L2 [] []).L.L.R)<|Ap 57 [(8,.dat (zm i64) b),(10,.dat zo a)] [] 0
theorem AA(b:List Int)(a:Z):stepT yN (L2 b a)=.ite ((length b:Int)==1) (.cd (0<(length b:Int))<|.ite (getD b 0 0==1) (.leaf (.dat zo a) [])<|L3 b a) (L3 b a):=by kernel_rfl
theorem Bo(b:List Int)(a:Z):stepT yN (L3 b a)=.cd (length a+1<=4611686018427387904) (.cd (length b<=20000)<|.ck (CP (CY false b,AE b))<|.cd (length (a++[(47:UInt8)])+length (Gt (CY false b,AE b))<=4611686018427387904)<|.leaf (.dat zo<|a++[(47:UInt8)]++Gt (CY false b,AE b)) []):=by kernel_rfl
end T83
namespace T81
def T(n d:Int):Tr:=tree mK false 9 81<|Af ([qo ye,qo ye]) (n,d)
def L1(v0 v1:Int):Tr:=re ((T 0 0).R.R.R.R)<|Ap 61 [(0,.dat i64 v0),(1,.dat i64 v1)] [] 0
theorem Ai(n d:Int):T n d=.di (n<(-4000000000000000000)) (.ck (Cn n)<|.ck (Cn d)<|.ck (CP (zu n,zr n)&&CP (zu d,zr d)&&decide (qf (zu d,zr d)≠0))<|.leaf (.dat zo<|JL (zu n,zr n) (zu d,zr d)) []) (.di (n>4000000000000000000) (.ck (Cn n)<|.ck (Cn d)<|.ck (CP (zu n,zr n)&&CP (zu d,zr d)&&decide (qf (zu d,zr d)≠0))<|.leaf (.dat zo<|JL (zu n,zr n) (zu d,zr d)) [])<|.di (d<(-4000000000000000000)) (.ck (Cn n)<|.ck (Cn d)<|.ck (CP (zu n,zr n)&&CP (zu d,zr d)&&decide (qf (zu d,zr d)≠0))<|.leaf (.dat zo<|JL (zu n,zr n) (zu d,zr d)) [])<|.di (d>4000000000000000000) (.ck (Cn n)<|.ck (Cn d)<|.ck (CP (zu n,zr n)&&CP (zu d,zr d)&&decide (qf (zu d,zr d)≠0))<|.leaf (.dat zo<|JL (zu n,zr n) (zu d,zr d)) [])<|L1 n d):=by kernel_rfl
def L2(v0 v1:Int):Tr:=re ((stepT mK<|L1 0 0).L)<|Ap 61 [(0,.dat i64 v0),(1,.dat i64 v1)] [] 0
theorem Al(v0 v1:Int):stepT mK (L1 v0 v1)=.di (v1<0) (L2 (zc .i64<|0-v0)<|zc .i64<|0-v1) (L2 v0 v1):=by kernel_rfl
def L3(v0 v1:Int):Tr:=re ((stepT mK<|L2 0 0).L.L.L)<|Ap 61 [(0,.dat i64 v0),(1,.dat i64 v1)] [] 0
theorem AA(v0 v1:Int):stepT mK (L2 v0 v1)=.ck (AhL (imax v0<|zc .i64<|0-v0) v1) (.cd (qt (imax v0<|zc .i64<|0-v0) v1≠0)<|.cd (qt (imax v0<|zc .i64<|0-v0) v1≠0)<|L3 (zc .i64<|yd v0<|qt (imax v0<|zc .i64<|0-v0) v1)<|zc .i64<|yd v1<|qt (imax v0<|zc .i64<|0-v0) v1):=by kernel_rfl
def L4(v1:Int)(a:Z):Tr:=re ((stepT mK<|L3 0 0).L.L.L)<|Ap 61 [(1,.dat i64 v1),(6,.dat zo a)] [] 0
theorem Bo(v0 v1:Int):stepT mK (L3 v0 v1)=.di (v0<0) (.ck (decide (0<=imax v0 (zc .i64<|0-v0))&&decide (imax v0 (zc .i64<|0-v0)<9223372036854775808)&&decide (0<=1)&&decide (1<=20))<|.cd (1+length (JF (imax v0<|zc .i64<|0-v0) 1)<=4611686018427387904)<|L4 v1<|[(45:UInt8)]++JF (imax v0<|zc .i64<|0-v0) 1) (.ck (decide (0<=imax v0 (zc .i64<|0-v0))&&decide (imax v0 (zc .i64<|0-v0)<9223372036854775808)&&decide (0<=1)&&decide (1<=20))<|.cd (0+length (JF (imax v0<|zc .i64<|0-v0) 1)<=4611686018427387904)<|L4 v1<|[]++JF (imax v0<|zc .i64<|0-v0) 1):=by kernel_rfl
theorem BX(v1:Int)(a:Z):stepT mK (L4 v1 a)=.di (v1>1) (.cd (length a+1<=4611686018427387904)<|.ck (decide (0<=v1)&&decide (v1<9223372036854775808)&&decide (0<=1)&&decide (1<=20))<|.cd (length (a++[(47:UInt8)])+length (JF v1 1)<=4611686018427387904)<|.leaf (.dat zo<|a++[(47:UInt8)]++JF v1 1) []) (.leaf (.dat zo a) []):=by kernel_rfl
end T81
namespace T144
def T(a b:Int):Tr:=tree Mh false 9 144<|Af ([qo ye,qo ye]) (a,b)
def L1(v0 v1:Int):Tr:=re ((T 0 0))<|Ap 12 [(0,.dat i64 v0),(1,.dat i64 v1)] [] 0
theorem Ai(a b:Int):T a b=L1 a b:=by kernel_rfl
theorem Al(v0 v1:Int):stepT Mh (L1 v0 v1)=.di (v1>0) (.cd (v1≠0)<|L1 v1<|ya v0 v1) (.leaf (.dat i64 v0) []):=by kernel_rfl
end T144
namespace T87
def T(s:Z):Tr:=tree Mh false 9 87<|Af ([zo]) s
theorem Ai(s:Z):T s=let a:Tr:=.leaf (.dat i64 (1:Int)) [];.ite (s==[(48:UInt8)]) (.leaf (.dat i64 (0:Int)) []) (.di ((length s:Int)>0) (.cd (0<(length s:Int))<|.ite ((↑(UInt8.toNat<|getD s 0 (0:UInt8)):Int)==45) (.leaf (.dat i64 (-1:Int)) []) a) a):=by kernel_rfl
end T87
namespace T86
def T(s:Z):Tr:=tree XO2 false 9 86<|Af ([zo]) s
theorem Ai(s:Z):T s=let a:=decide (length s<=1000000);.ck a (.di (Gr s<0) (.ck (decide (1<=length s)&&decide (length s<=length s))<|.leaf (.dat zo<|take (yg (length s) 1)<|drop 1 s) [])<|.ck a<|.ite (Gr s==0) (.leaf (.dat zo s) [])<|.cd (1+length s<=4611686018427387904)<|.leaf (.dat zo<|[(45:UInt8)]++s) []):=by kernel_rfl
end T86
namespace T145
def T(n l:Int):Tr:=tree Mh false 9 145<|Af ([qo ye,qo ye]) (n,l)
def L1(v0 v1:Int)(v5:Z):Tr:=re ((T 0 0))<|Ap 25 [(0,.dat i64 v0),(1,.dat i64 v1),(5,.dat zo v5)] [] 0
theorem Ai(n l:Int):T n l=L1 n l []:=by kernel_rfl
theorem Al(v0 v1:Int)(v5:Z):stepT Mh (L1 v0 v1 v5)=let a:=zc .i64<|ya v0 10+1;let b:=toNat<|ya v0 10;let b':=drop b [(48:UInt8),49,50,51,52,53,54,55,56,57];let c:Tr:=.ck true<|.ck true<|.ck (decide (0<=ya v0 10)&&decide (0<=zc .i64 (ya v0 10+1))&&decide (toNat (ya v0 10)<=toNat a)&&decide (toNat a<=10))<|.cd (length (take (yg (toNat a) b) b')+length v5<=4611686018427387904)<|.ck true<|L1 (zc .i64<|yd v0 10) v1<|take (yg (toNat a) b) b'++v5;.di (v0>0) c (.di ((length v5:Int)<v1) c<|.leaf (.dat zo v5) []):=by kernel_rfl
end T145
namespace T80
def T(s:Z):Tr:=tree PH false 9 80<|Af ([zo]) s
def L1(v5:Z)(a:Bool):Tr:=re ((T []).R.L.L)<|Ap 54 [(5,.dat zo v5),(6,.dat zt a)] [] 0
def L2(v5:Z):Tr:=re ((T []).R.R)<|Ap 54 [(5,.dat zo v5),(6,.bl false)] [] 0
theorem Ai(s:Z):T s=let a:=(length s:Int);.di (a>20) (.leaf (.tup [.dat i64 (0:Int),.dat i64 (0:Int),.bl false]) []) (.di (a>0) (.cd (0<a)<|L1 s<|(↑(UInt8.toNat<|getD s 0 (0:UInt8)):Int)==45)<|L2 s):=by kernel_rfl
def L3(v5:Z)(a:Bool):Tr:=re ((stepT PH<|L1 [] false).L.L)<|Ap 54 [(5,.dat zo v5),(6,.dat zt a)] [] 0
theorem Al(v5:Z)(a:Bool):stepT PH (L1 v5 a)=.ite a (.ck (decide (1<=length v5)&&decide (length v5<=length v5))<|L3 (take (yg (length v5) 1)<|drop 1 v5) a) (L3 v5 a):=by kernel_rfl
def L4(v5:Z):Tr:=re ((stepT PH<|L2 []))<|Ap 54 [(5,.dat zo v5),(6,.bl false)] [] 0
theorem AA(v5:Z):stepT PH (L2 v5)=L4 v5:=by kernel_rfl
def L5(v5:Z)(c:Bool)(b a v9:Int):Tr:=re ((stepT PH<|L3 [] false).L.R.R.L.L)<|Ap 54 [(5,.dat zo v5),(6,.dat zt c),(7,.dat i64 b),(8,.dat i64 a),(9,.dat i64 v9)] [] 0
theorem Bo(v5:Z)(a:Bool):stepT PH (L3 v5 a)=let b:Tr:=.leaf (.tup [.dat i64 (0:Int),.dat i64 (0:Int),.bl false]) [];let b':=A8 v5;.cd (length v5<=1000000) (.di (A8 v5>9) b<|.di (zc .i64 ((length v5:Int)-A8 v5)>10) b<|.ck (decide (0<=A8 v5)&&decide (0<=toNat b')&&decide (toNat b'<=length v5))<|.ck (Ew<|take (toNat b') v5)<|L5 v5 a b' (B5<|take (toNat b') v5) 1):=by kernel_rfl
def L6(v5:Z)(a b v9:Int):Tr:=re ((stepT PH<|L4 []).L.R.R.L.L)<|Ap 54 [(5,.dat zo v5),(6,.bl false),(7,.dat i64 a),(8,.dat i64 b),(9,.dat i64 v9)] [] 0
theorem BX(v5:Z):stepT PH (L4 v5)=let a:Tr:=.leaf (.tup [.dat i64 (0:Int),.dat i64 (0:Int),.bl false]) [];let b':=A8 v5;.cd (length v5<=1000000) (.di (A8 v5>9) a<|.di (zc .i64 ((length v5:Int)-A8 v5)>10) a<|.ck (decide (0<=A8 v5)&&decide (0<=toNat b')&&decide (toNat b'<=length v5))<|.ck (Ew<|take (toNat b') v5)<|L6 v5 b' (B5<|take (toNat b') v5) 1):=by kernel_rfl
def L7(b:Bool)(a v9:Int):Tr:=re ((stepT PH<|L5 [] false 0 0 0).L.L.L)<|Ap 54 [(6,.dat zt b),(8,.dat i64 a),(9,.dat i64 v9)] [] 0
theorem Dl(v5:Z)(c:Bool)(a b v9:Int):stepT PH (L5 v5 c a b v9)=let b':=zc .i64<|a+1;let d:=take (yg (length v5)<|toNat b')<|drop (toNat b') v5;.di (a<(length v5:Int)) (.ck (decide (0<=zc .i64 (a+1))&&true&&decide (toNat b'<=length v5)&&decide (length v5<=length v5))<|.ck (Ew d)<|L7 c b<|B5 d) (L7 c b v9):=by kernel_rfl
def L8(a v9:Int):Tr:=re ((stepT PH<|L6 [] 0 0 0).L.L.L)<|Ap 54 [(6,.bl false),(8,.dat i64 a),(9,.dat i64 v9)] [] 0
theorem CL(v5:Z)(a b v9:Int):stepT PH (L6 v5 a b v9)=let b':=zc .i64<|a+1;let c:=take (yg (length v5)<|toNat b')<|drop (toNat b') v5;.di (a<(length v5:Int)) (.ck (decide (0<=zc .i64 (a+1))&&true&&decide (toNat b'<=length v5)&&decide (length v5<=length v5))<|.ck (Ew c)<|L8 b<|B5 c) (L8 b v9):=by kernel_rfl
theorem C6(b:Bool)(a v9:Int):stepT PH (L7 b a v9)=.ite b (.leaf (.tup [.dat i64<|zc .i64<|0-a,.dat i64 v9,.bl true]) []) (.leaf (.tup [.dat i64 a,.dat i64 v9,.bl true]) []):=by kernel_rfl
theorem DM(a v9:Int):stepT PH (L8 a v9)=.leaf (.tup [.dat i64 a,.dat i64 v9,.bl true]) []:=by kernel_rfl
end T80
namespace T33
def T(a:Z):Tr:=tree Mh false 9 33<|Af ([zo]) a
theorem Ai(a:Z):T a=let b:Tr:=.ck (decide (1<=length a)&&decide (length a<=length a))<|.leaf (.dat zo<|take (yg (length a) 1)<|drop 1 a) [];let b':Tr:=.ite false b<|.leaf (.dat zo a) [];.ite (a==[(48:UInt8)]) b' (.di ((length a:Int)>0) (.cd (0<(length a:Int))<|.ite ((↑(UInt8.toNat<|getD a 0 (0:UInt8)):Int)==45) (.ite true b<|.leaf (.dat zo a) []) b') b'):=by kernel_rfl
end T33
namespace T113
def T(a:Z):Tr:=tree XM5 false 9 113<|Af ([zo]) a
theorem Ai(a:Z):T a=.cd (length a<=1000000) (.ck (decide (0<=A8 a)&&decide (0<=toNat (A8 a))&&decide (toNat (A8 a)<=length a))<|.leaf (.dat zo<|take (toNat<|A8 a) a) []):=by kernel_rfl
end T113
namespace T114
def T(a:Z):Tr:=tree XM5 false 9 114<|Af ([zo]) a
theorem Ai(a:Z):T a=let b:=zc .i64<|A8 a+1;.cd (length a<=1000000) (.ite (A8 a==(length a:Int)) (.leaf (.dat zo [(49:UInt8)]) [])<|.ck (decide (0<=zc .i64 (A8 a+1))&&true&&decide (toNat b<=length a)&&decide (length a<=length a))<|.leaf (.dat zo<|take (yg (length a)<|toNat b)<|drop (toNat b) a) []):=by kernel_rfl
end T114
namespace T49
def T(a:Z)(n:Int):Tr:=tree XM3 false 9 49<|Af ([zo,qo ye]) (a,n)
theorem Ai(a:Z)(n:Int):T a n=let b:=decide (length a<=1000000);let b':Tr:=.leaf (.bl false) [];.di ((length a:Int)<=zc .i64 (zc .i64 (2*n)+2)) (.ck b<|.ite (Ao a==0) (.ck b<|.cd (length (AO a)<=1000000)<|.di ((↑(length<|A9<|AO a):Int)<=n) (.ck b<|.leaf (.dat zt<|decide ((↑(length<|Wr a):Int)<=n)) []) b') b') b':=by kernel_rfl
end T49
end
theorem dT:Cr XM5:=Aa T139.ok AI
theorem T33.ok:Ae A1 33 Xd:=by
 refine C3 FB<|fun(a:Z) i=>?_;have i:a.length<=1000000:=w6 i;have b:∀s ob,s=A9 a->Ac Xd a (.dat .str s) ob:=fun s ob h=>zy rfl rfl h
 refine zp (T33.Ai a)<|zh (fun c=>zq rfl (zf<|b _ _ ?_))<|fun c=>?_
 ·have c:a=[48]:=by simpa using c
  subst c;rfl
 ·cases a with
  |nil=>exact zq rfl (zq rfl (zf<|b _ _ rfl))
  |cons x r=>
   have g:(x::r).getD 0 0=x:=rfl;have e:(List.drop 1 (x::r)).take (yg (x::r).length 1)=r:=by show r.take ((r.length+1)-1)=r;rw[yh];exact List.take_length
   rw[g,e];refine zd (by simp) (zd (by simp)<|zh (fun d=>zd rfl (zd (by simp)<|zf<|b _ _ ?_))<|fun d=>zq rfl (zf<|b _ _ ?_))
   ·have f:x=45:=by
     have:(x.toNat:Int)=45:=by simpa using d
     exact yq.1 (by show _=45;omega)
    unfold A9;rw[g,wd f];rfl
   ·have f:x≠45:=by rintro rfl;exact wh d af
    unfold A9;rw[g,wc f]
theorem T113.ok:Ae A1 113 vM:=by
 refine C3 dT<|fun(a:Z) hl=>?_;have b:=(T163.Kr a).1;refine zp (T113.Ai a)<|zd hl ?_;rw[show A8 a=((AO a).length:Int)from rfl,zi];exact zd (by simp;omega)<|zf<|zy rfl rfl (Cc a).1.symm
theorem T114.ok:Ae A1 114 gD:=by
 refine C3 dT<|fun(a:Z) hl=>?_;have i:a.length<=1000000:=w6 hl;obtain⟨m,f,k⟩:=Cc a;have c:∀s ob,s=Wr a->Ac gD a (.dat .str s) ob:=fun s ob h=>zy rfl rfl h
 have d:=(T163.Kr a).1;have es:A8 a=((AO a).length:Int):=rfl;refine zp (T114.Ai a)<|zd hl ?_;rw[es];cases b:B1 a with
 |false=>
  refine zd (by rw[(k b).1];simp)<|zf<|c _ _ ?_;unfold Wr;rw[b];rfl
 |true=>
  obtain⟨l,g⟩:=f b;have e:zc .i64 (((AO a).length:Int)+1)=(((AO a).length+1:Nat):Int):=by rw[wr _ ae ae];omega
  have j:(a.drop<|(AO a).length+1).take (yg a.length<|(AO a).length+1)=a.drop ((AO a).length+1):=yj (by rw[List.length_drop];exact qg _);rw[e,zi,j];refine zq (by simp;omega) (zd (by simp;omega)<|zf<|c _ _ ?_);unfold Wr;rw[b,g];rfl
theorem Ab3:Cr XM3:=Aa T78.ok<|Aa T33.ok<|Aa T113.ok<|Aa T114.ok AI
theorem T49.ok:Ae A1 49 gL:=by
 refine C3 Ab3<|fun(i:Z×Int) g=>?_;obtain⟨a,n⟩:=i;have g:(decide (0<=n)&&decide (n<=1000))=true:=g;rw[ze,w5,w5]at g;obtain⟨h0,h1⟩:=g;have f:∀v b ob,v=.bl b\/v=.dat .bool b->b=Cp a n->Ac gL (a,n) v ob:=by
  rintro v b ob (rfl|rfl) j
  ·exact zy rfl rfl j
  ·exact zy rfl rfl j
 have l:zc .i64 (zc .i64 (2*n)+2)=2*n+2:=by rw[wr (2*n) ae ae];exact wr _ ae ae
 have k:=(T163.Kr a).1;refine zp (T49.Ai a n) ?_;conv=>zeta
 rw[l];by_cases h:a.length<=1000000
 case neg=>
  have c:decide ((a.length:Int)<=2*n+2)=false:=w8 ae;refine zq c<|zf<|f _ _ _ (.inl rfl) ?_;unfold Cp;rw[c];rfl
 refine zh (fun c=>zd (w4 h)<|zh (fun d=>zd (w4 h)<|zd (w4 ae)<|zh (fun e=>zd (w4 h)<|zf<|f _ _ _ (.inr rfl) ?_)<|fun e=>zf<|f _ _ _ (.inl rfl) ?_)<|fun d=>zf<|f _ _ _ (.inl rfl) ?_)<|fun c=>zf<|f _ _ _ (.inl rfl) ?_
 ·have d:Ao a=0:=by simpa using d
  unfold Cp;rw[c,e,w4 d];rfl
 ·unfold Cp;rw[e];simp
 ·have d:Ao a≠0:=by simpa using d
  unfold Cp;rw[w8 d];simp
 ·unfold Cp;rw[c];rfl
namespace T144
theorem As(g:Nat)(b:∀ob,Q (.dat i64 (g:Int)) ob):∀(f x y:Nat),y<f->Nat.gcd x y=g->Ends Mh (L1 (x:Int) (y:Int)) Q
 |0,x,y,h,_=>by omega
 |f+1,x,y,d,c=>by
  refine zj (Al ..) ?_;conv=>zeta
  by_cases h0:y=0
  ·simp_all
  ·have a:x % y<y:=Nat.mod_lt _ ae;exact zd ah (zd ah<|As g b f y (x % y) ae<|by grind [Nat.gcd_comm,Nat.gcd_rec])
theorem ok:Ae A1 144 Adp:=by
 refine AX (X:=Mh) rfl FB (d:=9) (by rfl) (by rfl) (by rfl) (fun(i:Int×Int) c=>?_) (Ak ag);obtain⟨a,b⟩:=i;have c:(decide (0<=a)&&decide (a<9223372036854775808)&&decide (0<=b)&&decide (b<9223372036854775808))=true:=c;rw[ze,ze,ze,w5,w5,w5,w5]at c;obtain⟨⟨⟨a0,_⟩,b0⟩,_⟩:=c;obtain⟨x,rfl⟩:=yb a0;obtain⟨y,rfl⟩:=yb b0;refine zp (Ai x y) (As (Nat.gcd x y) (fun ob=>zy rfl rfl ?_) (y+1) x y ae rfl);rfl
end T144
namespace T87
theorem ok:Ae A1 87 N4:=by
 refine AX (X:=Mh) rfl FB (d:=9) (by rfl) (by rfl) (by rfl) (fun(s:Z) hl=>?_) (Ak ag);have a:∀v ob,v=Gr s->Ac N4 s (.dat i64 v) ob:=fun v ob b=>zy rfl rfl b
 refine zp (Ai s)<|zh (fun c=>zf<|a _ _ ?_)<|fun c=>?_
 ·simp_all [Gr]
 ·cases s with
  |nil=>exact zq rfl (zf<|a _ _ rfl)
  |cons x r=>
   have f:(x::r).getD 0 0=x:=rfl;rw[f];refine zd (by simp) (zd (by simp)<|zh (fun d=>zf<|a _ _ ?_)<|fun d=>zf<|a _ _ ?_)
   ·have e:x=45:=by
     exact yq.1 ah
    simp_all [Gr]
   ·have e:x≠45:=by rintro rfl;grind
    simp_all [Gr]
end T87
theorem AaC:Cr XO2:=Aa T87.ok AI
theorem T86.ok:Ae A1 86 dG:=by
 refine AX (X:=XO2) rfl AaC (d:=9) (by rfl) (by rfl) (by rfl) (fun(s:Z) a=>?_) (Ak ag);have a:s.length<=1000000:=w6 a;have b:∀v ob,v=M6 s->Ac dG s (.dat .str v) ob:=fun v ob e=>zy rfl rfl e
 refine zp (T86.Ai s) (zd ah ?_);unfold M6 at b;unfold Gr;by_cases c:s=[48]
 ·simp_all
 ·rw[wc c];by_cases d:s.getD 0 0=45
  ·have hp:1<=s.length:=ah;simp_all [yj]
  ·rw[wc d];exact zq rfl (zd ah<|zq rfl (zd ah<|by simp_all))
namespace T145
theorem mR:∀k:Fin 10,List.take (yg (k.1+1) k.1) (List.drop k.1 [(48:UInt8),49,50,51,52,53,54,55,56,57])=[yw<|48+k.1]:=af
theorem As{Q:PV->Ob->Prop}(l:Nat)(_:l<=20):∀(f n:Nat) (a:Z),n<9223372036854775808->n<10^f->l<=a.length+f->a.length+f<=64->(∀ob,Q (.dat .str<|J6 (f+1) n l a) ob)->Ends Mh (L1 (n:Int) (l:Int) a) Q:=by
 intro f;induction f with
 |zero=>
  intro n a k m e d g;have h0:n=0:=ae
  subst h0;unfold J6 at g;exact zj (Al ..) (zq rfl (by grind [zq,zf]))
 |succ f i=>
  intro n a k m e d g;have j:ya (n:Int) 10=((n % 10:Nat):Int):=by rfl
  have q:zc .i64 (((n % 10:Nat):Int)+1)=((n % 10+1:Nat):Int):=by grind [wr]
  have h:zc .i64 (yd (n:Int) 10)=((n/10:Nat):Int):=by grind [wr]
  have p:=mR ⟨n % 10,ae⟩;refine zj (Al ..) ?_;conv=>zeta
  rw[j,q,h,zi,zi,p];by_cases o:n=0/\l<=a.length
  ·obtain⟨r,z2⟩:=o;subst r;unfold J6 at g;exact zq rfl (by grind [zq,zf])
  ·have b:∀ob,Q (.dat .str<|J6 (f+1) (n/10) l (yw (48+n % 10)::a)) ob:=by
    simp_all [J6]
   have go:Ends Mh (L1 ((n/10:Nat):Int) (l:Int)<|[yw<|48+n % 10]++a) Q:=i (n/10) (yw (48+n % 10)::a) ae ae ah ah b;refine zh (fun _=>?_)<|fun c=>zd ?_ ?_
   ·exact zd rfl (zd rfl (zd ah<|zd ah<|by simp_all))
   ·grind
   ·exact zd rfl (zd rfl (zd ah<|zd ah<|by simp_all))
theorem ok:Ae A1 145 RV:=by
 refine AX (X:=Mh) rfl FB (d:=9) (by rfl) (by rfl) (by rfl) (fun(i:Int×Int) c=>?_) (Ak ag);obtain⟨a,b⟩:=i;have c:(decide (0<=a)&&decide (a<9223372036854775808)&&decide (0<=b)&&decide (b<=20))=true:=c;rw[ze,ze,ze,w5,w5,w5,w5]at c;obtain⟨⟨⟨a0,a1⟩,b0⟩,b1⟩:=c;obtain⟨x,rfl⟩:=yb a0;obtain⟨y,rfl⟩:=yb b0;refine zp (Ai x y) (As y ae 63 x [] ae ae ae af<|fun ob=>zy rfl rfl ?_);rfl
end T145
theorem Aaw:Cr PH:=Aa T142.ok<|Aa T139.ok AI
namespace T80
theorem CO(neg:Bool)(n d:Int)(h0:0<=n)(b:n<1000000000)(a:∀ob,Q (.tup [.dat i64<|if neg=true then -n else n,.dat i64 d,.bl true]) ob):Ends PH (L7 neg n d) Q:=by
 refine zj (C6 ..) ?_;conv=>zeta
 cases neg with
 |true=>
  refine zd rfl (zf ?_);grind [wr]
 |false=>simp_all
theorem C0(s:Z)(neg:Bool)(n:Int)(h0:0<=n)(f:n<1000000000)(j:s.length<=20)(h:(yk s).length<=9)(db:Au (yk s)=true)(a:∀ob,Q (.tup [.dat i64<|if neg=true then -n else n,.dat i64<|if B1 s=true then AK 0 (yk s)else 1,.bl true]) ob):Ends PH (L5 s neg (A8 s) n 1) Q:=by
 obtain⟨i,c,l⟩:=Cc s;refine zj (Dl ..) ?_;conv=>zeta
 have es:A8 s=((AO s).length:Int):=rfl;cases b:B1 s with
 |true=>
  rw[b]at a;obtain⟨k,g⟩:=c b;have d:zc .i64 (A8 s+1)=(((AO s).length+1:Nat):Int):=by grind [wr]
  have e:(yk s).take (yg s.length<|(AO s).length+1)=yk s:=ah;rw[d,zi, <-g,e];exact zd ah (zd ah<|zd (by grind [T138.Cq])<|CO neg n _ h0 f a)
 |false=>
  grind [zq,CO]
theorem DE(s:Z)(neg:Bool)(a:s.length<=20)(e:(AO s).length<=9)(b:(yk s).length<=9)(d:Au (AO s)=true)(db:Au (yk s)=true)(g:∀n ob,n=AK 0 (AO s)->Q (.tup [.dat i64<|if neg=true then -n else n,.dat i64<|if B1 s=true then AK 0 (yk s)else 1,.bl true]) ob):Ends PH (L3 s neg ) Q:=by
 obtain⟨i,f,h⟩:=Cc s;have es:A8 s=((AO s).length:Int):=rfl;have c:List.take (Int.toNat<|A8 s) s=AO s:=ah
 obtain⟨v0,v1⟩:=T138.Da d e;refine zj (Bo ..) ?_;conv=>zeta
 rw[c];refine zd ah (zq ah<|zq ?_ (zd ah<|zd (by grind [T138.Cq]) ?_))
 ·grind [wr]
 ·exact C0 s neg (AK 0<|AO s) v0 v1 a b db ah
theorem GA(n d:Int)(a:∀ob,Q (.tup [.dat i64 n,.dat i64 d,.bl true]) ob):Ends PH (L8 n d) Q:=by
 simp_all [zj,DM]
theorem FI(s:Z)(n:Int)(g:s.length<=20)(h:(yk s).length<=9)(db:Au (yk s)=true)(a:∀ob,Q (.tup [.dat i64 n,.dat i64<|if B1 s=true then AK 0 (yk s)else 1,.bl true]) ob):Ends PH (L6 s (A8 s) n 1) Q:=by
 obtain⟨k,c,j⟩:=Cc s;refine zj (CL ..) ?_;conv=>zeta
 have es:A8 s=((AO s).length:Int):=rfl;cases b:B1 s with
 |true=>
  rw[b]at a;obtain⟨i,d⟩:=c b;have e:zc .i64 (A8 s+1)=(((AO s).length+1:Nat):Int):=by grind [wr]
  have f:(yk s).take (yg s.length<|(AO s).length+1)=yk s:=ah;rw[e,zi, <-d,f];exact zd ah (zd ah<|zd (by grind [T138.Cq])<|GA n _ a)
 |false=>
  grind [zq,GA]
theorem Ck(s:Z)(a:s.length<=20)(g:(AO s).length<=9)(b:(yk s).length<=9)(f:Au (AO s)=true)(db:Au (yk s)=true)(e:∀n ob,n=AK 0 (AO s)->Q (.tup [.dat i64 n,.dat i64<|if B1 s=true then AK 0 (yk s)else 1,.bl true]) ob):Ends PH (L4 s ) Q:=by
 obtain⟨i,d,h⟩:=Cc s;have es:A8 s=((AO s).length:Int):=rfl;have c:List.take (Int.toNat<|A8 s) s=AO s:=ah
 refine zj (BX ..) ?_;conv=>zeta
 rw[c];refine zd ah (zq ah<|zq ?_ (zd ah<|zd (by grind [T138.Cq]) ?_))
 ·grind [wr]
 ·exact FI s (AK 0<|AO s) a b db ah
end T80
end Go.Pe
namespace Go.Sp
theorem H3(a:List Int)(i:Nat):val B9 (a.drop i)=a.getD i 0+1000000000*val B9 (a.drop<|i+1):=by
 by_cases h:i<a.length
 ·rw[CI h];rfl
 ·rw[zz ae,zz ae,show a.getD i 0=0 by rw[yu,List.getElem?_eq_none ae];rfl];rfl
structure G3(a b:List Int)(i:Nat)(o:List Int)(c:Int):Prop where
 len:o.length=i
 d:AD B9 o
 c01:0<=c/\c<=1
 v:val B9 o+(B9:Int)^i*(c+val B9 (a.drop i)+val B9 (b.drop i))=Ar a+Ar b
 top:a.length<=i->b.length<=i->i=0\/(B9:Int)^(i-1)<=val B9 o+(B9:Int)^i*c
theorem G3.start(a b:List Int):G3 a b 0 [] 0:=⟨rfl,(fun x c=>by cases c),by decide,by
 show 0+(B9:Int)^0*(0+val B9 a+val B9 b)=val B9 a+val B9 b;rw[Int.pow_zero,qh];omega,fun _ _=>.inl rfl⟩
theorem BM{a:List Int}(h:Bh a=true)(i:Nat):0<=a.getD i 0/\a.getD i 0<1000000000:=HV (BB h).2.1 i
theorem UT{a:List Int}(h:Bh a=true){i:Nat}(c:i<a.length)(b:a.length<=i+1):1<=a.getD i 0:=by
 have:=(Go.Pe.Hy (BB h).2.1 (BB h).2.2 (k:=i) ae).1;omega
theorem G3.step{a b:List Int}{i:Nat}{o:List Int}{c:Int}(h:G3 a b i o c)(l:Bh a=true)(n:Bh b=true)(g:i<a.length\/i<b.length\/0<c):
  G3 a b (i+1) (o++[(a.getD i 0+b.getD i 0+c) % 1000000000]) ((a.getD i 0+b.getD i 0+c)/1000000000):=by
 obtain⟨u,s⟩:=BM l i;obtain⟨y0,y1⟩:=BM n i;obtain⟨c0,c1⟩:=h.c01;have m:=h.v;rw[H3 a i,H3 b i]at m;have j:1<=a.getD i 0+b.getD i 0+c\/¬(a.length<=i+1/\b.length<=i+1):=by
  by_cases k:a.length<=i+1/\b.length<=i+1
  ·refine .inl ?_;rcases g with g|g|g
   ·have:=UT l g k.1;omega
   ·have:=UT n g k.2;omega
   ·omega
  ·exact .inr k
 have t:=AJ (b:=B9) af h.d;have r:=Bn (b:=B9) af i;generalize a.getD i 0=x at*;generalize b.getD i 0=y at*;have f:val B9 (o++[(x+y+c) % 1000000000])=val B9 o+(B9:Int)^i*((x+y+c) % 1000000000):=by rw[CH,h.len]
 refine⟨by rw[z7,h.len];rfl,Gs h.d ae,by omega,?_,fun p q=>.inr ?_⟩
 ·rw[f,Nx,ql, <-qi, <-m];congr 2;omega
 ·rw[f,Nx,ql, <-qi,yh];have e:(x+y+c) % 1000000000+1000000000*((x+y+c)/1000000000)=x+y+c:=ae
  rw[e];rcases j with j|j
  ·have:=yc j<|yf r;rw[Int.mul_one]at this;omega
  ·exact wh ⟨p,q⟩ j
theorem Ag0{o:List Int}(k:AD B9 o)(h:o=[]\/(B9:Int)^(o.length-1)<=val B9 o):nz o:=by
 rcases h with rfl|h
 ·unfold nz;simp
 ·intro e;have c:o≠[]:=by rintro rfl;simp at e
  have d:o=o.dropLast++[0]:=by
   have f:=(List.dropLast_concat_getLast c).symm;rw[List.getLast?_eq_some_getLast c]at e;rw[Option.some.inj e]at f;exact f
  have i:o.length=o.dropLast.length+1:=by rw[List.length_dropLast];have:=List.length_pos_iff.2 c;omega
  have j:val B9 o=val B9 o.dropLast:=by
   conv=>lhs;rw[d]
   rw[CH,y9,qc]
  have a:AD B9 o.dropLast:=fun x g=>k x (by rw[d];exact List.mem_append_left _ g)
  have:=BD (b:=B9) af a;rw[j,i,yh]at h;omega
theorem G3.fin{a b:List Int}{i:Nat}{o:List Int}(h:G3 a b i o 0)(g:a.length<=i)(f:b.length<=i):o=IG a b:=by
 have c:=h.v;rw[zz g,zz f]at c;have c:val B9 o+(B9:Int)^i*(0+0+0)=Ar a+Ar b:=c;rw[show(0+0+0:Int)=0 from rfl,y9,qc]at c;have e:=h.top g f;rw[y9,qc, <-h.len]at e;have j:nz o:=Ag0 h.d (by
  rcases e with k|k
  ·exact .inl<|y7.1 k
  ·exact .inr k)
 unfold IG;rw[<-c];exact JO (b:=B9) af h.d j
structure HG(a b:List Int)(i:Nat)(o:List Int)(c:Int):Prop where
 len:o.length=i
 d:AD B9 o
 c01:0<=c/\c<=1
 v:val B9 o+(B9:Int)^i*(val B9 (a.drop i)-val B9 (b.drop i)-c)=Ar a-Ar b
theorem HG.start(a b:List Int):HG a b 0 [] 0:=⟨rfl,(fun x c=>by cases c),by decide,by
 show 0+(B9:Int)^0*(val B9 a-val B9 b-0)=val B9 a-val B9 b;rw[Int.pow_zero,qh];omega⟩
theorem HG.step{a b:List Int}{i:Nat}{o:List Int}{c:Int}(h:HG a b i o c)(j:Bh a=true)(g:Bh b=true)(d e:Int)(l:(a.getD i 0-b.getD i 0-c<0/\d=a.getD i 0-b.getD i 0-c+1000000000/\e=1)\/(¬a.getD i 0-b.getD i 0-c<0/\d=a.getD i 0-b.getD i 0-c/\e=0)):
  HG a b (i+1) (o++[d]) e:=by
 obtain⟨m,k⟩:=BM j i;obtain⟨y0,y1⟩:=BM g i;obtain⟨c0,c1⟩:=h.c01;have f:=h.v;rw[H3 a i,H3 b i]at f;generalize a.getD i 0=x at*;generalize b.getD i 0=y at*;refine⟨by rw[z7,h.len];rfl,Gs h.d ae,by omega,?_⟩;rw[CH,h.len,Nx,ql, <-qi, <-f];congr 2;omega
theorem HG.fin{a b:List Int}{o:List Int}{c:Int}(h:HG a b a.length o c)(i:Bh b=true)(g:Ar b<=Ar a):AE o=Km a b:=by
 have e:=h.v;rw[List.drop_length]at e;have h0:=AJ (b:=B9) af<|Fy (BB i).2.1 a.length;have f:=BD (b:=B9) af h.d;rw[h.len]at f;obtain⟨m,n⟩:=h.c01;have l:=Bn (b:=B9) af a.length;have e:val B9 o+(B9:Int)^a.length*(0-val B9 (b.drop a.length)-c)=Ar a-Ar b:=e;generalize val B9 (b.drop a.length)=z at*;have j:0-z-c=0:=by
  rcases Int.lt_or_le (0-z-c) 0 with k|k
  ·have:=yc (show 0-z-c<= -1 by omega)<|yf l;rw[yx,Int.mul_one]at this;omega
  ·omega
 rw[j,y9,qc]at e;unfold Km;rw[F8 h.d, <-e];rfl
open Go.Lib
theorem ZH(n:Int):rN n=decide (n<0):=rfl
theorem JA(a:Bool×List Int):(a.1=true->vR a= -Ar a.2)/\(a.1=false->vR a=Ar a.2):=by
 unfold vR;exact⟨fun h=>by rw[wd h],fun h=>by rw[wc<|by rw[h];decide]⟩
theorem LR{neg:Bool}{w:List Int}{n:Int}(c:AD B9 w)(h0:0<=Ar w)(b:neg=true->n= -Ar w)(a:neg=false->n=Ar w):(CY neg w,AE w)=(rN n,rW n):=by
 refine qT c ?_<|fun d=>?_
 ·rw[An];cases neg with
  |true=>have:=b rfl;omega
  |false=>have:=a rfl;omega
 ·rw[ZH];cases neg with
  |true=>have:=b rfl;symm;rw[w5];omega
  |false=>have:=a rfl;symm;rw[w9];omega
theorem EN{n:Int}(h:0<=n):Ar (B0 n)=n/\AD B9 (B0 n):=⟨Du (b:=B9) af h,Gz (b:=B9) af n⟩
theorem kX{a b:Bool×List Int}(c:CP a=true)(d:CP b=true)(h:a.1=b.1):(CY a.1<|IG a.2 b.2,AE<|IG a.2 b.2)=(Pb a b,Pn a b):=by
 have a0:=(Fu c).2;have g:=(Fu d).2;obtain⟨e,f⟩:=JA a;obtain⟨f1,f2⟩:=JA b;obtain⟨hv,hd⟩:=EN (n:=Ar a.2+Ar b.2) ae;refine LR hd (by show 0<=Ar (B0 _);omega) (fun k=>?_)<|fun k=>?_
 ·rw[e k,f1<|by rw[<-h];exact k];show _= -Ar (B0 _);omega
 ·rw[f k,f2<|by rw[<-h];exact k];show _=Ar (B0 _);omega
theorem eJ{a b:Bool×List Int}(c:CP b=true)(h:a.1≠b.1)(f:Ar b.2<=Ar a.2):(CY a.1<|Km a.2 b.2,AE<|Km a.2 b.2)=(Pb a b,Pn a b):=by
 have g:=(Fu c).2;obtain⟨d,e⟩:=JA a;obtain⟨f1,f2⟩:=JA b;obtain⟨hv,hd⟩:=EN (n:=Ar a.2-Ar b.2) ae;refine LR hd (by show 0<=Ar (B0 _);omega) (fun k=>?_)<|fun k=>?_
 ·rw[d k,f2 (by rw[k]at h;cases c:b.1 with|true=>exact wh c.symm h|false=>rfl)];show _= -Ar (B0 _);omega
 ·rw[e k,f1 (by rw[k]at h;cases c:b.1 with|true=>rfl|false=>exact wh c.symm h)];show _=Ar (B0 _);omega
theorem AcU{a b:Bool×List Int}(d:CP a=true)(h:a.1≠b.1)(c:Ar a.2<=Ar b.2):(CY b.1<|Km b.2 a.2,AE<|Km b.2 a.2)=(Pb a b,Pn a b):=by
 have:=eJ d (fun k=>h k.symm) c;rw[this];unfold Pb Pn;rw[Int.add_comm]
theorem pH{a b:Bool×List Int}(g:CP a=true)(h:CP b=true):(CY (a.1 !=b.1)<|B0<|Ar a.2*Ar b.2,AE<|B0<|Ar a.2*Ar b.2)=(I8 a b,I1 a b):=by
 have a0:=(Fu g).2;have i:=(Fu h).2;obtain⟨e,f⟩:=JA a;obtain⟨f1,f2⟩:=JA b;have p0:=qj a0 i;obtain⟨hv,hd⟩:=EN p0;refine LR hd ae (fun k=>?_)<|fun k=>?_
 ·rw[hv];cases c:a.1<;>cases d:b.1<;>rw[c,d]at k
  ·exact wh k af
  ·rw[f c,f1 d,yx]
  ·rw[e c,f2 d,Int.neg_mul]
  ·exact wh k af
 ·rw[hv];cases c:a.1<;>cases d:b.1<;>rw[c,d]at k
  ·rw[f c,f2 d]
  ·exact wh k af
  ·exact wh k af
  ·rw[e c,f1 d,Int.neg_mul,yx,Int.neg_neg]
theorem nR{a:Bool×List Int}(b:CP a=true):(CY (!a.1) a.2,AE a.2)=(U6 a,Wm a):=by
 have a0:=(Fu b).2;obtain⟨c,d⟩:=JA a;refine LR (BB (DA b).1).2.1 a0 (fun k=>?_)<|fun k=>?_
 ·rw[d<|by simpa using k]
 ·rw[c (by simpa using k),Int.neg_neg]
theorem OL{b:Bool×List Int}(a:CP b=true)(h0:0<vR b):b.1=false/\vR b=Ar b.2:=by
 have e:=(Fu a).2;obtain⟨d,c⟩:=JA b;cases h:b.1 with
 |true=>have:=d h;omega
 |false=>exact⟨rfl,c h⟩
theorem qW{A b:Int}(c:0<b)(hr:A % b≠0): -A/b= -(A/b+1):=by
 have f:=Int.mul_ediv_add_emod A b;have e:=Int.emod_nonneg A (show b≠0 by omega);have d:=Int.emod_lt_of_pos A c;refine((Int.ediv_emod_unique (a:= -A) (b:=b) (r:=b-A % b) (q:= -(A/b+1)) c).2 ⟨?_,by omega,by omega⟩).1;rw[yx,qi,Int.mul_one];omega
theorem Y6{A b:Int}(c:0<b)(hr:A % b=0): -A/b= -(A/b):=by
 have d:=Int.mul_ediv_add_emod A b;refine((Int.ediv_emod_unique (a:= -A) (b:=b) (r:=0) (q:= -(A/b)) c).2 ⟨?_,by omega,c⟩).1;rw[yx];omega
theorem RL{a b:Bool×List Int}(e:CP a=true)(c:CP b=true)(h0:0<vR b)(h:a.1=false\/Ar a.2 % Ar b.2=0):(CY a.1<|B0<|Ar a.2/Ar b.2,AE<|B0<|Ar a.2/Ar b.2)=(J5 a b,JR a b):=by
 have a0:=(Fu e).2;obtain⟨d,g⟩:=JA a;obtain⟨_,f⟩:=OL c h0;rw[f]at h0;have q0:=qe a0<|yf h0;obtain⟨hv,hd⟩:=EN q0;refine LR hd ae (fun k=>?_)<|fun k=>?_
 ·rw[hv,d k,f];rcases h with h|h
  ·rw[k]at h;cases h
  ·exact Y6 h0 h
 ·rw[hv,g k,f]
theorem aY{a b:Bool×List Int}(g:CP a=true)(c:CP b=true)(h0:0<vR b)(h:a.1=true)(hr:Ar a.2 % Ar b.2≠0):(CY a.1<|IG (B0<|Ar a.2/Ar b.2) [1],AE<|IG (B0<|Ar a.2/Ar b.2) [1])=(J5 a b,JR a b):=by
 have a0:=(Fu g).2;obtain⟨d,l⟩:=JA a;obtain⟨_,f⟩:=OL c h0;rw[f]at h0;have q0:=qe a0<|yf h0;have e:IG (B0<|Ar a.2/Ar b.2) [1]=B0 (Ar a.2/Ar b.2+1):=by
  unfold IG;rw[(EN q0).1];rfl
 rw[e];obtain⟨i,j⟩:=EN (n:=Ar a.2/Ar b.2+1) ae;refine LR j ae (fun k=>?_)<|fun k=>?_
 ·rw[i,d k,f];exact qW h0 hr
 ·rw[h]at k;cases k
theorem Abk{w:List Int}{i:Nat}(a:w.length=i+1):val B9 (w.drop i)=w.getD i 0:=by
 rw[H3,zz ae];show _+1000000000*0=_;omega
theorem Zv{w:List Int}(a:Bh w=true){i:Nat}(b:w.length=i+1):JF (w.getD i 0) 1=decDigits (val B9<|w.drop i).toNat/\0<val B9 (w.drop i):=by
 have g:=BM a i;have t:=UT a (i:=i) ae ae;rw[Abk b];exact⟨Rg g.1 ae,by omega⟩
theorem mL{w:List Int}(a:Bh w=true)(i:Nat)(h0:0<val B9 (w.drop<|i+1)):decDigits (val B9<|w.drop<|i+1).toNat++JF (w.getD i 0) 9=decDigits (val B9<|w.drop i).toNat/\0<val B9 (w.drop i):=by
 have g:=BM a i;rw[H3 w i,jH g.1 g.2];generalize val B9 (w.drop<|i+1)=V at*;generalize w.getD i 0=x at*;have h:=Uo 9 V.toNat x.toNat af ae ae;refine⟨?_,by omega⟩;rw[<-h];congr 1;omega
theorem xJ{a:Bool×List Int}(d:CP a=true)(c:a.2≠[]):(if a.1=true then 45::decDigits (Ar a.2).toNat else decDigits (Ar a.2).toNat)=Gt a:=by
 obtain⟨e,f⟩:=JA a;have h0:0<Ar a.2:=Kz (b:=B9) af (BB (DA d).1).2.1 (BB (DA d).1).2.2 c;unfold Gt A2 itoa;by_cases h:a.1=true
 ·rw[wd h,e h,wd ae,show(-Ar a.2).natAbs=(Ar a.2).toNat by omega]
 ·have h:a.1=false:=by simpa using h
  rw[wc (by rw[h];decide),f h,wc ae]
theorem yY{a:Bool×List Int}(h:a.2=[]):[48]=Gt a:=by
 have:vR a=0:=by
  unfold vR;rw[h];split<;>rfl
 unfold Gt A2 itoa;rw[this,wc af,show(0:Int).toNat=0 from rfl,decDigits_one af];rfl
theorem LP{N D:Int}(b:0<D):0<gI (Aj N) D/\Aj N/gI (Aj N) D=Aj (zl N D).num/\D/gI (Aj N) D=((zl N D).den:Int)/\(N<0↔(zl N D).num<0):=by
 have l:D.sign=1:=Int.sign_eq_one_of_pos b;have e:(zl N D).num=N/(ym N D:Int):=by rw[Rat.num_divInt,l,qh,qq]
 have j:((zl N D).den:Int)=D/(ym N D:Int):=by
  rw[Rat.den_divInt,wc<|Int.ne_of_gt b,qq,Int.natCast_ediv];rw[Int.natAbs_of_nonneg<|yf b]
 have f:gI (Aj N) D=(ym N D:Int):=by rw[HL,An];rfl
 have a:0<ym N D:=Int.gcd_pos_of_ne_zero_right _ ae;obtain⟨k,c⟩:(ym N D:Int)∣N:=Int.gcd_dvd_left ..;rw[f,e,j];have a:(0:Int)<(ym N D:Int):=ae
 generalize (ym N D:Int)=g at*;have d:N/g=k:=by rw[c,yy _ ae]
 have i:Aj N/g=Aj k:=by
  rw[An,An,c,qk,Int.natCast_mul,show((g.natAbs:Nat):Int)=g by omega,yy _ ae]
 refine⟨a,by rw[d,i],rfl,?_⟩;rw[d];constructor
 ·intro h;rcases Int.lt_or_le k 0 with x|x
  ·exact x
  ·have:=qj (yf a) x;omega
 ·intro h;have:=Int.mul_neg_of_pos_of_neg a h;omega
theorem zB{N D:Int}(d:0<D){neg:Bool}(b:neg=rN N):(CY neg<|B0<|Aj N/gI (Aj N) D,AE<|B0<|Aj N/gI (Aj N) D)=(rN (zl N D).num,rW (zl N D).num):=by
 obtain⟨_,c,_,a⟩:=LP (N:=N) d;rw[c];have a0:=Qk (zl N D).num;obtain⟨hv,hd⟩:=EN a0;refine qT hd hv<|fun _=>?_;rw[b,ZH,ZH,decide_eq_decide];exact a
theorem Acg{n:Int}(h0:0<=n):B0 n=[1]↔n=1:=by
 constructor
 ·intro h;have:=(EN h0).1;rw[h]at this;exact this.symm
 ·rintro rfl;rfl
theorem Ty{N D:Int}:CZ N D=if (zl N D).den=1 then A2 (zl N D).num else A2 (zl N D).num++47::A2 ((zl N D).den:Int):=by
 unfold CZ Az;split
 ·rfl
 ·rw[show A2 ((zl N D).den:Int)=decDigits (zl N D).den from Lib.itoa_nonneg _];rfl
theorem Xu(N D:Int):CZ (-N) (-D)=CZ N D:=by
 unfold CZ;rw[Rat.neg_divInt_neg]
theorem Rk{s:Z}(h:AR s=true):Bs s=JM s/\A5 s=VW s/\Au (AO<|A9 s)=true/\Au (Bb<|A9 s)=true:=by
 obtain⟨t,_⟩:=GG h;obtain⟨c1,c2,c3⟩:=F6<|Ax s;obtain⟨p1,p2,p3,p4⟩:=V5 s;obtain⟨i1,i2,i3,i4⟩:=Dp (Ax s).num;rw[t]at c1 c2 c3;have b:Au (Bb s)=true:=by
  rw[c2];split
  ·rfl
  ·exact DU _
 refine⟨?_,?_,?_,?_⟩
 ·unfold Bs JM Bu;rw[p1, <-p4];unfold A9 preB;by_cases a:(AO s).getD 0 0=45
  ·rw[wd a,wd a,wd<|w4 a]
  ·rw[wc a,wc a,wc<|by rw[w8 a];decide]
 ·unfold A5 VW Bu;rw[p2,p3,wc<|Fx b]
 ·rw[p1,c1,i2];exact DU _
 ·rw[p2];exact b
theorem HD{s:Z}(h:AR s=true)(a:EM s=true):pY s=Bs s/\Xv s=A5 s/\ -1000000000<Bs s/\Bs s<1000000000/\0<A5 s/\A5 s<1000000000:=by
 obtain⟨b,c,d,f⟩:=Rk h;have g:0<A5 s:=by
  have:=(Em h).2.2.2.2.2.1;have:=(Ax s).den_pos;omega
 unfold pY Xv;rw[wd a,wd a];unfold EM at a;rw[ze,ze,w5,w5,w5]at a;obtain⟨⟨_,l1⟩,e⟩:=a;have j:=Br d;have k:=Br f;have l:(10:Int)^(AO<|A9 s).length<=10^9:=AY af l1;have i:(10:Int)^(Bb<|A9 s).length<=10^9:=AY af e;refine⟨b.symm,c.symm,?_,?_,g,?_⟩
 ·rw[b];unfold JM;split<;>omega
 ·rw[b];unfold JM;split<;>omega
 ·rw[c];unfold VW;split<;>omega
theorem iP{a b:Z}(f:AR a=true)(d:AR b=true):BW a b=CZ (Bs a*A5 b+A5 a*Bs b) (A5 a*A5 b)/\BW a b=CZ (Bs a*A5 b+Bs b*A5 a) (A5 a*A5 b):=by
 have g:A5 a≠0:=by
  have:=(Em f).2.2.2.2.2.1;have:=(Ax a).den_pos;omega
 have c:A5 b≠0:=by
  have:=(Em d).2.2.2.2.2.1;have:=(Ax b).den_pos;omega
 have e:BW a b=CZ (Bs a*A5 b+Bs b*A5 a) (A5 a*A5 b):=by
  unfold BW CZ Ax;rw[Rat.divInt_add_divInt _ _ g c]
 exact⟨by rw[e,Int.mul_comm (A5 a)<|Bs b],e⟩
theorem mG{a b:Z}:DI a b=CZ (Bs a*Bs b) (A5 a*A5 b):=by
 unfold DI CZ Ax;rw[Rat.divInt_mul_divInt]
theorem iZ{a:Z}:UJ a=CZ (A5 a) (Bs a):=by
 unfold UJ CZ Ax;rw[Rat.inv_divInt]
theorem Xq:∀(f n l:Nat) (a:Z),(J6 f n l a).length<=a.length+f
 |0,_,_,a=>qg _
 |f+1,n,l,a=>by
  unfold J6;split
  ·omega
  ·have:=Xq f (n/10) l (yw (48+n % 10)::a);grind
theorem Ya(n l:Int):(JF n l).length<=64:=by
 have:=Xq 64 n.toNat l.toNat [];exact this
theorem Xt{v:Int}{k:Nat}(h:v<(B9:Int)^k)(a:1<=k):(zk v.toNat).length<=9*k:=by
 rw[bL]at h;refine Et (k:=9*k) ?_ ae;grind
end Go.Sp
namespace Go.Pe
open Sp
open Go.Det
theorem Agd{s:Sh}(c:s.sz=1){id n:Nat}{tail:Ob}{fz:Bool}{t:TypeId}{o:List s.T}(a:n=o.length):E8 ⟨0,.leaf,(id,.arr fz t s o)::tail,0⟩ (.list s) (.sl id 1 0 n none)=some (true,o):=by
 have b:AU ((id,Obj.arr fz t s o)::tail) id=some (.arr fz t s o):=by grind [AU,Nat.beq_refl]
 unfold E8;simp_all [Dt,PV.cells,CE,AP.obj,Oj,Sh.Ps,D1,CJ,asD,EX]
theorem gF{s:Sh}(b:s.sz=1){id n:Nat}{tail:Ob}{fz:Bool}{t:TypeId}{o:List s.T}(a:n=o.length):Jf [.list s] (.sl id 1 0 n none) ((id,.arr fz t s o)::tail)=some (true,o):=Agd b a
theorem Qf(a:List Int)(i:Nat):Jo a (i:Int)=a.getD i 0:=by rfl
theorem Aat:Cr XR0:=fun g sp h=>by cases h
theorem T192.ok:Ae A1 192 bW:=by
 refine AX (X:=XR0) rfl Aat (d:=9) (by rfl) (by rfl) (by rfl) (fun(i:List Int×Int) hi=>?_) (Ak ag);obtain⟨a,i⟩:=i;have h0:0<=i:=w6 hi;have b:∀v ob,v=Jo a i->Ac bW (a,i) (.dat i64 v) ob:=fun v ob h=>zy rfl rfl h
 refine zp (T192.Ai a i) (zh (fun c=>zd ah<|zf<|b _ _ rfl)<|fun c=>zf<|b _ _ ?_);grind [Jo]
theorem fY:Cr WA:=Aa T192.ok<|Aa T190.ok AI
theorem TF{x y c:Int}(a:0<=x/\x<1000000000)(d:0<=y/\y<1000000000)(b:0<=c/\c<=1):
  zc .i64 (zc .i64 (x+y)+c)=x+y+c/\ya (x+y+c) 1000000000=(x+y+c) % 1000000000/\zc .i64 (yd (x+y+c) 1000000000)=(x+y+c)/1000000000:=by
 grind [wr]
theorem qR{a b:List Int}(h:sO a b=true):Bh a=true/\Bh b=true/\a.length<=9000/\b.length<=9000:=by
 simp_all [sO]
theorem aH{a b:List Int}(e:Bh a=true)(d:Bh b=true)(c:a.length<=9000)(f:b.length<=9000):sO a b=true:=by
 grind [sO]
namespace T150
theorem done(a b o:List Int)(i:Nat)(e:a.length<=i)(d:b.length<=i)(c:Q (.sl 0 1 0 o.length none) [(0,.arr false 3 (.int .i64) o)]):Ends WA (L2 a b o.length 0 i o) Q:=
 (by simp_all [zj,AA,w8])
theorem Bc(a b:List Int)(d:Bh a=true)(e:Bh b=true)(w:a.length<=9000)(r:b.length<=9000)(x:Q (.sl 0 1 0 (IG a b).length none) [(0,.arr false 3 (.int .i64)<|IG a b)]):∀(k i:Nat) (o:List Int) (c:Int),i+k=max a.length b.length->G3 a b i o c->Ends WA (L2 a b o.length c i o) Q:=by
 have l:∀(i:Nat) (o:List Int),a.length<=i->b.length<=i->G3 a b i o 0->Ends WA (L2 a b o.length 0 i o) Q:=fun i o p g h=>by
  have:=h.fin p g;grind [done]
 have next:∀(i:Nat) (o:List Int) (c:Int),i<=9000->G3 a b i o c->(i<a.length\/i<b.length\/0<c->Ends WA (L2 a b (o++[(a.getD i 0+b.getD i 0+c) % 1000000000]).length ((a.getD i 0+b.getD i 0+c)/1000000000) ((i+1:Nat):Int)<|o++[(a.getD i 0+b.getD i 0+c) % 1000000000]) Q)->Ends WA (L2 a b o.length c i o) Q:=fun i o c j h go=>by
  obtain⟨s1,s2,s3⟩:=TF (BM d i) (BM e i) h.c01;have t:zc .i64 ((i:Int)+1)=((i+1:Nat):Int):=by grind [wr]
  have u:=h.len;have cap:(decide ((1:Nat)<=(1:Nat))&&true&&decide (o.length=o.length)&&decide ((3*(o.length+1)+2000)*8<=562949953421312))=true:=by
   grind
  have h0:decide ((0:Int)<=(i:Int))=true:=(by rfl);rw[z7]at go;by_cases s:(i:Int)<(a.length:Int)
  ·refine zj (AA ..) ?_;conv=>zeta
   simp_all [Qf]
  ·by_cases q:(i:Int)<(b.length:Int)
   ·refine zj (AA ..) ?_;conv=>zeta
    simp_all [Qf]
   ·by_cases y:c>0
    ·refine zj (AA ..) ?_;conv=>zeta
     simp_all [Qf]
    ·obtain rfl:c=0:=by have:=h.c01;omega
     grind
 intro k;induction k with
 |zero=>
  intro i o c j h;refine next i o c ae h (fun f=>?_);have g:=h.step d e f;have v:a.getD i 0=0:=ah
  have z2:b.getD i 0=0:=ah
  have n:=h.c01;have z3:(a.getD i 0+b.getD i 0+c)/1000000000=0:=ae
  grind
 |succ k m=>
  intro i o c j h;exact next i o c ae h (fun f=>m (i+1) _ _ ae<|h.step d e f)
theorem ok:Ae A1 150 bG:=by
 refine AX (X:=WA) rfl fY (d:=9) (by rfl) (by rfl) (by rfl) (fun(i:List Int×List Int) hi=>?_) (Ak<|by rfl);obtain⟨a,b⟩:=i;obtain⟨ha,hb,la,lb⟩:=qR hi;obtain⟨s1,s2,s3⟩:=TF (BM ha 0) (BM hb 0) (c:=0) af;have h0:=G3.start a b;have go:(0<a.length\/0<b.length)->Ends WA (L2 a b 1 ((a.getD 0 0+b.getD 0 0+0)/1000000000) ((1:Nat):Int) [(a.getD 0 0+b.getD 0 0+0) % 1000000000]) (Ac bG (a,b)):=fun k=>
  Bc a b ha hb la lb (zy (gF rfl rfl) rfl rfl) (max a.length b.length-1) 1 _ _ ae (h0.step ha hb ae)
 refine zp (Ai a b)<|zj (Al ..) ?_;have j:Jo a 0=a.getD 0 0:=rfl;have g:Jo b 0=b.getD 0 0:=rfl;have h:zc .i64 ((0:Int)+1)=((1:Nat):Int):=rfl;refine zh (fun c=>?_)<|fun f=>zh (fun c=>?_)<|fun e=>zq rfl (zf<|zy (y:=[]) rfl rfl ?_)
 ·exact zd rfl (zd rfl (zd rfl (zd rfl (zd rfl ah))))
 ·exact zd rfl (zd rfl (zd rfl (zd rfl (zd rfl ah))))
 ·have f:=w7 f;have e:=w7 e;exact h0.fin ae ae
end T150
namespace T152
theorem H5{x y c:Int}(a:0<=x/\x<1000000000)(d:0<=y/\y<1000000000)(b:0<=c/\c<=1):
  zc .i64 (zc .i64 (x-y)-c)=x-y-c/\zc .i64 (x-y-c+1000000000)=x-y-c+1000000000:=by
 grind [wr]
theorem Bc(a b:List Int)(g:Bh a=true)(f:Bh b=true)(l:a.length<=9000)(e:Ar b<=Ar a)(m:∀ob,Q (.dat li<|Km a b) ob):∀(k i:Nat) (o:List Int) (c:Int),i+k=a.length->HG a b i o c->Ends WA (L2 a b o.length c i o) Q
 |0,i,o,c,j,h=>by
  have j:i=a.length:=ae
  subst j;have n:=h.len;refine zj (AA ..) (zq (by simp) ?_);rw[yj ae];refine zd ah<|zf ?_;rw[h.fin f e];grind
 |k+1,i,o,c,j,h=>by
  obtain⟨s1,s2⟩:=H5 (BM g i) (BM f i) h.c01;have p:zc .i64 ((i:Int)+1)=((i+1:Nat):Int):=by grind [wr]
  have n:=h.len;have cap:(decide ((1:Nat)<=(1:Nat))&&true&&decide (o.length=o.length)&&decide ((3*(o.length+1)+2000)*8<=562949953421312))=true:=by
   grind
  refine zj (AA ..) ?_;conv=>zeta
  rw[Qf,zi,s1,s2,p];refine zd ah (zd ah (zd (by rfl)<|zh (fun d=>zd cap ?_)<|fun d=>zd cap ?_))
  ·have:=Bc a b g f l e m k (i+1) _ _ ae (h.step g f _ 1<|.inl ⟨ah,rfl,rfl⟩);grind
  ·have:=Bc a b g f l e m k (i+1) _ _ ae (h.step g f _ 0 (.inr ⟨ah,rfl,rfl⟩));grind
theorem ok:Ae A1 152 bU:=by
 refine AX (X:=WA) rfl fY (d:=9) (by rfl) (by rfl) (by rfl) (fun(i:List Int×List Int) e=>?_) (Ak<|by rfl);obtain⟨a,b⟩:=i;have e:(sO a b&&decide (Ar b<=Ar a))=true:=e;rw[ze,w5]at e;obtain⟨e,hle⟩:=e;obtain⟨ha,hb,la,lb⟩:=qR e;have h0:=HG.start a b;have f:∀ob,Ac bU (a,b) (.dat li<|Km a b) ob:=fun ob=>zy rfl rfl rfl
 refine zp (Ai a b)<|zj (Al ..) ?_;obtain⟨s1,s2⟩:=H5 (BM ha 0) (BM hb 0) (c:=0) af;have h:Jo b 0=b.getD 0 0:=rfl;refine zh (fun c=>?_)<|fun c=>?_
 ·have g:=w6 c;refine zd (Ab rfl c)<|zd rfl (zh (fun d=>zd rfl ?_)<|fun d=>zd rfl ?_)
  ·exact Bc a b ha hb la hle f (a.length-1) 1 _ _ ae (h0.step ha hb _ 1 ah)
  ·exact Bc a b ha hb la hle f (a.length-1) 1 _ _ ae (h0.step ha hb _ 0 ah)
 ·refine zd rfl (zf ?_);grind [HG.fin]
end T152
theorem PL:Cr XR2:=Aa T149.ok (by grind [Aa,T150.ok,T151.ok,T152.ok,T153.ok,T147.ok,FM])
theorem IT{n:Int}{k:Nat}(h0:0<=n)(h:n<(yo:Int)^k):(B0 n).length<=k:=Qn h0 h
theorem KI{a:Bool×List Int}(h:CP a=true):0<=Ar a.2/\Ar a.2<(yo:Int)^3000:=by
 obtain⟨d,c,_⟩:=DA h;refine⟨(Fu h).2,yi (BD (b:=yo) af (BB d).2.1)<|AY af c⟩
theorem aT{x y:Int}{k:Nat}(b:x<(yo:Int)^k)(a:y<(yo:Int)^k):x+y<(yo:Int)^(k+1):=by
 grind
theorem T84.ok:Ae A1 84 qA:=by
 refine AX (X:=XR2) rfl PL (d:=9) (by rfl) (by rfl) (by rfl) (fun(i:(Bool×List Int)×(Bool×List Int)) f=>?_) (Ak ag);obtain⟨a,b⟩:=i;have f:(CP a&&CP b)=true:=f;rw[ze]at f;obtain⟨ha,hb⟩:=f;obtain⟨a1,a2,_⟩:=DA ha;obtain⟨b1,b2,_⟩:=DA hb;obtain⟨va,wa⟩:=KI ha;obtain⟨vb,wb⟩:=KI hb;have pl:=aH a1 b1 ae ae;have h:=aH b1 a1 ae ae;refine zp (T84.Ai a b)<|zh (fun c=>?_)<|fun c=>zd (Ab a1 b1)<|zh (fun d=>?_)<|fun d=>?_
 ·have g:(IG a.2 b.2).length<=3001:=IT ae ah;exact zd pl (zd ah<|zf<|zy rfl rfl (kX ha hb ah))
 ·have e:Ar b.2<=Ar a.2:=by
   grind [Cd]
  have g:(Km a.2 b.2).length<=3000:=IT ae ae;exact zd ah (zd ah<|zf (zy rfl rfl (eJ hb ah e)))
 ·have e:Ar a.2<=Ar b.2:=by
   grind [Cd]
  have g:(Km b.2 a.2).length<=3000:=IT ae ae;exact zd ah (zd ah<|zf<|zy rfl rfl (AcU ha ah e))
theorem T85.ok:Ae A1 85 dD:=by
 refine AX (X:=XR2) rfl PL (d:=9) (by rfl) (by rfl) (by rfl) (fun(i:(Bool×List Int)×(Bool×List Int)) c=>?_) (Ak ag);obtain⟨a,b⟩:=i;have c:(CP a&&CP b)=true:=c;rw[ze]at c;obtain⟨ha,hb⟩:=c;obtain⟨a1,a2,_⟩:=DA ha;obtain⟨b1,b2,_⟩:=DA hb;obtain⟨va,wa⟩:=KI ha;obtain⟨vb,wb⟩:=KI hb;have e:Ar a.2*Ar b.2<(yo:Int)^(3000+3000):=by
  rw[Int.pow_add];have hp:(0:Int)<(yo:Int)^3000:=ae;exact Int.lt_of_le_of_lt (yc ae va)<|Int.mul_lt_mul_of_pos_right wa hp
 have f:=IT (qj va vb) e;exact zp (T85.Ai a b) (zd (by grind [fW,BB]) (zd ah<|zf<|zy rfl rfl (pH ha hb)))
theorem T146.ok:Ae A1 146 eR:=by
 refine AX (X:=XR2) rfl PL (d:=9) (by rfl) (by rfl) (by rfl) (fun(a:Bool×List Int) ha=>?_) (Ak ag);have:=(DA ha).2.1;exact zp (T146.Ai a) (zd ah<|zf<|zy rfl rfl (nR ha))
theorem T182.ok:Ae A1 182 fP:=by
 refine AX (X:=XR2) rfl PL (d:=9) (by rfl) (by rfl) (by rfl) (fun(i:(Bool×List Int)×(Bool×List Int)) e=>?_) (Ak ag);obtain⟨a,b⟩:=i;have e:(CP a&&CP b&&decide (0<qf b))=true:=e;rw[ze,ze,w5]at e;obtain⟨⟨ha,hb⟩,h0⟩:=e;obtain⟨a1,a2,_⟩:=DA ha;obtain⟨b1,b2,_⟩:=DA hb;obtain⟨va,wa⟩:=KI ha;have k:=(OL hb h0).2;have hp:0<Ar b.2:=ae
 have q0:=qe va<|yf hp;have q1:Ar a.2/Ar b.2<(yo:Int)^3000:=Int.lt_of_le_of_lt (Int.ediv_le_self _ va) wa;have f:=Int.emod_nonneg (Ar a.2) (show Ar b.2≠0 by omega);have l:=IT q0 q1;have h:=(GJ q0 q1 af).1;have j:(B0<|Ar a.2 % Ar b.2).length=0↔Ar a.2 % Ar b.2=0:=by
  rw[y7];exact oB (b:=yo) af f
 refine zp (T182.Ai a b) (zd ah<|zh (fun c=>zh (fun d=>?_)<|fun d=>?_)<|fun c=>?_)
 ·have d:=w6 d;have hr:Ar a.2 % Ar b.2≠0:=ae;have g:(IG (B0<|Ar a.2/Ar b.2) [1]).length<=3001:=by
   refine IT ?_ ?_
   ·rw[(EN q0).1];show 0<=_+(1:Int);omega
   ·rw[(EN q0).1];exact aT q1 (yi (show(1:Int)<(yo:Int)^1 by decide) ah)
  exact zd (aH h rfl ae af) (zd ah<|zf<|zy rfl rfl (aY ha hb h0 c hr))
 ·have d:=w7 d;exact zd ah (zf<|zy rfl rfl (RL ha hb h0 ae))
 ·exact zd ah<|zf<|zy rfl rfl (RL ha hb h0<|.inl c)
theorem Abd:Cr XR3:=Aa T145.ok AI
namespace T148
theorem As(neg:Bool)(w:List Int)(d:Bh w=true)(f:w.length<=3000)(a:∀ob,Q (.dat .str (if neg=true then 45::zk (Ar w).toNat else zk (Ar w).toNat)) ob):∀(i:Nat),i<=w.length->0<Sp.val yo (w.drop i)->Ends XR3 (L1 (zk (Sp.val yo<|w.drop i).toNat) ((i:Int)-1) neg w) Q:=by
 have e:∀i,(zk (Sp.val yo<|w.drop i).toNat).length<=27000:=fun i=>by
  have n:=BD (b:=yo) af<|Fy (BB d).2.1 i;have l:(yo:Int)^(w.drop i).length<=(yo:Int)^3000:=AY af ah;exact Xt (k:=3000) ae af
 intro i;induction i with
 |zero=>
  intro _ _;refine zj (Al ..) (zq af<|zh (fun c=>zd ah<|zf ?_)<|fun c=>zf ?_)
  ·rw[wd c]at a;exact a _
  ·rw[wc ah]at a;exact a _
 |succ i j=>
  intro m h0;have g:=BM d i;have h:(((i+1:Nat):Int)-1)=(i:Int):=ae
  obtain⟨s1,s2⟩:=mL d i h0;rw[h];refine zj (Al ..) ?_;conv=>zeta
  rw[zi,s1,wr ((i:Int)-1) ae ae];exact zd (by rfl) (zd ah<|zd ah<|by grind [zd])
theorem ok:Ae A1 148 Sd:=by
 refine AX (X:=XR3) rfl Abd (d:=9) (by rfl) (by rfl) (by rfl) (fun(a:Bool×List Int) ha=>?_) (Ak ag);obtain⟨a1,a2,_⟩:=DA ha;refine zp (Ai a)<|zh (fun c=>zf<|zy rfl rfl (yY ?_))<|fun c=>?_
 ·simp_all
 ·have c:(a.2.length:Int)≠0:=ah
  obtain⟨i,e⟩:∃i,a.2.length=i+1:=⟨a.2.length-1,by omega⟩;have g:=BM a1 i;obtain⟨s1,s2⟩:=Zv a1 e;have b:zc .i64 ((a.2.length:Int)-1)=(i:Int):=by grind [wr]
  have f:zc .i64 ((a.2.length:Int)-2)=(i:Int)-1:=by grind [wr]
  rw[b,f,zi,s1];refine zd ah (zd ah<|As a.1 a.2 a1 a2 (fun ob=>zy rfl rfl ?_) i ae s2);exact xJ ha ah
end T148
end Go.Pe
namespace Go.Sp
theorem uR{a k m:Nat}(h:a<10^k)(b:k<=m):a<10^m:=(by grind [Nat.lt_of_lt_of_le,yp])
theorem rG{a b k:Nat}(d:a<10^k)(c:b<10^k):a+b<10^(k+1):=ae
theorem N5{n:Int}{k:Nat}(h:n.natAbs<10^k)(a:k<=27000):CP (rN n,rW n)=true:=(by grind [V8,uR])
theorem H2{m n:Int}(h:CP (rN n,rW n)=true)(a:m.natAbs<=n.natAbs):CP (rN m,rW m)=true:=by
 grind [Ael,Jl,V8]
theorem Qg{n:Int}(h:Cn n=true):CP (rN n,rW n)=true:=by
 have h:=Go.Pe.Hq h;exact N5 (k:=20) ae af
theorem W5{n:Int}(h:CP (rN n,rW n)=true):Bh (rW n)=true/\(rW n).length<=3000/\Aj n<(B9:Int)^3000:=by
 obtain⟨b,a,_⟩:=DA h;have:=(Go.Pe.KI h).2;grind [ON]
theorem Yt{n:Int}(h:CP (rN n,rW n)=true):(A2 n).length<=27001:=by
 have a:=(W5 h).2.2;have b:=Xt a af;grind [An,A2,yv]
theorem Nt(n:Int):Gt (rN n,rW n)=A2 n:=by unfold Gt;rw[Jl]
theorem bV{N D:Int}(c:0<D):yd N (gI (Aj N) D)=(zl N D).num/\yd D (gI (Aj N) D)=((zl N D).den:Int):=by
 have d:D.sign=1:=ah;have e:gI (Aj N) D=(ym N D:Int):=by rw[HL,An];rfl
 have a:(ym N D:Int)∣N:=Int.gcd_dvd_left ..;have b:(ym N D:Int)∣D:=Int.gcd_dvd_right ..;rw[e,y8 a,y8 b];refine⟨?_,(LP (N:=N) c).2.2.1▸?_⟩
 ·rw[Rat.num_divInt,d,qh,qq]
 grind
theorem Ts(x y:Int):I8 (rN x,rW x) (rN y,rW y)=rN (x*y):=by grind [I8,Jl]
theorem TS(x y:Int):I1 (rN x,rW x) (rN y,rW y)=rW (x*y):=by grind [I1,Jl]
theorem zD(x y:Int):Pb (rN x,rW x) (rN y,rW y)=rN (x+y):=by grind [Pb,Jl]
theorem oC(x y:Int):Pn (rN x,rW x) (rN y,rW y)=rW (x+y):=by grind [Pn,Jl]
theorem RM(x y:Int):JL (rN x,rW x) (rN y,rW y)=CZ x y:=by grind [JL,Jl]
theorem Ym{a b:Nat}(h:a<=b):(zk a).length<=(zk b).length:=by
 have d:=Lib.lt_pow_nDigits b;have c:1<=(zk b).length:=(by grind [RY]);rw[<-Lib.decDigits_length]at d;exact Et ae c
theorem neg_num(x:Rat):(x.num<0↔x<0)/\(x.num>0↔0<x):=by
 simp_all [Rat.lt_iff]
theorem vO(p q:Rat):Pm (p-q).num=if p<q then -1 else if q<p then 1 else 0:=by
 grind [neg_num,Pm]
end Go.Sp
namespace Go.Pe
open Sp
open Go.Det
theorem Abi:Cr yN:=Aa T146.ok (by grind [Aa,T141.ok,T147.ok,T149.ok,T148.ok,FM])
namespace T83
theorem DE(n d:Int)(c:CP (zu n,zr n)=true)(a:CP (zu d,zr d)=true)(b:0<=d)(h:∀ob,Q (.dat .str (A2 n++47::A2 d)) ob):Ends yN (L3 (B0 d)<|A2 n) Q:=by
 have l1:=Yt c;have f:=Yt a;have e:zr d=B0 d:=by grind [zr,An]
 have g:=(W5 a).2.1;obtain⟨j,i⟩:=EN b;have hp:(CY false<|B0 d,AE<|B0 d)=(zu d,zr d):=(by grind [LR]);refine zj (Bo ..) ?_;conv=>zeta
 grind [Nt,zd,zf]
theorem Bc(n d:Int)(g:CP (zu n,zr n)=true)(i:CP (zu d,zr d)=true)(j:0<d)(f:d=1->∀ob,Q (.dat .str<|A2 n) ob)(b:d≠1->∀ob,Q (.dat .str (A2 n++47::A2 d)) ob):Ends yN (L2 (B0 d)<|A2 n) Q:=by
 have k:=Acg (n:=d) ae;by_cases h:d=1
 ·simp_all [zj,AA]
 ·have a:=DE n d g i ae<|b h;refine zj (AA ..)<|zh (fun c=>zd ?_<|zh (fun e=>?_)<|fun _=>a)<|fun _=>a
  ·grind
  ·cases l:B0 d with
   |nil=>grind
   |cons x r=>
    grind
theorem As(N D:Int)(b:CP (zu N,zr N)=true)(c:CP (zu D,zr D)=true)(h0:0<D)(t:∀ob,Q (.dat .str<|CZ N D) ob):Ends yN (L1 (zu D) (zr D) (zu N)<|zr N) Q:=by
 obtain⟨n1,r,s⟩:=W5 b;obtain⟨d1,d2,d3⟩:=W5 c;obtain⟨g0,f1,f2,f3⟩:=LP (N:=N) h0;have l:Aj D=D:=by grind [An]
 have f:CN (zr N) (zr D)=B0 (qt (Aj N) D):=by
  grind [CN,ON]
 have p:qt (Aj N) D<=D:=by
  have d:qt (Aj N) D=(ym N D:Int):=by rw[HL,An];rfl
  rw[d];exact Int.le_of_dvd h0<|Int.gcd_dvd_right ..
 have fn:=zB h0 (neg:=zu N) rfl;have e:(zl N D).num.natAbs<=N.natAbs:=(by grind [GK]);have v:(zl N D).den<=D.natAbs:=(by grind [GK]);have Ce:=H2 (m:=(zl N D).num) b e;have a:=H2 (m:=((zl N D).den:Int)) c ae;have i:Aj (zl N D).num<(yo:Int)^3000:=(W5 Ce).2.2;have u:=Ty (N:=N) (D:=D);have o:=(zl N D).den_pos;have a0:=Qk (zl N D).num;refine zj (Al ..) ?_;conv=>zeta
 rw[f,ON,ON,l];generalize qt (Aj N) D=g at*;have j:=GJ (n:=g) (k:=3000) ae ae af;rw[j.2.2.1,fn,f1,f2,Nt];have q:=IT a0 i;refine zd ah (zd ah<|zd ah (zd ah<|zd Ce<|Bc _ _ Ce a ae (fun h ob=>?_)<|fun h ob=>?_))
 ·grind
 grind
theorem ok:Ae A1 83 Q4:=by
 refine AX (X:=yN) rfl Abi (d:=9) (by rfl) (by rfl) (by rfl) (fun(i:(Bool×List Int)×(Bool×List Int)) g=>?_) (Ak ag);obtain⟨a,b⟩:=i;have g:(CP a&&CP b&&decide (qf b≠0))=true:=g;rw[ze,ze,w5]at g;obtain⟨⟨ha,hb⟩,h0⟩:=g;have k:=AdM ha;have j:=AdM hb;have l:∀ob,Ac Q4 (a,b) (.dat .str<|CZ (qf a)<|qf b) ob:=fun ob=>zy rfl rfl rfl
 have f:=ha;have e:=hb;rw[k]at f;rw[j]at e;refine zp (Ai a b)<|zh (fun c=>zd ha<|zd hb ?_)<|fun c=>?_
 ·have h:qf b<0:=by
   have:=tL hb;rw[c]at this;exact w6 this.symm
  have:=As (Q:=Ac Q4 (a,b)) (-qf a) (-qf b) (H2 f ae) (H2 e ae) ae (by grind [Xu]);exact this
 grind [As,zu]
end T83
theorem Ab8:Cr mK:=Aa T143.ok (by grind [Aa,T83.ok,T144.ok,T145.ok,FM])
namespace T81
theorem Yf{n:Int}(a: -9000000000000000000<=n)(b:n<=9000000000000000000):imax n (zc .i64<|0-n)=Aj n:=by
 grind [wr,imax,Aj]
theorem Ck(n d:Int)(v:Z)(j:v=A2 n)(g:v.length<=27001)(b:0<d)(i:d<9000000000000000000)(a:d=1->∀ob,Q (.dat .str<|A2 n) ob)(h:d≠1->∀ob,Q (.dat .str (A2 n++47::A2 d)) ob):Ends mK (L4 d v) Q:=by
 have f:=Ya d 1;have e:JF d 1=A2 d:=by
  rw[Rg ae ae];unfold A2 yv;grind
 refine zj (BX ..) (zh (fun c=>zd ah<|zd ah<|zd ah<|zf ?_)<|fun c=>zf ?_)
 ·grind
 grind
theorem DE(n d:Int)(n1: -9000000000000000000<n)(k:n<9000000000000000000)(f:0<d)(h:d<9000000000000000000)(a:d=1->∀ob,Q (.dat .str<|A2 n) ob)(g:d≠1->∀ob,Q (.dat .str (A2 n++47::A2 d)) ob):Ends mK (L3 n d) Q:=by
 have i:=Ya (Aj n) 1;have j:=An n;have e:JF (Aj n) 1=zk n.natAbs:=by
  grind [Rg]
 have b:=lK n;refine zj (Bo ..) ?_;conv=>zeta
 rw[Yf ae ae];have hr:(decide (0<=Aj n)&&decide (Aj n<9223372036854775808)&&decide ((0:Int)<=1)&&decide ((1:Int)<=20))=true:=Ab (Ab (by grind [Ab]) rfl) rfl;refine zh (fun c=>zd hr<|zd ah<|Ck n d _ ?_ ?_ f h a g) (fun c=>zd hr<|zd ah<|Ck n d _ ?_ ?_ f h a g)
 ·have c:=w6 c;rw[wd c]at b;rw[e];exact b.symm
 ·grind
 ·have c:=w7 c;rw[wc c]at b;rw[e];exact b.symm
 grind
theorem Bc(n d:Int)(n1: -9000000000000000000<n)(i:n<9000000000000000000)(b:0<d)(g:d<9000000000000000000)(e:∀ob,Q (.dat .str<|CZ n d) ob):Ends mK (L2 n d) Q:=by
 obtain⟨q1,c⟩:=bV (N:=n) b;obtain⟨l1,l2⟩:=GK (n:=n) (d:=d) ae;have f:=An n;have j:=(zl n d).den_pos;have k:=Ty (N:=n) (D:=d);refine zj (AA ..) ?_;conv=>zeta
 rw[Yf ae ae,q1,c,wr _ ae ae,wr _ ae ae];have a:decide (qt (Aj n) d≠0)=true:=ah;refine zd (Ab (by grind [Ab]) ah) (zd a<|zd a<|DE _ _ ae ae ae ae (fun h ob=>?_)<|fun h ob=>?_)
 ·grind
 grind
theorem ok:Ae A1 81 cN:=by
 refine AX (X:=mK) rfl Ab8 (d:=9) (by rfl) (by rfl) (by rfl) (fun(i:Int×Int) b=>?_) (Ak ag);obtain⟨n,d⟩:=i;have b:(Cn n&&Cn d&&decide (d≠0))=true:=b;have g:∀ob,Ac cN (n,d) (.dat .str<|CZ n d) ob:=fun ob=>zy rfl rfl rfl
 have a:(CP (zu n,zr n)&&CP (zu d,zr d)&&decide (qf (zu d,zr d)≠0))=true:=(by grind [Qg,Jl]);refine zp (Ai n d) ?_;conv=>zeta
 rw[RM];refine zh (by simp_all) (fun j=>zh (by simp_all)<|fun e=>zh (by simp_all)<|fun h=>zh (by simp_all)<|fun f=>?_);refine zj (Al ..)<|zh (fun c=>?_)<|fun c=>?_
 ·grind [wr,Bc,Xu]
 grind [Bc]
end T81
namespace T80
theorem no3{Q:PV->Ob->Prop}(s:Z)(neg:Bool)(b:s.length<=20)(h:9<(AO s).length\/9<(yk s).length)(a:∀ob,Q (.tup [.dat i64 0,.dat i64 0,.bl false]) ob):Ends PH (L3 s neg) Q/\Ends PH (L4 s) Q:=by
 obtain⟨g,d,f⟩:=Cc s;have es:A8 s=((AO s).length:Int):=rfl;have i:9<(yk s).length->(s.length:Int)-(AO s).length>10:=fun h=>by
  cases e:B1 s with
  |true=>
   grind
  |false=>grind
 refine⟨zj (Bo ..) (zd ah<|zh (fun _=>zf<|a _)<|fun c=>?_),zj (BX ..)<|zd ah<|zh (fun _=>zf<|a _)<|fun c=>?_⟩
 ·grind [zd,zf,wr]
 grind [zd,zf,wr]
theorem okG:Ae A1 80 Qb:=by
 refine AX (X:=PH) rfl Aaw (d:=9) (by rfl) (by rfl) (by rfl) (fun(a:Z) ha=>?_) (Ak ag);obtain⟨_,_,k,db⟩:=Rk ha;by_cases b:EM a=true
 ·have g:∀n ob,n=JM a->Ac Qb a (.tup [.dat i64 n,.dat i64<|if B1 (A9 a)=true then AK 0 (yk<|A9 a)else 1,.bl true]) ob:=fun n ob h=>zy rfl rfl (by
   show(n,_,true)=(pY a,Xv a,EM a);unfold pY Xv;rw[wd b,wd b,b,h];rfl)
  unfold EM at b;rw[ze,ze,w5,w5,w5]at b;obtain⟨⟨e,o⟩,j⟩:=b;refine zp (Ai a) (zq ah ?_);cases a with
  |nil=>exact zq rfl (zj (AA ..)<|Ck [] e o j k db<|fun n ob h=>g n ob<|by rw[h];rfl)
  |cons c r=>
   have f:(c::r).getD 0 0=c:=rfl;rw[f];refine zd (by simp) (zd (by simp)<|zj (Al ..)<|zh (fun d=>zd (by simp) ?_)<|fun d=>?_)
   ·have i:c=45:=by
     exact yq.1 ah
    have l:A9 (c::r)=r:=by simp_all [A9]
    have p:Sp.preB (c::r)=true:=by grind [Sp.preB]
    grind [JM,DE]
   ·have i:c≠45:=by rintro rfl;grind
    simp_all [A9,Sp.preB,JM,DE]
 ·have g:∀ob,Ac Qb a (.tup [.dat i64 0,.dat i64 0,.bl false]) ob:=fun ob=>zy rfl rfl (by
   show((0:Int),(0:Int),false)=(pY a,Xv a,EM a);simp_all [pY,Xv])
  refine zp (Ai a) (zh (by simp_all)<|fun e=>?_);have e:a.length<=20:=ah
  have m:9<(AO<|A9 a).length\/9<(yk<|A9 a).length:=by
   grind [EM]
  cases a with
  |nil=>exact zq rfl (zj (AA ..) (no3 [] false e m g).2)
  |cons c r=>
   have f:(c::r).getD 0 0=c:=rfl;rw[f];refine zd (by simp) (zd (by simp)<|zj (Al ..)<|zh (fun d=>zd (by simp) ?_)<|fun d=>?_)
   ·have i:c=45:=by
     exact yq.1 ah
    have l:A9 (c::r)=r:=by simp_all [A9]
    grind [no3]
   ·have i:c≠45:=by rintro rfl;grind
    simp_all [A9,no3]
end T80
theorem Ww:Cr sR:=Aa T80.okG (by grind [Aa,T81.ok,T82.ok,T84.ok,T85.ok,T83.ok,FM])
theorem Xf{x y:Int}(c: -1000000000<x)(b:x<1000000000)(a: -1000000000<y)(d:y<1000000000): -1000000000000000000<=x*y/\x*y<=1000000000000000000:=by
 have h:(x*y).natAbs<=1000000000*1000000000:=by
  rw[qk];exact Nat.mul_le_mul ae ae
 omega
theorem T30.ok:Ae A1 30 Jg:=by
 refine AX (X:=sR) rfl Ww (d:=9) (by rfl) (by rfl) (by rfl) (fun(i:Z×Z) c=>?_) (Ak ag);obtain⟨a,b⟩:=i;have c:(AR a&&AR b)=true:=c;rw[ze]at c;obtain⟨ha,hb⟩:=c;obtain⟨a1,a2,a3,a4,a5,a6,a7,a8,a9⟩:=Em ha;obtain⟨b1,b2,b3,b4,b5,b6,b7,b8,b9⟩:=Em hb;have ad:=(Ax a).den_pos;have F:=(Ax b).den_pos;have eq:=(iP ha hb).2;have u:∀ob,Ac Jg (a,b) (.dat .str<|CZ (Bs a*A5 b+Bs b*A5 a)<|A5 a*A5 b) ob:=fun ob=>zy rfl rfl eq.symm
 have h:Ends sR (T30.L1 a b) (Ac Jg (a,b)):=by
  have o:B3 a=zu (Bs a):=rfl;have A:BS a=zr (Bs a):=rfl;have m:By a=zu (A5 a):=rfl;have B:Bt a=zr (A5 a):=rfl;have D:B3 b=zu (Bs b):=rfl;have q:BS b=zr (Bs b):=rfl;have w:By b=zu (A5 b):=rfl;have C:Bt b=zr (A5 b):=rfl;refine zj (T30.Al ..) ?_;conv=>zeta
  simp only[o,A,m,B,D,q,w,C,Ts,TS,zD,oC,RM,Jl];have e:=Ef a8 b9;have f:=Ef b8 a9;have g:=Ef a9 b9;rw[<-qk]at e f g;have x:=Nat.lt_of_le_of_lt (Int.natAbs_add_le (Bs a*A5 b)<|Bs b*A5 a)<|rG (k:=4000+4000) e f;have r:=N5 e af;have z:=N5 f af;have n:=N5 g af;have p:=N5 x af;have t:A5 a*A5 b≠0:=(by grind [yr]);exact zd a7<|zd b7<|zd (Ab a1 b3)<|zd (Ab b1 a3)<|zd (Ab r z)<|zd (Ab a3 b3)<|zd (Ab (Ab p n)<|w4 t)<|zf<|u _
 refine zp (T30.Ai a b) (zd ha<|zd hb (zh (fun l=>zh (fun s=>?_) ah) ah));obtain⟨G,E,v,y,H,j⟩:=HD ha l;obtain⟨y1,y2,y3,y4,y5,y6⟩:=HD hb s;have p1:=Xf v y ae y6;have p2:=Xf y3 y4 ae j;have I:=Xf ae j ae y6;grind [yr,wr,zd,FL,zf]
theorem T74.ok:Ae A1 74 Na:=by
 refine AX (X:=sR) rfl Ww (d:=9) (by rfl) (by rfl) (by rfl) (fun(i:Z×Z) c=>?_) (Ak ag);obtain⟨a,b⟩:=i;have c:(AR a&&AR b)=true:=c;rw[ze]at c;obtain⟨ha,hb⟩:=c;obtain⟨a1,a2,a3,a4,a5,a6,a7,a8,a9⟩:=Em ha;obtain⟨b1,b2,b3,b4,b5,b6,b7,b8,b9⟩:=Em hb;have ad:=(Ax a).den_pos;have u:=(Ax b).den_pos;have y:∀ob,Ac Na (a,b) (.dat .str<|CZ (Bs a*Bs b)<|A5 a*A5 b) ob:=fun ob=>zy rfl rfl (mG).symm
 have e:Ends sR (T74.L1 a b) (Ac Na (a,b)):=by
  have h:B3 a=zu (Bs a):=rfl;have p:BS a=zr (Bs a):=rfl;have g:By a=zu (A5 a):=rfl;have q:Bt a=zr (A5 a):=rfl;have s:B3 b=zu (Bs b):=rfl;have j:BS b=zr (Bs b):=rfl;have m:By b=zu (A5 b):=rfl;have r:Bt b=zr (A5 b):=rfl;refine zj (T74.Al ..) ?_;conv=>zeta
  simp only[h,p,g,q,s,j,m,r,Ts,TS,RM,Jl];have v:=Ef a8 b8;have w:=Ef a9 b9;grind [N5,yr,zd,zf]
 refine zp (T74.Ai a b) (zd ha<|zd hb (zh (fun f=>zh (fun k=>?_) ah) ah));obtain⟨x,t,l,o,z,n⟩:=HD ha f;obtain⟨y1,y2,y3,y4,y5,y6⟩:=HD hb k;have p1:=Xf l o y3 y4;have A:=Xf ae n ae y6;grind [yr,wr,zd,FL,zf]
theorem T183.ok:Ae A1 183 AdR:=by
 refine AX (X:=sR) rfl Ww (d:=9) (by rfl) (by rfl) (by rfl) (fun(a:Z) hi=>?_) (Ak ag);obtain⟨b,h0⟩:=ZM hi;obtain⟨a1,a2,a3,a4,a5,a6,a7,a8,a9⟩:=Em (I4 b).1;refine zp (T183.Ai a)<|zd a7<|zd (Ab (Ab a3 a1) ?_)<|zf<|zy rfl rfl ?_
 ·rw[a2];exact w4 fun e=>(by simp_all)
 ·unfold JL;rw[a2,a4];exact iZ.symm
theorem hO:Cr XR7:=Aa T183.ok<|Aa T74.ok<|Aa T30.ok<|Aa T86.ok AI
theorem xW{s:Z}(h:BV s=true):AR (M6 s)=true/\Ax (M6 s)= -Ax s:=by
 obtain⟨b,c⟩:=I4 h;obtain⟨t,_⟩:=GG b;have e:M6 s=Az (-Ax s):=by
  have:=yB<|Ax s;rwa [t]at this
 have r:Ax (M6 s)= -Ax s:=by rw[e,EE]
 refine⟨?_,r⟩;have a:(M6 s).length<=4000:=by
  unfold M6;split
  ·omega
  ·split
   ·rw[List.length_drop];omega
   ·rw[z6];omega
 unfold AR;rw[r, <-e,w4 rfl,w4 a];rfl
theorem T31.ok:Ae A1 31 R5:=by
 refine C3 hO<|fun(i:Z×Z) c=>?_;obtain⟨a,b⟩:=i;have c:(AR a&&BV b)=true:=c;rw[ze]at c;obtain⟨ha,hb⟩:=c;obtain⟨n1,n2⟩:=xW hb;have d:=(I4 hb).2;refine zp (T31.Ai a b) (zd (w4 ae)<|zd (Ab ha n1)<|zf<|zy rfl rfl ?_);show BW a (M6 b)=DS a b;unfold BW DS;rw[n2,Rat.sub_eq_add_neg]
theorem uV{s:Z}(h:XC s=true):AR (UJ s)=true:=by
 obtain⟨a,h0⟩:=ZM h;obtain⟨a,h2⟩:=I4 a;obtain⟨t,_⟩:=GG a;have b:(Az<|Ax s).length<=3000:=by rw[t];exact h2
 unfold UJ;generalize Ax s=q at*;have l1:(zk q.num.natAbs).length<=(yv q.num).length:=by
  unfold yv;split
  ·rw[z6];omega
  ·rw[show q.num.toNat=q.num.natAbs by omega];exact qg _
 have key:(Az q⁻¹).length<=(zk q.num.natAbs).length+(zk q.den).length+2:=by
  have g:=Rat.inv_def q;have f:q.num≠0:=fun e=>h0<|Rat.num_eq_zero.mp e
  have l:=q.den_pos;have m:=GK (n:=(q.den:Int)) (d:=q.num) f;rw[<-g,Int.natAbs_natCast]at m;have o:=Ym m.1;have j:=Ym m.2;have i:(yv q⁻¹.num).length<=(zk q⁻¹.num.natAbs).length+1:=by
   unfold yv;split
   ·rw[z6];omega
   ·rw[show q⁻¹.num.toNat=q⁻¹.num.natAbs by omega];omega
  unfold Az;split
  ·omega
  ·rw[z7,z6];omega
 have k:(zk q.num.natAbs).length+(zk q.den).length<=3001:=by
  unfold Az at b;split at b
  ·next c=>rw[c,Lib.decDigits_one (show 1<10 by decide),List.length_singleton];omega
  ·rw[z7,z6]at b;omega
 unfold AR;rw[EE,w4 rfl,w4 ae];rfl
theorem T130.ok:Ae A1 130 gX:=by
 refine C3 hO<|fun(i:Z×Z) c=>?_;obtain⟨a,b⟩:=i;have c:(AR a&&XC b)=true:=c;rw[ze]at c;obtain⟨ha,hb⟩:=c;refine zp (T130.Ai a b)<|zd hb<|zd (Ab ha<|uV hb)<|zf<|zy rfl rfl ?_;show DI a (UJ b)=Fj a b;unfold DI Fj UJ;rw[EE,Rat.div_def]
theorem cX:Cr XR8:=Aa T31.ok<|Aa T87.ok<|Aa T139.ok<|Aa T33.ok<|Aa T113.ok<|Aa T114.ok AI
theorem T32.ok:Ae A1 32 Lp:=by
 refine C3 cX<|fun(i:Z×Z) d=>?_;obtain⟨a,b⟩:=i;have d:(AR a&&BV b)=true:=d;have c:=d;rw[ze]at c;obtain⟨ha,hb⟩:=c;have z:=(VG ha).sub<|VG (I4 hb).1;refine zp (T32.Ai a b) (zd d (zd (w4<|WT z af)<|zf<|zy rfl rfl ?_));show Gr (DS a b)=CW a b;unfold DS;rw[Od,vO];rfl
theorem T137.ok:Ae A1 137 UP:=by
 refine C3 cX<|fun(a:Z) ha=>?_;refine zp (T137.Ai a)<|zd ha<|zf<|zy rfl rfl ?_;show(A8 a==(a.length:Int))=I0 a;obtain⟨g,c,d⟩:=Cc a;have es:A8 a=((AO a).length:Int):=rfl;unfold I0;cases b:B1 a with
 |false=>rw[es,(d b).1];simp
 |true=>
  obtain⟨f,e⟩:=c b;rw[es];simp;omega
theorem Aa1:Cr XR9:=Aa T82.ok<|Aa T182.ok<|Aa T148.ok<|Aa T137.ok AI
theorem T129.ok:Ae A1 129 V6:=by
 refine C3 Aa1<|fun(a:Z) ha=>?_;obtain⟨a1,a2,a3,a4,a5,f,e,g,a9⟩:=Em ha;obtain⟨t,hl⟩:=GG ha;have h:=(Ax a).den_pos;refine zp (T129.Ai a) (zd (w4 ae) (zh (fun c=>zf<|zy rfl rfl ?_) (fun c=>zd e<|zd (Ab (Ab a1 a3)<|by rw[a4];exact w4 ae)<|zd ?_<|zf<|zy rfl rfl ?_)))
 ·show a=A2 (Ax a).floor;have d:(Ax a).den=1:=by
   have b:=(F6<|Ax a).2.2;rw[t]at b;unfold I0 at c;rw[b]at c;simpa using c
  rw[qm,d];have:(Ax a).num/((1:Nat):Int)=(Ax a).num:=Int.ediv_one _;rw[this];conv=>lhs;rw[<-t]
  unfold Az;rw[wd d];rfl
 ·show CP (J5 _ _,JR _ _)=true;unfold J5 JR;rw[a2,a4];exact H2 a1<|Int.natAbs_ediv_le_natAbs _ _
 ·show Gt (J5 _ _,JR _ _)=A2 (Ax a).floor;unfold J5 JR;rw[a2,a4,Nt,qm,a5,f]
theorem iL{f:Ad}{q:Rat}(h:FH f q){k:Nat}(z:Cz k q)(c:k<=4000):Bk (Hb f.1 f.2)=true/\Sp.vI (Hb f.1 f.2)=q.floor:=by
 have s:=Wi z c;have b:=h.den_pos;have d:=gN h.n (by rw[h.vn];exact yi s.1<|AY af af);have a:Sp.vI (Hb f.1 f.2)=q.floor:=by rw[tK b,h.vn,h.vd,qm]
 refine⟨gN (dY d b) ?_,a⟩;have e:=(R2 z).1;rw[Rat.num_intCast]at e;rw[a];exact yi (Wu e) (AY af ae)
end Go.Pe
namespace Go.Sp
theorem Mq{k:Nat}{t:List AZ}(h:He k t=true):∀p∈t,p.1.length<=k/\p.2.length<=k:=by
 unfold He at h;grind
theorem Ye(a b:Z):CW a b<=0↔0<=CW b a:=by
 grind [CW]
theorem IZ(a b:Z):CW a b<=0↔¬Ax b<Ax a:=by
 unfold CW;grind
def Sn(t:List AZ)(i:Nat):Option AZ:=if i=0 then none else some<|t.getD (i-1) ([],[])
theorem GH(p:AZ)(l:List AZ):D0 none (p::l)=if PB p.1 p.2≠0 then PB p.1 p.2 else D0 (some p) l:=by
 rw[D0]
theorem H6(q p:AZ)(l:List AZ):D0 (some q) (p::l)=if PB p.1 p.2≠0 then PB p.1 p.2 else if CW p.1 q.1<=0 then 11 else D0 (some p) l:=by
 rw[D0]
theorem Xz(o:Option AZ):D0 o []=0:=by rw[D0]
theorem Zc{t:List AZ}{i:Nat}{p:AZ}(h:t.getD i ([],[])=p):Sn t (i+1)=some p:=by
 simp_all [Sn]
end Go.Sp
namespace Go.Pe
open Sp
open Go.Det
theorem Xi{s:Sh}{sz:Nat}(b:s.sz=sz){id n:Nat}{tail:Ob}{fz:Bool}{t:TypeId}{o:List s.T}{e:Int}(a:n=o.length):Jf [.list s,i64] (.tup [.sl id sz 0 n none,.dat i64 e]) ((id,.arr fz t s o)::tail)=some (true,(o,e)):=by
 subst a b;have c:AU ((id,Obj.arr fz t s o)::tail) id=some (.arr fz t s o):=by grind [AU,Nat.beq_refl]
 have h0:E8 ⟨0,.leaf,(id,.arr fz t s o)::tail,0⟩ (.list s) (.sl id s.sz 0 o.length none)=some (true,o):=by
  unfold E8;simp_all [Dt,PV.cells,CE,AP.obj,Oj,Sh.Ps,D1,CJ,asD,EX]
 unfold Jf Hw;unfold Ds;rw[h0];rfl
theorem AcK:Cr XT1:=Aa T202.ok (by grind [Aa,T203.ok,T270.ok,T96.ok,T73.ok,FM])
theorem cW{a b:Z}(d:Ao a=0)(c:Ao b=0):DD (frS a) (frS b)=CW a b:=by
 grind [FH.cmp,Mx,Dv,CW]
theorem IN{a:Z}(b:Ao a=0):Sp.BJ (frS a)=true/\D8 a=true:=by
 obtain⟨n,z⟩:=Dv b;exact⟨(Mx n).BJ (Wi z af),(Em n).2.2.2.2.2.2.1⟩
namespace T237
theorem lT(t:List AZ)(i:Nat)(p:AZ)(h:i<t.length)(hp:t.getD i ([],[])=p):(t.take i).map Gn++[(CC p.1,CC p.2)]=(t.take<|i+1).map Gn:=by
 grind [List.take_add_one,Gn]
theorem Bc(t:List AZ)(g:t.length<=64)(o:He 1000000 t=true)(f:∀e ob,e≠0->D0 none t=e->Q (.tup [.nil,.dat i64 e]) ob)
  (j:D0 none t=0->Q (.tup [.sl 0 8 0 ((t.take t.length).map Gn).length none,.dat i64 0]) [(0,.arr false 300 cG<|(t.take t.length).map Gn)]):
  ∀(r:List AZ) (i n:Nat) (q:AZ),t.drop i=r->1<=i->i<=t.length->n=((t.take i).map Gn).length->t.getD (i-1) ([],[])=q->Ao q.1=0->D0 none t=D0 (some q) r->Ends XT1 (L2 n t (t.length:Int) (i:Int)<|(t.take i).map Gn) Q
 |[],i,n,q,h,F,u,A,E,l,b=>by
  have:=drop_nil h u;simp_all [Xz,zj,AA]
 |p::r,i,n,q,h,F,u,A,E,l,b=>by
  obtain⟨m,v,B⟩:=drop_cons (d:=(([],[]):AZ)) h;have G:p∈t:=ah;have hp:=Mq o p G;have D:n=i:=ah
  have y:zc .i64 ((i:Int)+1)=((i+1:Nat):Int):=by grind [wr]
  have I:zc .i64 ((i:Int)-1)=((i-1:Nat):Int):=by grind [wr]
  have C:∀d,((t.take i).map Gn).getD (i-1) d=Gn q:=by
   grind
  rw[H6]at b;refine zj (AA ..) ?_;conv=>zeta
  rw[y,I,zi,zi,v,C];refine zd ah (zd ah<|zd ah<|zh (fun c=>zf ?_)<|fun c=>?_)
  ·simp_all [PB]
  ·have c:B8 [p.1,p.2]=0:=ah
   have w:PB p.1 p.2=0:=c;rw[wc ae]at b;obtain⟨k,H⟩:=Kt w;have s:=IN k;have z:=IN H;have x:=IN l;have a:DD (CC p.1) (Gn q).1=CW p.1 q.1:=cW k l;refine zd s.2 (zd z.2 (zd ah<|zd ah<|zd ah<|zd (Ab s.1 x.1)<|zh (fun d=>zf ?_)<|fun d=>?_))
   ·grind
   ·have d:=w7 d;rw[a]at d;rw[wc d]at b;have go:=Bc t g o f j r (i+1) (n+1) p B ae m ah ah k b;rw[<-lT t i p m v]at go;refine zd ah go
theorem ok:Ae A1 237 cO:=by
 refine AX (X:=XT1) rfl AcK (d:=9) (by rfl) (by rfl) (by rfl) (fun(t:List (Z×Z)) a=>?_) (Ak<|by rfl);have a:(decide (t.length<=1000)&&He 1000000 t)=true:=a;rw[ze,w5]at a;obtain⟨q,hp⟩:=a;have b:∀e ob,e≠0->BL t=e->Ac cO t (.tup [.nil,.dat i64 e]) ob:=fun e ob h k=>zy (y:=([],e)) rfl rfl (by
  show([],e)=(X0 t,BL t);simp_all [X0])
 have m:Sp.first [CB ((t.length:Int)==0) 12,CB (decide ((t.length:Int)>64)) 5]=if t=[]then 12 else if 64<t.length then 5 else 0:=by
  rw[K3];by_cases h:t=[]
  ·rw[wd h,h];rfl
  ·have n:((t.length:Int)==0)=false:=by
    simp_all
   rw[wc h,n,wc af];by_cases k:64<t.length
   ·rw[wd k,w4 ae];rfl
   ·rw[wc k,w8 ae];rfl
 refine zp (Ai t) ?_;conv=>zeta
 rw[m];refine zd rfl (zd rfl (zd rfl ?_));by_cases h:t=[]
 ·simp_all [BL]
 ·rw[wc h];by_cases k:64<t.length
  ·simp_all [BL]
  ·rw[wc k];have s:BL t=D0 none t:=by simp_all [BL,wc]
   refine zq rfl ?_;obtain⟨p,r,rfl⟩:∃p r,t=p::r:=by
    cases t with
    |nil=>grind
    |cons p r=>simp
   have i:=Mq hp p (by simp);refine zj (Al ..) ?_;conv=>zeta
   refine zd (by simp) (zd (by simp)<|zd ah<|zh (fun c=>zf ?_)<|fun c=>?_)
   ·simp_all [PB,GH]
   ·have c:B8 [p.1,p.2]=0:=ah
    have g:PB p.1 p.2=0:=c;obtain⟨f,o⟩:=Kt g;have l:=IN f;have j:=IN o;have go:=Bc (Q:=Ac cO (p::r)) (p::r) ae hp ah (fun h0=>zy (Xi rfl rfl) rfl (by
     show(((p::r).take (p::r).length).map Gn,(0:Int))=(X0 (p::r),BL (p::r));simp_all [X0])) r 1 1 p rfl af (by simp) (by rfl) rfl f (by simp_all [GH])
    exact zd l.2<|zd j.2<|zq rfl (zd rfl go)
end T237
theorem Acy:Cr XT2:=Aa T237.ok AI
theorem T206.ok:Ae A1 206 Mo:=by
 refine AX (X:=XT2) rfl Acy (d:=9) (by rfl) (by rfl) (by rfl) (fun(t:List (Z×Z)) hi=>?_) (Ak ag);exact zp (T206.Ai t)<|zd hi<|zf<|zy rfl rfl rfl
theorem AcZ:Cr XT4:=Aa T78.ok<|Aa T32.ok AI
namespace T112
theorem As(t:List AZ)(f:t.length<=64)(j:He 1000000 t=true)(u:∀ob,Q (.dat i64<|D0 none t) ob):
  ∀(r:List AZ) (i:Nat),t.drop i=r->i<=t.length->(0<i->Ao (t.getD (i-1) ([],[])).1=0)->D0 none t=D0 (Sn t i) r->Ends XT4 (L1 t (i:Int)) Q
 |[],i,h,o,b,a=>by
  simp_all [Xz,zj,Al,w8]
 |p::r,i,h,o,b,a=>by
  obtain⟨l,v,n⟩:=drop_cons (d:=(([],[]):AZ)) h;have w:p∈t:=ah;obtain⟨l1,l2⟩:=Mq j p w;have m:zc .i64 ((i:Int)+1)=((i+1:Nat):Int):=by grind [wr]
  have e:(decide ((0:Int)<=(i:Int))&&decide ((i:Int)<(t.length:Int)))=true:=ah;have z:=cB p.1 p.2;refine zj (Al ..) ?_;conv=>zeta
  rw[m,zi,v];refine zd ah (zd e<|zd ah<|zh (fun c=>zd e<|zd ah<|zh (fun d=>?_)<|fun d=>?_)<|fun c=>?_)
  ·have c:Ao p.1=0:=ah
   have d:Ao p.2=0:=ah
   have db:(Ao p.2 !=0)=false:=ah
   have n1:=MP c;have nx:∀g,g=i+1->D0 none t=D0 (some p) r->Ends XT4 (L1 t ((i+1:Nat):Int)) Q:=fun g _ y=>
    As t f j u r (i+1) n l ah (by grind [Zc])
   by_cases h0:i=0
   ·simp_all [GH]
   ·have x:zc .i64 ((i:Int)-1)=((i-1:Nat):Int):=by grind [wr]
    have b:=b ae;have s:Sn t i=some (t.getD (i-1) ([],[])):=by simp_all [Sn]
    rw[s,H6,wc ae]at a;rw[x,zi];generalize t.getD (i-1) ([],[])=q at*;have n0:=MP b;refine zd ah (zd ah<|zd e<|zd (Ab (n0.num af)<|n1.BV af)<|zh (fun k=>zd rfl (zf ?_))<|fun k=>zq db<|nx _ rfl ?_)
    ·simp_all [Ye]
    ·have k:=w7 k;simp_all [Ye]
  ·refine zd ah<|zf ?_;have:D0 none t=Ao p.2:=by
    rw[a];cases Sn t i with
    |none=>simp_all [GH]
    |some q=>simp_all [H6]
   grind
  ·have:D0 none t=Ao p.1:=by
    rw[a];cases Sn t i with
    |none=>simp_all [GH]
    |some q=>simp_all [H6]
   simp_all
theorem ok:Ae A1 112 Mo:=by
 refine AX (X:=XT4) rfl AcZ (d:=9) (by rfl) (by rfl) (by rfl) (fun(t:List (Z×Z)) a=>?_) (Ak ag);have a:(decide (t.length<=1000)&&He 1000000 t)=true:=a;rw[ze,w5]at a;have b:∀e ob,BL t=e->Ac Mo t (.dat i64 e) ob:=fun e ob h=>zy rfl rfl h.symm
 unfold BL at b;refine zp (Ai t)<|zh (fun c=>zf<|b _ _ ?_)<|fun c=>zh (fun d=>zf<|b _ _ ?_)<|fun d=>?_
 ·simp_all
 ·grind
 ·have d:=w7 d;exact As t ae a.2 ah t 0 rfl ae ae rfl
end T112
end Go.Pe
namespace Go.Sp
theorem AeM{s:Z}(h:AR s=true){k:Nat}(b:s.length<=k)(d:1<=k):Nu k s (Ax s):=by
 obtain⟨a,_⟩:=GG h;have e:(Az<|Ax s).length<=k:=by rw[a];exact b
 refine⟨a.symm,?_⟩;generalize Ax s=q at*;have f:(zk q.num.natAbs).length<=(yv q.num).length:=by
  unfold yv;split
  ·rw[z6];omega
  ·rw[show q.num.toNat=q.num.natAbs by omega];exact qg _
 unfold Az at e;split at e
 ·next c=>exact⟨Cv (k:=k) _ ae,by rw[c];exact R3 k ae⟩
 ·rw[z7,z6]at e;exact⟨Cv (k:=k) _ ae,Cv (k:=k) _ ae⟩
theorem Ih{s:Z}(h:Ao s=0){k:Nat}(b:s.length<=k)(a:1<=k):Nu k s (Ax s):=AeM (Dv h).1 b a
def pt(p:AZ):Rat×Rat:=(Ax p.1,Ax p.2)
theorem vU(t:List AZ)(x:Z):MS t x=Qj none (t.map pt) (Ax x):=rfl
theorem Su(p:Rat×Rat)(l:List (Rat×Rat))(x:Rat):Qj none (p::l) x=if p.1<x then Qj (some p) l x else p.2:=by rw[Qj]
theorem Q1(a b:Rat×Rat)(l:List (Rat×Rat))(x:Rat):Qj (some a) (b::l) x=if b.1<x then Qj (some b) l x else a.2+(b.2-a.2)*(x-a.1)/(b.1-a.1):=by rw[Qj]
theorem gE(p:Rat×Rat)(x:Rat):Qj (some p) [] x=p.2:=by rw[Qj]
theorem oU(a b c d:Rat):a+b/c*d=a+b*d/c:=by
 rw[Rat.div_def,Rat.div_def,Rat.mul_assoc,Rat.mul_comm c⁻¹ d, <-Rat.mul_assoc]
theorem kH{t:List AZ}{x:Z}(h:ZK t x=0):BL t=0/\Ao x=0:=by
 unfold ZK at h;split at h
 ·next k=>exact wh h k
 ·next k=>exact⟨by omega,h⟩
theorem DK{t:List AZ}(h:BL t=0):t≠[]/\t.length<=64/\D0 none t=0:=by
 unfold BL at h;split at h
 ·exact wh h af
 ·next k=>
  split at h
  ·exact wh h af
  ·exact⟨k,by omega,h⟩
theorem Ia{q p:AZ}{l:List AZ}(h:D0 (some q) (p::l)=0):Ao p.1=0/\Ao p.2=0/\Ax q.1<Ax p.1/\D0 (some p) l=0:=by
 rw[H6]at h;split at h
 ·next k=>exact wh h k
 ·next k=>
  split at h
  ·exact wh h af
  ·next d=>
   obtain⟨e,c⟩:=Kt (a:=p.1) (b:=p.2) ae;rw[IZ]at d;exact⟨e,c,z8.1 d,h⟩
theorem JN{p:AZ}{l:List AZ}(h:D0 none (p::l)=0):Ao p.1=0/\Ao p.2=0/\D0 (some p) l=0:=by
 rw[GH]at h;split at h
 ·next k=>exact wh h k
 ·next k=>
  obtain⟨d,c⟩:=Kt (a:=p.1) (b:=p.2) ae;exact⟨d,c,h⟩
theorem OG{p q:Rat}(h:q<p):p-q≠0:=fun e=>by
 have:=(Rat.lt_iff_sub_pos q p).1 h;rw[e]at this;exact qn this
end Go.Sp
namespace Go.Pe
open Sp
open Go.Det
theorem Abb:Cr XT5:=Aa T32.ok<|Aa T130.ok<|Aa T31.ok<|Aa T74.ok<|Aa T30.ok AI
namespace T126
theorem As(t:List AZ)(x:Z)(m:t.length<=64)(w:He 100 t=true)(nx:Sp.Nu 600 x (Ax x))(g:∀ob,Q (.dat .str<|Az<|MS t x) ob):
  ∀(r:List AZ) (i:Nat) (q:AZ),t.drop i=r->1<=i->i<=t.length->t.getD (i-1) ([],[])=q->Sp.Nu 100 q.1 (Ax q.1)->Sp.Nu 100 q.2 (Ax q.2)->D0 (some q) r=0->MS t x=Qj (some<|Sp.pt q) (r.map Sp.pt) (Ax x)->Ends XT5 (L1 t x (i:Int)) Q
 |[],i,q,h,E,y,b,n1,f,k,a=>by
  have:=drop_nil h y;have e:i=t.length:=ae
  have u:zc .i64 ((t.length:Int)-1)=((i-1:Nat):Int):=by rw[wr _ ae ae];omega
  have a:MS t x=Ax q.2:=by rw[a];exact gE _ _
  refine zj (Al ..) (zq (w8 ae) ?_);rw[u,zi,b];refine zd (ad ae ae)<|zf ?_;have g:=g;rw[a, <-f.t]at g;exact g _
 |p::r,i,q,h,E,y,b,n1,f,k,a=>by
  obtain⟨A,z,C⟩:=drop_cons (d:=(([],[]):AZ)) h;have F:p∈t:=List.mem_of_mem_drop (by rw[h];exact List.mem_cons_self ..);obtain⟨l1,l2⟩:=Mq w p F;have B:=wn (i:=i) ae;have u:zc .i64 ((i:Int)-1)=((i-1:Nat):Int):=by rw[wr _ ae ae];omega
  have v:=nb (i:=i) (n:=t.length) ae;obtain⟨D,G,s,k⟩:=Ia k;have l:=Ih D l1 af;have o:=Ih G l2 af;have a:MS t x=if Ax p.1<Ax x then Qj (some<|Sp.pt p) (r.map Sp.pt) (Ax x)else Ax q.2+(Ax p.2-Ax q.2)*(Ax x-Ax q.1)/(Ax p.1-Ax q.1):=by
   rw[a,List.map_cons,Q1];rfl
  have j:=OG s;refine zj (Al ..) ?_;conv=>zeta
  rw[B,u,zi,zi,z,b];refine zd (w4 ae) (zd v (zd (Ab (nx.num af)<|l.BV af)<|zh (fun c=>?_)<|fun c=>?_))
  ·have c:=(Sp.IZ _ _).1<|w6 c;rw[wc c]at a;have s1:=o.DS f;have s2:=l.DS n1;have s3:=s1.Fj s2 j;have s4:=nx.DS n1;have s5:=s3.DI s4;have s6:=f.BW s5;have z2:XC (DS p.1 q.1)=true:=tH (s2.BV af) (fun e=>j<|(s2.J0 af).1 e);refine zd (ad ae ae) (zd v<|zd (Ab (o.num af)<|f.BV af) (zd (Ab (l.num af)<|n1.BV af)<|zd (Ab (s1.num af) z2)<|zd (Ab (nx.num af)<|n1.BV af)<|zd (Ab (s3.num af)<|s4.num af)<|zd (Ab (f.num af)<|s5.num af)<|zf ?_));rw[s6.t,oU, <-a];exact g _
  ·have c:Ax p.1<Ax x:=by
    have:=w7 c;rw[Sp.IZ]at this;exact z8.1 this
   rw[wd c]at a;exact As t x m w nx g r (i+1) p C ae A (by rw[yh];exact z) l o k a
end T126
end Go.Pe
namespace Go.Sp
theorem Cm(x:Int)(l:List Int):first (x::l)=0↔x=0/\first l=0:=by
 rw[first];by_cases h:x=0
 ·simp[h]
 ·simp[h]
theorem qK{b:Bool}{e:Int}(a:e≠0):CB b e=0↔b=false:=by
 cases b
 ·exact⟨fun _=>rfl,fun _=>rfl⟩
 ·exact⟨fun h=>wh h a,fun h=>by cases h⟩
theorem GI{a:Bm}{lo b:Int}(h:BQ a lo b=0):Ao a=0/\(lo:Rat)<=Ax a/\Ax a<=(b:Rat):=by
 unfold BQ at h;by_cases k:Ao a=0
 ·rw[wc<|by simpa using k]at h;split at h
  ·exact wh h af
  ·next d=>
   rw[not_or]at d;exact⟨k,qd.1 d.1,qd.1 d.2⟩
 ·rw[wd k]at h;exact wh h k
structure jJ(s:Bi):Prop where
 rise:Ao s.1=0
 wind:Ao s.2.1=0
 lay:Ao s.2.2.1=0
 roll:Ao s.2.2.2.1=0
 riseB:(-10000:Rat)<=Ax s.1/\Ax s.1<=10000
 windB:(-10000:Rat)<=Ax s.2.1/\Ax s.2.1<=10000
 layB:0<=Ax s.2.2.1/\Ax s.2.2.1<=10000
 rollB:0<=Ax s.2.2.2.1/\Ax s.2.2.2.1<=10000
 len:s.2.2.2.2.length<=16
 obs:∀o∈s.2.2.2.2,0<=o.2/\o.2<=10
theorem Xn:∀ {l:List EJ},mV l=0->∀o∈l,0<=o.2/\o.2<=10
 |[],_,o,a=>by cases a
 |x::l,h,o,a=>by
  unfold mV at h;split at h
  ·exact wh h af
  ·split at h
   ·exact wh h af
   ·next d=>
    rcases yn.1 a with rfl|a
    ·omega
    ·exact Xn h o a
theorem yW{s:Bi}(h:Oe s=0):jJ s:=by
 unfold Oe at h;by_cases k:VH s=0
 ·rw[wc<|by simpa using k]at h;unfold VH at k;rw[Cm,Cm,Cm,Cm,Cm]at k;obtain⟨d,b,e,c,a,_⟩:=k;rw[qK af]at a;have a:=w7 a;obtain⟨a1,a2,a3⟩:=GI d;obtain⟨b1,b2,b3⟩:=GI b;obtain⟨c1,c2,c3⟩:=GI e;obtain⟨d1,d2,d3⟩:=GI c;exact⟨a1,b1,c1,d1,⟨a2,a3⟩,⟨b2,b3⟩,⟨c2,c3⟩,⟨d2,d3⟩,by omega,Xn h⟩
 ·rw[wd k]at h;exact wh h k
theorem Tm:∀ {l:List Bi},Lf l=0->∀s∈l,Oe s=0
 |[],_,s,a=>by cases a
 |x::l,h,s,a=>by
  unfold Lf at h;by_cases k:Oe x=0
  ·rw[wc<|by simpa using k]at h;rcases yn.1 a with rfl|a
   ·exact k
   ·exact Tm h s a
  ·rw[wd k]at h;exact wh h k
theorem TN{n:Int}:∀ {l:List Bw} {seen:List Bm},GZ n seen l=0->∀t∈l,(t.2.length:Int)=n/\E9 t.2=false
 |[],_,_,t,a=>by cases a
 |x::l,seen,h,t,a=>by
  unfold GZ at h;split at h
  ·exact wh h af
  ·split at h
   ·exact wh h af
   ·split at h
    ·exact wh h af
    ·next k=>
     split at h
     ·exact wh h af
     ·next d=>
      rcases yn.1 a with rfl|a
      ·exact⟨z8.1 k,by simpa using d⟩
      ·exact TN h t a
theorem aQ{l:List Int}(h:E9 l=false):∀n∈l,1<=n/\n<=10000:=by
 intro n a;unfold E9 at h;rw[List.any_eq_false]at h;have:=h n a;rw[Bool.or_eq_true,w5,w5]at this;omega
theorem NW:∀ {l:List Be} {seen:List Bm},Nb seen l=0->∀x∈l,KU x=0
 |[],_,_,x,a=>by cases a
 |y::l,seen,h,x,a=>by
  unfold Nb at h;by_cases k:KU y=0
  ·rw[wc<|by simpa using k]at h;split at h
   ·exact wh h af
   ·rcases yn.1 a with rfl|a
    ·exact k
    ·exact NW h x a
  ·rw[wd k]at h;exact wh h k
theorem X6:∀ {l:List AZ} {seen:List Bm},YW seen l=0->(∀w∈l,Ao w.2=0/\0<=Ax w.2/\w.1∉seen)/\(l.map Prod.fst).Nodup
 |[],_,_=>⟨fun w hw=>(by cases hw),List.nodup_nil⟩
 |x::l,seen,h=>by
  unfold YW at h;split at h
  ·exact wh h af
  ·split at h
   ·exact wh h af
   ·next a=>
    have a:x.1∉seen:=by
     unfold has at a;simpa using a
    by_cases k:Ao x.2=0
    ·rw[wc<|by simpa using k]at h;split at h
     ·exact wh h af
     ·next d=>
      obtain⟨b,j⟩:=X6 h;refine⟨fun w hw=>?_,?_⟩
      ·rcases yn.1 hw with rfl|hw
       ·exact⟨k,qd.1 d,a⟩
       ·obtain⟨c,g,i⟩:=b w hw;exact⟨c,g,fun x=>i<|List.mem_cons_of_mem _ x⟩
      ·rw[List.map_cons,List.nodup_cons];refine⟨fun f=>?_,j⟩;obtain⟨w,hw,e⟩:=List.mem_map.1 f;exact(b w hw).2.2 (by rw[e];exact List.mem_cons_self ..)
    ·rw[wd k]at h;exact wh h k
structure nJ(l:Be):Prop where
 head:Ao l.2.1=0
 next:Ao l.2.2.1=0
 headB:(1:Rat)<=Ax l.2.1/\Ax l.2.1<=10000
 nextB:(1:Rat)<=Ax l.2.2.1/\Ax l.2.2.1<=10000
 SQ:BL l.2.2.2.1=0
 up:TB none l.2.2.2.1=0
 wlen:l.2.2.2.2.length<=16
 wts:∀w∈l.2.2.2.2,Ao w.2=0/\0<=Ax w.2
 one:(l.2.2.2.2.map Prod.fst).Nodup
theorem tY{l:Be}(h:KU l=0):nJ l:=by
 unfold KU at h;by_cases k:Pu l=0
 ·rw[wc<|by simpa using k]at h;by_cases u:TB none l.2.2.2.1=0
  ·rw[wc<|by simpa using u]at h;unfold Pu at k;rw[Cm,Cm,Cm,Cm]at k;obtain⟨_,c,g,f,_⟩:=k;obtain⟨a1,a2,a3⟩:=GI c;obtain⟨b1,b2,b3⟩:=GI g;unfold OB at h;split at h
   ·exact wh h af
   ·next d=>
    obtain⟨b,e⟩:=X6 h;exact⟨a1,b1,⟨a2,a3⟩,⟨b2,b3⟩,f,u,by omega,fun w a=>⟨(b w a).1,(b w a).2.1⟩,e⟩
  ·rw[wd u]at h;exact wh h u
 ·rw[wd k]at h;exact wh h k
structure Zx(c:At):Prop where
 s1:c.1≠[]/\c.1.length<=36
 t1:c.2.1≠[]/\c.2.1.length<=8
 l1:c.2.2≠[]/\c.2.2.length<=8
 st:∀s∈c.1,jJ s
 te:∀t∈c.2.1,t.2.length=c.1.length/\∀n∈t.2,1<=n/\n<=10000
 lv:∀l∈c.2.2,nJ l
theorem GV{c:At}(h:HR c=0):Zx c:=by
 unfold HR at h;split at h
 ·exact wh h af
 next a1=>
 split at h
 ·exact wh h af
 next a2=>
 split at h
 ·next k=>exact wh h k
 next a3=>
 unfold VC at h;split at h
 ·exact wh h af
 next g=>
 split at h
 ·exact wh h af
 next m=>
 split at h
 ·next k=>exact wh h k
 next a=>
 unfold S2 at h;split at h
 ·exact wh h af
 next b=>
 split at h
 ·exact wh h af
 next j=>
 have a3:Lf c.1=0:=z8.1 a3;have a:GZ (c.1.length:Int) [] c.2.1=0:=z8.1 a;refine⟨⟨a1,by omega⟩,⟨g,by omega⟩,⟨b,by omega⟩,fun s d=>yW<|Tm a3 s d,fun t e=>?_,fun l f=>tY<|NW h l f⟩;obtain⟨n,i⟩:=TN a t e;exact⟨by omega,aQ i⟩
theorem Gw{α:Type}{l:List α}{i:Nat}{d:α}(h:i<l.length):l.getD i d∈l:=by
 rw[yu,yz h];exact List.getElem_mem h
theorem DN{i n:Int}(h:HS i n=false):0<=i/\i<n:=by
 unfold HS at h;rw[Bool.or_eq_false_iff,w9,w9]at h;omega
theorem Iu{c:At}{b:Bool}(h:GD c b=0):HR c=0/\b=false:=by
 unfold GD at h;split at h
 ·next k=>exact wh h k
 ·next k=>
  split at h
  ·exact wh h af
  ·next d=>exact⟨z8.1 k,by simpa using d⟩
theorem HI{c:At}(h:Gc c=true):c.1.length<=38/\c.2.1.length<=10/\c.2.2.length<=10/\(∀s∈c.1,Bg s=true)/\(∀t∈c.2.1,BU t=true)/\(∀l∈c.2.2,Ba l=true):=by
 unfold Gc at h;rw[ze,ze,ze,ze,ze,w5,w5,w5,zn,zn,zn]at h;obtain⟨⟨⟨⟨⟨g,e⟩,a⟩,f⟩,b⟩,d⟩:=h;exact⟨g,e,a,f,b,d⟩
theorem RO{c:At}(h:iO c=true):c.1.length<=38/\c.2.1.length<=10/\c.2.2.length<=10/\(∀s∈c.1,Bg s=true)/\(∀t∈c.2.1,PD t=true)/\(∀l∈c.2.2,LN l=true):=by
 unfold iO at h;rw[ze,ze,ze,ze,ze,w5,w5,w5,zn,zn,zn]at h;obtain⟨⟨⟨⟨⟨g,e⟩,a⟩,f⟩,b⟩,d⟩:=h;exact⟨g,e,a,f,b,d⟩
theorem PY{s:Bi}(h:Bg s=true):s.1.length<=20/\s.2.1.length<=20/\s.2.2.1.length<=20/\s.2.2.2.1.length<=20/\s.2.2.2.2.length<=20:=by
 unfold Bg at h;rw[ze,ze,ze,ze,w5,w5,w5,w5,w5]at h;obtain⟨⟨⟨⟨e,b⟩,a⟩,d⟩,c⟩:=h;exact⟨e,b,a,d,c⟩
theorem Qe{l:List AZ}{n m:Nat}(h:HQ l n m=true):∀p∈l,p.1.length<=n/\p.2.length<=m:=by
 intro p hp;unfold HQ at h;rw[zn]at h;have:=h p hp;rwa [ze,w5,w5]at this
structure AaB(l:Be):Prop where
 name:l.1.length<=40
 head:l.2.1.length<=20
 next:l.2.2.1.length<=20
 tl:l.2.2.2.1.length<=70
 wl:l.2.2.2.2.length<=20
 SQ:∀p∈l.2.2.2.1,p.1.length<=20/\p.2.length<=20
 wts:∀p∈l.2.2.2.2,p.1.length<=40/\p.2.length<=20
theorem U2{l:Be}(h:Ba l=true):AaB l:=by
 unfold Ba at h;rw[ze,ze,ze,ze,ze,ze,w5,w5,w5,w5,w5]at h;obtain⟨⟨⟨⟨⟨⟨g,e⟩,a⟩,f⟩,b⟩,c⟩,d⟩:=h;exact⟨g,e,a,f,b,Qe c,Qe d⟩
theorem VV{c:At}{h:Int}(d:Zx c)(b:Gc c=true)(a:XU c h=false):jJ (BC c h)/\Bg (BC c h)=true:=by
 obtain⟨h0,e⟩:=DN a;have m:BC c h∈c.1:=Gw ae;exact⟨d.st _ m,(HI b).2.2.2.1 _ m⟩
theorem Ab5{c:At}{l:Int}(d:Zx c)(b:Gc c=true)(a:Hc c l=false):nJ (CQ c l)/\AaB (CQ c l):=by
 obtain⟨h0,e⟩:=DN a;have m:CQ c l∈c.2.2:=Gw ae;exact⟨d.lv _ m,U2<|(HI b).2.2.2.2.2 _ m⟩
theorem Aar{c:At}{t h:Int}(e:Zx c)(d:ME c t=false)(b:XU c h=false):1<=HH c t h/\HH c t h<=10000/\(c.2.1.getD t.toNat ([],[])).2.length=c.1.length:=by
 obtain⟨t0,t1⟩:=DN d;obtain⟨h0,h1⟩:=DN b;have m:c.2.1.getD t.toNat ([],[])∈c.2.1:=Gw ae;obtain⟨e1,e2⟩:=e.te _ m;have a:HH c t h∈(c.2.1.getD t.toNat ([],[])).2:=Gw ae;have:=e2 _ a;exact⟨this.1,this.2,e1⟩
structure Ajr(l:Be):Prop where
 head:l.2.1.length<=20
 next:l.2.2.1.length<=20
 tl:l.2.2.2.1.length<=70
 SQ:∀p∈l.2.2.2.1,p.1.length<=20/\p.2.length<=20
 wts:∀p∈l.2.2.2.2,p.2.length<=20
theorem Abp{l:Be}(h:LN l=true):Ajr l:=by
 unfold LN at h;rw[ze,ze,ze,ze,w5,w5,w5,zn]at h;obtain⟨⟨⟨⟨e,c⟩,a⟩,d⟩,b⟩:=h;exact⟨e,c,a,Qe d,fun p hp=>w6<|b p hp⟩
theorem AbR{l:Be}(h:Ba l=true):LN l=true:=by
 have k:=U2 h;unfold Ba at h;rw[ze,ze]at h;unfold LN;rw[w4 k.head,w4 k.next,w4 k.tl,h.1.2,zn.2 fun p hp=>w4 (k.wts p hp).2];rfl
theorem Aet{c:At}(h:Gc c=true):iO c=true:=by
 obtain⟨j,g,a,i,e,f⟩:=HI h;unfold iO;rw[w4 j,w4 g,w4 a,zn.2 i,zn.2<|fun l b=>AbR<|f l b,zn.2<|fun t d=>?_]
 ·rfl
 ·have:=e t d;unfold BU at this;rw[ze,w5,w5]at this;exact w4 ae
theorem rB(q:Rat):aG (Az q)=max (zk q.num.natAbs).length (zk q.den).length:=by
 unfold aG;rw[(F6 q).1,(Dp q.num).2.1,zV]
theorem pZ{s:Z}(h:Ao s=0):Nu (aG s) s (Ax s):=by
 obtain⟨n,_⟩:=Dv h;have e:=(GG n).1;have a:=rB<|Ax s;rw[e]at a;exact⟨e.symm,Cv _ (by rw[a];exact Nat.le_max_left ..),Cv _<|by rw[a];exact Nat.le_max_right ..⟩
theorem Bv(x:Int)(l:List Int):first (x::l)=if x≠0 then x else first l:=by
 by_cases h:x=0
 ·subst h;rw[wc (by simp),first];rfl
 ·rw[wd h,first];simp[h]
theorem Fl(b:Bool)(e:Int):CB b e=if b=true then e else 0:=by cases b<;>rfl
theorem jN{α:Type}{l r:List α}{x:α}{i:Nat}(h:l.drop i=x::r):l.take (i+1)=l.take i++[x]:=by
 have a:i<l.length:=by
  rcases Nat.lt_or_ge i l.length with b|b
  ·exact b
  ·rw[zz b]at h;cases h
 have c:=List.drop_eq_getElem_cons a;rw[h]at c;simp only[List.cons.injEq]at c;rw[List.take_add_one,yz a,c.1];rfl
end Go.Sp
namespace Go.Pe
open Sp
open Go.Det
structure RS(k:Nat)(f:Ad)(q:Rat):Prop where
 r:FH f q
 z:Cz k q
theorem RS.mono{i j:Nat}{f:Ad}{q:Rat}(h:RS i f q)(k:i<=j):RS j f q:=⟨h.r,h.z.mono k⟩
theorem RS.s{k:Nat}{f:Ad}{q:Rat}(h:RS k f q)(a:k<=4000):MK 4000 q:=Wi h.z a
theorem RS.Ce{k:Nat}{f:Ad}{q:Rat}(h:RS k f q)(a:k<=4000):Sp.Ce f=true:=h.r.Ce<|h.s a
theorem RS.BJ{k:Nat}{f:Ad}{q:Rat}(h:RS k f q)(a:k<=4000):Sp.BJ f=true:=h.r.BJ<|h.s a
theorem RS.NF{i j:Nat}{f g:Ad}{p q:Rat}(a:RS i f p)(d:RS j g q)(c:i<=4000)(b:j<=4000):(Sp.Ce f&&Sp.Ce g)=true:=Ab (a.Ce c)<|d.Ce b
theorem RS.add{i j:Nat}{f g:Ad}{p q:Rat}(a:RS i f p)(b:RS j g q)(d:i<=4000)(c:j<=4000):RS (i+j+1) (B4 f g) (p+q):=⟨FH.add a.r b.r (a.s d)<|b.s c,a.z.add b.z⟩
theorem RS.sub{i j:Nat}{f g:Ad}{p q:Rat}(a:RS i f p)(b:RS j g q)(d:i<=4000)(c:j<=4000):RS (i+j+1) (D7 f g) (p-q):=⟨FH.sub a.r b.r (a.s d)<|b.s c,a.z.sub b.z⟩
theorem RS.mul{i j:Nat}{f g:Ad}{p q:Rat}(a:RS i f p)(b:RS j g q)(d:i<=4000)(c:j<=4000):RS (i+j) (Ed f g) (p*q):=⟨FH.mul a.r b.r (a.s d)<|b.s c,a.z.mul b.z⟩
theorem RS.div{i j:Nat}{f g:Ad}{p q:Rat}(b:RS i f p)(a:RS j g q)(d:i<=4000)(c:j<=4000)(h0:q≠0):RS (i+j) (LJ f g) (p/q):=⟨FH.div b.r a.r (b.s d) (a.s c) (Wi (a.z.inv h0) c) h0,b.z.div a.z h0⟩
theorem RS.ok3{i j:Nat}{f g:Ad}{p q:Rat}(b:RS i f p)(a:RS j g q)(d:i<=4000)(c:j<=4000)(h0:q≠0):(Sp.Ce f&&Sp.Ce g&&decide (Sp.vI g.1≠0))=true:=Ab (b.NF a d c)<|a.r.JW.trans<|w4 h0
theorem RS.cmp{i j:Nat}{f g:Ad}{p q:Rat}(a:RS i f p)(b:RS j g q):DD f g=if p<q then -1 else if q<p then 1 else 0:=FH.cmp a.r b.r
theorem RS.IZ{i j:Nat}{f g:Ad}{p q:Rat}(a:RS i f p)(b:RS j g q):DD f g<=0↔p<=q:=by
 rw[a.cmp b];by_cases h:p<q
 ·rw[wd h];exact⟨fun _=>Rat.le_of_lt h,fun _=>by decide⟩
 ·rw[wc h];by_cases k:q<p
  ·rw[wd k];exact⟨fun x=>wh x af,fun x=>wh k<|qd.2 x⟩
  ·rw[wc k];exact⟨fun _=>qd.1 k,fun _=>by decide⟩
theorem RS.bS{i j:Nat}{f g:Ad}{p q:Rat}(a:RS i f p)(b:RS j g q):DD f g<0↔p<q:=by
 rw[a.cmp b];by_cases h:p<q
 ·rw[wd h];exact⟨fun _=>h,fun _=>by decide⟩
 ·rw[wc h];by_cases k:q<p
  ·rw[wd k];exact⟨fun x=>wh x af,fun x=>wh x h⟩
  ·rw[wc k];exact⟨fun x=>wh x af,fun x=>wh x h⟩
theorem RS.OE{i j:Nat}{f g:Ad}{p q:Rat}(a:RS i f p)(b:RS j g q):DD f g>0↔q<p:=by
 have h:=a.IZ b;constructor
 ·intro k;exact Rat.not_le.1 fun x=>by have:=h.2 x;omega
 ·intro k;have:¬DD f g<=0:=fun x=>Rat.not_le.2 k<|h.1 x
  omega
theorem RS.cmp_eq{i j:Nat}{f g:Ad}{p q:Rat}(a:RS i f p)(b:RS j g q):DD f g=0↔p=q:=by
 rw[a.cmp b];exact YR p q
theorem RS.Pm{k:Nat}{f:Ad}{q:Rat}(h:RS k f q):(Rl f<0↔q<0)/\(Rl f=0↔q=0):=by
 have e:Rl f=Sp.Pm q.num:=by unfold Rl;rw[h.r.vn]
 have n1:=Sp.neg_num q;rw[e];unfold Sp.Pm;constructor
 ·rw[<-n1.1];split
  ·next c=>exact⟨fun _=>c,fun _=>by decide⟩
  ·next c=>
   split
   ·exact⟨fun x=>wh x af,fun x=>wh x c⟩
   ·exact⟨fun x=>wh x af,fun x=>wh x c⟩
 ·split
  ·next c=>exact⟨fun x=>wh x af,fun x=>wh (n1.1.1 c)<|by rw[x];exact qn⟩
  ·next c=>
   split
   ·next d=>exact⟨fun x=>wh x af,fun x=>wh (n1.2.1 d)<|by rw[x];exact qn⟩
   ·next d=>exact⟨fun _=>Rat.num_eq_zero.1 ae,fun _=>rfl⟩
theorem RS.Dz{k:Nat}{f:Ad}{q:Rat}(h:RS k f q):Sp.Dz f.1=true:=h.r.n
theorem Xb{s:Z}(h:Ao s=0):RS (Sp.aG s) (CC s) (Ax s):=⟨Mx (Dv h).1,(pZ h).z⟩
theorem Er{s:Z}(h:Ao s=0){k:Nat}(b:s.length<=k)(a:1<=k):RS k (CC s) (Ax s):=⟨Mx (Dv h).1,(Ih h b a).z⟩
theorem Mb{n:Int}{k:Nat}(h:n.natAbs<10^k)(b:1<=k)(a:k<=18):RS k ((n,BA n),(1,BA 1)) (n:Rat):=by
 have hp:10^k<=10^18:=yp af a;have c:10^1<=10^k:=yp af b;have hr:Cn n=true:=by
  unfold Cn;exact ad ae ae
 refine⟨AhB n hr,?_,?_⟩
 ·rw[Rat.num_intCast];exact h
 ·rw[Rat.den_intCast];omega
theorem Gu:RS 1 ((0,BA 0),(1,BA 1)) 0:=Mb (n:=0) af af af
theorem bY{k:Nat}{f:Ad}{q:Rat}(h:RS k f q){e:Int}(a:e=0):(H8 f,EO f)=(jR e q,lQ e q):=Afc h.r a
end Go.Pe
