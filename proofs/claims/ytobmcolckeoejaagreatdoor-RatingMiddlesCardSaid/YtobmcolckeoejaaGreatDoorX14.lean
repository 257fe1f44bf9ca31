import Derived.Test.YtobmcolckeoejaaGreatDoorX13
import Derived.ChangeSame
/- A part of a proof; no law is stated here. -/
noncomputable section
set_option maxRecDepth 10000
open Go.IntKind renaming wrap -> zc, i64 -> yf
open Go.Pe.Ends renaming tt -> zd, leaf -> ze, ite -> zg, An -> zk, ff -> zo, eq -> zp
open Bool renaming and_eq_true -> zf
open Int renaming toNat_natCast -> zh, tmod -> z8, eq_ofNat_of_zero_le -> yb, mul_le_mul_of_nonneg_left -> yd, tdiv -> ye, gcd -> yk, mul_ne_zero -> yp, tmod_eq_emod_of_nonneg -> yt, natCast_nonneg -> yu, lt_of_lt_of_le -> yv, mul_ediv_cancel_left -> yx, tdiv_eq_ediv_of_dvd -> yz, le_of_lt -> y7, mul_zero -> y8, add_zero -> y9, one_mul -> qc, mul_nonneg -> qd, natAbs_mul -> qe, add_assoc -> qi, gcd_comm -> qq
open Go.Lib renaming decDigits -> zi, itoa -> yw
open Rat renaming divInt -> zj, lt_irrefl -> qj
open Go.Pe.Sh renaming list -> zl, str -> zn, bool -> zu, pair -> yr, int -> ql
open List renaming length_cons -> zm, drop_eq_nil_of_le -> zt, take_of_length_le -> zy, length_drop -> zz, getD_eq_getElem?_getD -> z6, length_append -> z7, getElem?_eq_getElem -> ya, length_take -> yj, length_map -> yq, length_eq_zero_iff -> yy, range -> qn, take -> qv
open Go.Sp renaming rW -> zq, rN -> zr, AV -> yg, B9 -> qf, vR -> qh, gI -> qp
open Go.DataW renaming trod -> zw
open Go.Pe.Ad renaming of -> zx
open Nat renaming le_refl -> yc, sub -> yh, add_sub_cancel -> yi, pow_le_pow_right -> yn, add -> qo, beq_refl -> qt, beq -> qu
open UInt8 renaming ofNat -> ym, toNat_inj -> yo
open Go.World renaming cell? -> qg
open Go.Pe.T89 renaming Ew -> qm
variable {Q:Go.Pe.PV->Go.Pe.Ob->Prop}
namespace Go.Pe
open Sp
open Go.Det
section
open List Int Prod
namespace T149
def T[Srt](a:List Int)(i:Int):Tr:=tree XR0 false 9 149<|Ag ([zl i64,ql yf]) (a,i)
theorem Ak[Srt](a:List Int)(i:Int):T a i=.di (i<(length a:Int)) (.ck (decide (0<=i)&&decide (i<(length a:Int)))<|.leaf (.dat i64<|getD a (toNat i) 0) []) (.leaf (.dat i64 (0:Int)) []):=by kernel_rfl
end T149
namespace T111
def T[Srt](a b:List Int):Tr:=tree Xk false 9 111<|Ag ([zl i64,zl i64]) (a,b)
def L1[Srt](v0 v1:List Int)(a b:Int):Tr:=re ((T [] []))<|Ay 42 [(0,.dat (zl i64) v0),(1,.dat (zl i64) v1),(5,.nil),(6,.dat i64 a),(7,.dat i64 b)] [] 0
theorem Ak[Srt](a b:List Int):T a b=L1 a b 0 0:=by kernel_rfl
def L2[Srt](v0 v1:List Int)(a:Nat)(c b:Int)(d:List Int):Tr:=re ((stepT Xk<|L1 [] [] 0 0).L.L.L.L.L.L)<|Ay 42 [(0,.dat (zl i64) v0),(1,.dat (zl i64) v1),(5,.sl 0 1 0 a none),(6,.dat i64 c),(7,.dat i64 b)] [(0,.arr false 3 i64 d)] 1
theorem Al[Srt](v0 v1:List Int)(b a:Int):stepT Xk (L1 v0 v1 b a)=.di (a<(length v0:Int)) (.cd (0<=a)<|.cd (0<=a)<|.ck true<|.ck (aa 8)<|.ck true<|L2 v0 v1 1 (zc .i64<|ye (zc .i64<|zc .i64 (Iz v0 a+Iz v1 a)+b) 1000000000) (zc .i64<|a+1)<|[z8 (zc .i64<|zc .i64 (Iz v0 a+Iz v1 a)+b) 1000000000]) (.di (a<(length v1:Int)) (.cd (0<=a)<|.cd (0<=a)<|.ck true<|.ck (aa 8)<|.ck true<|L2 v0 v1 1 (zc .i64<|ye (zc .i64<|zc .i64 (Iz v0 a+Iz v1 a)+b) 1000000000) (zc .i64<|a+1)<|[z8 (zc .i64<|zc .i64 (Iz v0 a+Iz v1 a)+b) 1000000000])<|.di (b>0) (.cd (0<=a)<|.cd (0<=a)<|.ck true<|.ck (aa 8)<|.ck true<|L2 v0 v1 1 (zc .i64<|ye (zc .i64<|zc .i64 (Iz v0 a+Iz v1 a)+b) 1000000000) (zc .i64<|a+1)<|[z8 (zc .i64<|zc .i64 (Iz v0 a+Iz v1 a)+b) 1000000000])<|.leaf .nil []):=by kernel_rfl
theorem AL[Srt](v0 v1:List Int)(b:Nat)(c a:Int)(d:List Int):stepT Xk (L2 v0 v1 b c a d)=.di (a<(length v0:Int)) (.cd (0<=a)<|.cd (0<=a)<|.ck true<|.ck (ac b (length d) 8)<|.ck true<|L2 v0 v1 (qo b 1) (zc .i64<|ye (zc .i64<|zc .i64 (Iz v0 a+Iz v1 a)+c) 1000000000) (zc .i64<|a+1)<|d++[z8 (zc .i64<|zc .i64 (Iz v0 a+Iz v1 a)+c) 1000000000]) (.di (a<(length v1:Int)) (.cd (0<=a)<|.cd (0<=a)<|.ck true<|.ck (ac b (length d) 8)<|.ck true<|L2 v0 v1 (qo b 1) (zc .i64<|ye (zc .i64<|zc .i64 (Iz v0 a+Iz v1 a)+c) 1000000000) (zc .i64<|a+1)<|d++[z8 (zc .i64<|zc .i64 (Iz v0 a+Iz v1 a)+c) 1000000000])<|.di (c>0) (.cd (0<=a)<|.cd (0<=a)<|.ck true<|.ck (ac b (length d) 8)<|.ck true<|L2 v0 v1 (qo b 1) (zc .i64<|ye (zc .i64<|zc .i64 (Iz v0 a+Iz v1 a)+c) 1000000000) (zc .i64<|a+1)<|d++[z8 (zc .i64<|zc .i64 (Iz v0 a+Iz v1 a)+c) 1000000000])<|.leaf (.sl 0 1 0 b none)<|[(0,.arr false 3 i64 d)]):=by kernel_rfl
end T111
namespace T113
def T[Srt](a b:List Int):Tr:=tree Xk false 9 113<|Ag ([zl i64,zl i64]) (a,b)
def L1[Srt](v0 v1:List Int)(a b:Int):Tr:=re ((T [] []))<|Ay 35 [(0,.dat (zl i64) v0),(1,.dat (zl i64) v1),(5,.nil),(6,.dat i64 a),(7,.dat i64 b)] [] 0
theorem Ak[Srt](a b:List Int):T a b=L1 a b 0 0:=by kernel_rfl
def L2[Srt](v0 v1:List Int)(a:Nat)(c b:Int)(d:List Int):Tr:=re ((stepT Xk<|L1 [] [] 0 0).L.L.L.L.L)<|Ay 35 [(0,.dat (zl i64) v0),(1,.dat (zl i64) v1),(5,.sl 0 1 0 a none),(6,.dat i64 c),(7,.dat i64 b)] [(0,.arr false 3 i64 d)] 1
theorem Al[Srt](v0 v1:List Int)(b a:Int):stepT Xk (L1 v0 v1 b a)=.di (a<(length v0:Int)) (.ck (decide (0<=a)&&decide (a<(length v0:Int)))<|.cd (0<=a)<|.di (zc .i64 (zc .i64 (getD v0 (toNat a) 0-Iz v1 a)-b)<0) (.ck (aa 8)<|L2 v0 v1 1 1 (zc .i64<|a+1)<|[zc .i64<|zc .i64 (zc .i64 (getD v0 (toNat a) 0-Iz v1 a)-b)+1000000000])<|.ck (aa 8)<|L2 v0 v1 1 0 (zc .i64<|a+1)<|[zc .i64<|zc .i64 (getD v0 (toNat a) 0-Iz v1 a)-b]) (.ck true<|.leaf (.dat (zl i64)<|AB []) []):=by kernel_rfl
theorem AL[Srt](v0 v1:List Int)(a:Nat)(d b:Int)(c:List Int):stepT Xk (L2 v0 v1 a d b c)=.di (b<(length v0:Int)) (.ck (decide (0<=b)&&decide (b<(length v0:Int)))<|.cd (0<=b)<|.di (zc .i64 (zc .i64 (getD v0 (toNat b) 0-Iz v1 b)-d)<0) (.ck (ac a (length c) 8)<|L2 v0 v1 (qo a 1) 1 (zc .i64<|b+1)<|c++[zc .i64<|zc .i64 (zc .i64 (getD v0 (toNat b) 0-Iz v1 b)-d)+1000000000])<|.ck (ac a (length c) 8)<|L2 v0 v1 (qo a 1) 0 (zc .i64<|b+1)<|c++[zc .i64<|zc .i64 (getD v0 (toNat b) 0-Iz v1 b)-d]) (.ck (decide (0+a<=length c)&&true&&decide (length (take a c)<=20000))<|.leaf (.dat (zl i64)<|AB<|take a c) []):=by kernel_rfl
end T113
namespace T50
def T[Srt](a b:Bool×List Int):Tr:=tree XR2 false 9 50<|Ag ([yr zu<|zl i64,yr zu<|zl i64]) (a,b)
theorem Ak[Srt](a b:Bool×List Int):T a b=.ite (fst a==fst b) (.ck (uV (snd a)<|snd b)<|.cd (length (Re (snd a)<|snd b)<=20000)<|.leaf (PV.agg [.dat zu<|CY (fst a)<|Re (snd a)<|snd b,.dat (zl i64)<|AB<|Re (snd a)<|snd b]) []) (.ck (A8 (snd a)&&A8 (snd b))<|.di (Cp (Ax<|snd a) (Ax<|snd b)>=0) (.ck (uV (snd a) (snd b)&&decide (Ax (snd b)<=Ax (snd a)))<|.cd (length (I8 (snd a)<|snd b)<=20000)<|.leaf (PV.agg [.dat zu<|CY (fst a)<|I8 (snd a)<|snd b,.dat (zl i64)<|AB<|I8 (snd a)<|snd b]) [])<|.ck (uV (snd b) (snd a)&&decide (Ax (snd a)<=Ax (snd b)))<|.cd (length (I8 (snd b)<|snd a)<=20000)<|.leaf (PV.agg [.dat zu<|CY (fst b)<|I8 (snd b)<|snd a,.dat (zl i64)<|AB<|I8 (snd b)<|snd a]) []):=by kernel_rfl
end T50
namespace T51
def T[Srt](a b:Bool×List Int):Tr:=tree XR2 false 9 51<|Ag ([yr zu<|zl i64,yr zu<|zl i64]) (a,b)
theorem Ak[Srt](a b:Bool×List Int):T a b=.ck (Sp.hR (snd a)&&Sp.hR (snd b)) (.cd (length (B7<|Ax (snd a)*Ax (snd b))<=20000)<|.leaf (PV.agg [.dat zu<|CY (!fst a==fst b)<|B7<|Ax (snd a)*Ax (snd b),.dat (zl i64)<|AB<|B7<|Ax (snd a)*Ax (snd b)]) []):=by kernel_rfl
end T51
namespace T108
def T[Srt](a:Bool×List Int):Tr:=tree XR2 false 9 108<|Ag ([yr zu<|zl i64]) a
theorem Ak[Srt](a:Bool×List Int):T a=.cd (length (snd a)<=20000) (.leaf (PV.agg [.dat zu<|CY (!fst a)<|snd a,.dat (zl i64)<|AB<|snd a]) []):=by kernel_rfl
end T108
namespace T98
def T[Srt](a:Bool×List Int):Tr:=tree XR3 false 9 98<|Ag ([yr zu<|zl i64]) a
def L1[Srt](v3:Rd)(v4:Int)(b:Bool)(a:List Int):Tr:=re ((T (false,[])).R.L.L)<|Ay 39 [(1,.ptr 0 0),(3,.dat zn v3),(4,.dat i64 v4)] [(0,.box [.dat zu b,.dat (zl i64) a])] 1
theorem Ak[Srt](a:Bool×List Int):T a=.ite ((↑(length<|snd a):Int)==0) (.leaf (.dat zn [(48:UInt8)]) []) (.ck (decide (0<=zc .i64 ((↑(length<|snd a):Int)-1))&&decide (zc .i64 ((↑(length<|snd a):Int)-1)<(↑(length<|snd a):Int)))<|.ck (decide (0<=getD (snd a) (toNat<|zc .i64<|(↑(length<|snd a):Int)-1) 0)&&decide (getD (snd a) (toNat<|zc .i64<|(↑(length<|snd a):Int)-1) 0<9223372036854775808)&&decide (0<=1)&&decide (1<=20))<|L1 (I2 (getD (snd a) (toNat<|zc .i64<|(↑(length<|snd a):Int)-1) 0) 1) (zc .i64<|(↑(length<|snd a):Int)-2) (fst a)<|snd a):=by kernel_rfl
theorem Al[Srt](v3:Rd)(v4:Int)(b:Bool)(a:List Int):stepT XR3 (L1 v3 v4 b a)=.di (v4>=0) (.ck (decide (0<=v4)&&decide (v4<(length a:Int)))<|.ck (decide (0<=getD a (toNat v4) 0)&&decide (getD a (toNat v4) 0<9223372036854775808)&&decide (0<=9)&&decide (9<=20))<|.cd (length v3+length (I2 (getD a (toNat v4) 0) 9)<=4611686018427387904)<|L1 (v3++I2 (getD a (toNat v4) 0) 9) (zc .i64<|v4-1) b a) (.ite b (.cd (1+length v3<=4611686018427387904)<|.leaf (.dat zn<|[(45:UInt8)]++v3) [])<|.leaf (.dat zn v3) []):=by kernel_rfl
end T98
namespace T49
def T[Srt](a b:Bool×List Int):Tr:=tree uY false 9 49<|Ag ([yr zu<|zl i64,yr zu<|zl i64]) (a,b)
def L1[Srt](o1:Bool)(a:List Int)(c:Bool)(b:List Int):Tr:=re ((T (false,[]) (false,[])).L.L.L)<|Ay 57 [(2,.ptr 0 0),(3,.ptr 1 0)] [(1,.box [.dat zu o1,.dat (zl i64) a]),(0,.box [.dat zu c,.dat (zl i64) b])] 2
theorem Ak[Srt](a b:Bool×List Int):T a b=.ite (fst b) (.ck (C0 a)<|.ck (C0 b)<|L1 (UU b) (UE b) (UU a)<|UE a) (L1 (fst b) (snd b) (fst a)<|snd a):=by kernel_rfl
def L2[Srt](b:List Int)(a:Rd):Tr:=re ((stepT uY<|L1 false [] false []).L.L.L.L.L)<|Ay 57 [(8,.dat (zl i64) b),(10,.dat zn a)] [] 0
theorem Al[Srt](o1:Bool)(b:List Int)(c:Bool)(a:List Int):stepT uY (L1 o1 b c a)=.ck (A8 a&&A8 b&&decide (length a<=9000)&&decide (length b<=9000)) (.ck (A8 a&&A8 (Cs a b)&&decide (length a<=9000)&&decide (length (Cs a b)<=9000)&&decide (0<Ax (Cs a b)))<|.ck (A8 b&&A8 (Cs a b)&&decide (length b<=9000)&&decide (length (Cs a b)<=9000)&&decide (0<Ax (Cs a b)))<|.cd (length (B7<|Ax a/Ax (Cs a b))<=20000)<|.ck (C0 (CY c<|B7<|Ax a/Ax (Cs a b),AB<|B7<|Ax a/Ax (Cs a b)))<|L2 (B7<|Ax b/Ax (Cs a b))<|Is (CY c<|B7<|Ax a/Ax (Cs a b),AB<|B7<|Ax a/Ax (Cs a b))):=by kernel_rfl
def L3[Srt](b:List Int)(a:Rd):Tr:=re ((stepT uY<|L2 [] []).L.L.R)<|Ay 57 [(8,.dat (zl i64) b),(10,.dat zn a)] [] 0
theorem AL[Srt](b:List Int)(a:Rd):stepT uY (L2 b a)=.ite ((length b:Int)==1) (.cd (0<(length b:Int))<|.ite (getD b 0 0==1) (.leaf (.dat zn a) [])<|L3 b a) (L3 b a):=by kernel_rfl
theorem BT[Srt](b:List Int)(a:Rd):stepT uY (L3 b a)=.cd (length a+1<=4611686018427387904) (.cd (length b<=20000)<|.ck (C0 (CY false b,AB b))<|.cd (length (a++[(47:UInt8)])+length (Is (CY false b,AB b))<=4611686018427387904)<|.leaf (.dat zn<|a++[(47:UInt8)]++Is (CY false b,AB b)) []):=by kernel_rfl
end T49
namespace T47
def T[Srt](n d:Int):Tr:=tree iO false 9 47<|Ag ([ql yf,ql yf]) (n,d)
def L1[Srt](v0 v1:Int):Tr:=re ((T 0 0).R.R.R.R)<|Ay 61 [(0,.dat i64 v0),(1,.dat i64 v1)] [] 0
theorem Ak[Srt](n d:Int):T n d=.di (n<(-4000000000000000000)) (.ck (Cv n)<|.ck (Cv d)<|.ck (C0 (zr n,zq n)&&C0 (zr d,zq d)&&decide (qh (zr d,zq d)≠0))<|.leaf (.dat zn<|Jf (zr n,zq n) (zr d,zq d)) []) (.di (n>4000000000000000000) (.ck (Cv n)<|.ck (Cv d)<|.ck (C0 (zr n,zq n)&&C0 (zr d,zq d)&&decide (qh (zr d,zq d)≠0))<|.leaf (.dat zn<|Jf (zr n,zq n) (zr d,zq d)) [])<|.di (d<(-4000000000000000000)) (.ck (Cv n)<|.ck (Cv d)<|.ck (C0 (zr n,zq n)&&C0 (zr d,zq d)&&decide (qh (zr d,zq d)≠0))<|.leaf (.dat zn<|Jf (zr n,zq n) (zr d,zq d)) [])<|.di (d>4000000000000000000) (.ck (Cv n)<|.ck (Cv d)<|.ck (C0 (zr n,zq n)&&C0 (zr d,zq d)&&decide (qh (zr d,zq d)≠0))<|.leaf (.dat zn<|Jf (zr n,zq n) (zr d,zq d)) [])<|L1 n d):=by kernel_rfl
def L2[Srt](v0 v1:Int):Tr:=re ((stepT iO<|L1 0 0).L)<|Ay 61 [(0,.dat i64 v0),(1,.dat i64 v1)] [] 0
theorem Al[Srt](v0 v1:Int):stepT iO (L1 v0 v1)=.di (v1<0) (L2 (zc .i64<|0-v0)<|zc .i64<|0-v1) (L2 v0 v1):=by kernel_rfl
def L3[Srt](v0 v1:Int):Tr:=re ((stepT iO<|L2 0 0).L.L.L)<|Ay 61 [(0,.dat i64 v0),(1,.dat i64 v1)] [] 0
theorem AL[Srt](v0 v1:Int):stepT iO (L2 v0 v1)=.ck (Ae5 (imax v0<|zc .i64<|0-v0) v1) (.cd (qp (imax v0<|zc .i64<|0-v0) v1≠0)<|.cd (qp (imax v0<|zc .i64<|0-v0) v1≠0)<|L3 (zc .i64<|ye v0<|qp (imax v0<|zc .i64<|0-v0) v1)<|zc .i64<|ye v1<|qp (imax v0<|zc .i64<|0-v0) v1):=by kernel_rfl
def L4[Srt](v1:Int)(a:Rd):Tr:=re ((stepT iO<|L3 0 0).L.L.L)<|Ay 61 [(1,.dat i64 v1),(6,.dat zn a)] [] 0
theorem BT[Srt](v0 v1:Int):stepT iO (L3 v0 v1)=.di (v0<0) (.ck (decide (0<=imax v0 (zc .i64<|0-v0))&&decide (imax v0 (zc .i64<|0-v0)<9223372036854775808)&&decide (0<=1)&&decide (1<=20))<|.cd (1+length (I2 (imax v0<|zc .i64<|0-v0) 1)<=4611686018427387904)<|L4 v1<|[(45:UInt8)]++I2 (imax v0<|zc .i64<|0-v0) 1) (.ck (decide (0<=imax v0 (zc .i64<|0-v0))&&decide (imax v0 (zc .i64<|0-v0)<9223372036854775808)&&decide (0<=1)&&decide (1<=20))<|.cd (0+length (I2 (imax v0<|zc .i64<|0-v0) 1)<=4611686018427387904)<|L4 v1<|[]++I2 (imax v0<|zc .i64<|0-v0) 1):=by kernel_rfl
theorem BU[Srt](v1:Int)(a:Rd):stepT iO (L4 v1 a)=.di (v1>1) (.cd (length a+1<=4611686018427387904)<|.ck (decide (0<=v1)&&decide (v1<9223372036854775808)&&decide (0<=1)&&decide (1<=20))<|.cd (length (a++[(47:UInt8)])+length (I2 v1 1)<=4611686018427387904)<|.leaf (.dat zn<|a++[(47:UInt8)]++I2 v1 1) []) (.leaf (.dat zn a) []):=by kernel_rfl
end T47
namespace T105
def T[Srt](a b:Int):Tr:=tree Oz false 9 105<|Ag ([ql yf,ql yf]) (a,b)
def L1[Srt](v0 v1:Int):Tr:=re ((T 0 0))<|Ay 12 [(0,.dat i64 v0),(1,.dat i64 v1)] [] 0
theorem Ak[Srt](a b:Int):T a b=L1 a b:=by kernel_rfl
theorem Al[Srt](v0 v1:Int):stepT Oz (L1 v0 v1)=.di (v1>0) (.cd (v1≠0)<|L1 v1<|z8 v0 v1) (.leaf (.dat i64 v0) []):=by kernel_rfl
end T105
namespace T44
def T[Srt](s:Rd):Tr:=tree Oz false 9 44<|Ag ([zn]) s
theorem Ak[Srt](s:Rd):T s=let a:Tr:=.leaf (.dat i64 (1:Int)) [];.ite (s==[(48:UInt8)]) (.leaf (.dat i64 (0:Int)) []) (.di ((length s:Int)>0) (.cd (0<(length s:Int))<|.ite ((↑(UInt8.toNat<|getD s 0 (0:UInt8)):Int)==45) (.leaf (.dat i64 (-1:Int)) []) a) a):=by kernel_rfl
end T44
namespace T103
def T[Srt](s:Rd):Tr:=tree XO2 false 9 103<|Ag ([zn]) s
theorem Ak[Srt](s:Rd):T s=let a:=decide (length s<=1000000);.ck a (.di (Ha s<0) (.ck (decide (1<=length s)&&decide (length s<=length s))<|.leaf (.dat zn<|take (yh (length s) 1)<|drop 1 s) [])<|.ck a<|.ite (Ha s==0) (.leaf (.dat zn s) [])<|.cd (1+length s<=4611686018427387904)<|.leaf (.dat zn<|[(45:UInt8)]++s) []):=by kernel_rfl
end T103
namespace T106
def T[Srt](n l:Int):Tr:=tree Oz false 9 106<|Ag ([ql yf,ql yf]) (n,l)
def L1[Srt](v0 v1:Int)(v5:Rd):Tr:=re ((T 0 0))<|Ay 25 [(0,.dat i64 v0),(1,.dat i64 v1),(5,.dat zn v5)] [] 0
theorem Ak[Srt](n l:Int):T n l=L1 n l []:=by kernel_rfl
theorem Al[Srt](v0 v1:Int)(v5:Rd):stepT Oz (L1 v0 v1 v5)=let a:=zc .i64<|z8 v0 10+1;let b:=toNat<|z8 v0 10;let b':=drop b [(48:UInt8),49,50,51,52,53,54,55,56,57];let c:Tr:=.ck true<|.ck true<|.ck (decide (0<=z8 v0 10)&&decide (0<=zc .i64 (z8 v0 10+1))&&decide (toNat (z8 v0 10)<=toNat a)&&decide (toNat a<=10))<|.cd (length (take (yh (toNat a) b) b')+length v5<=4611686018427387904)<|.ck true<|L1 (zc .i64<|ye v0 10) v1<|take (yh (toNat a) b) b'++v5;.di (v0>0) c (.di ((length v5:Int)<v1) c<|.leaf (.dat zn v5) []):=by kernel_rfl
end T106
namespace T46
def T[Srt](s:Rd):Tr:=tree OO false 9 46<|Ag ([zn]) s
def L1[Srt](v5:Rd)(a:Bool):Tr:=re ((T []).R.L.L)<|Ay 54 [(5,.dat zn v5),(6,.dat zu a)] [] 0
def L2[Srt](v5:Rd):Tr:=re ((T []).R.R)<|Ay 54 [(5,.dat zn v5),(6,.bl false)] [] 0
theorem Ak[Srt](s:Rd):T s=let a:=(length s:Int);.di (a>20) (.leaf (.tup [.dat i64 (0:Int),.dat i64 (0:Int),.bl false]) []) (.di (a>0) (.cd (0<a)<|L1 s<|(↑(UInt8.toNat<|getD s 0 (0:UInt8)):Int)==45)<|L2 s):=by kernel_rfl
def L3[Srt](v5:Rd)(a:Bool):Tr:=re ((stepT OO<|L1 [] false).L.L)<|Ay 54 [(5,.dat zn v5),(6,.dat zu a)] [] 0
theorem Al[Srt](v5:Rd)(a:Bool):stepT OO (L1 v5 a)=.ite a (.ck (decide (1<=length v5)&&decide (length v5<=length v5))<|L3 (take (yh (length v5) 1)<|drop 1 v5) a) (L3 v5 a):=by kernel_rfl
def L4[Srt](v5:Rd):Tr:=re ((stepT OO<|L2 []))<|Ay 54 [(5,.dat zn v5),(6,.bl false)] [] 0
theorem AL[Srt](v5:Rd):stepT OO (L2 v5)=L4 v5:=by kernel_rfl
def L5[Srt](v5:Rd)(b:Bool)(c a v9:Int):Tr:=re ((stepT OO<|L3 [] false).L.R.R.L.L)<|Ay 54 [(5,.dat zn v5),(6,.dat zu b),(7,.dat i64 c),(8,.dat i64 a),(9,.dat i64 v9)] [] 0
theorem BT[Srt](v5:Rd)(b:Bool):stepT OO (L3 v5 b)=let a:Tr:=.leaf (.tup [.dat i64 (0:Int),.dat i64 (0:Int),.bl false]) [];let b':=A4 v5;.cd (length v5<=1000000) (.di (A4 v5>9) a<|.di (zc .i64 ((length v5:Int)-A4 v5)>10) a<|.ck (decide (0<=A4 v5)&&decide (0<=toNat b')&&decide (toNat b'<=length v5))<|.ck (DU<|take (toNat b') v5)<|L5 v5 b b' (BO<|take (toNat b') v5) 1):=by kernel_rfl
def L6[Srt](v5:Rd)(b a v9:Int):Tr:=re ((stepT OO<|L4 []).L.R.R.L.L)<|Ay 54 [(5,.dat zn v5),(6,.bl false),(7,.dat i64 b),(8,.dat i64 a),(9,.dat i64 v9)] [] 0
theorem BU[Srt](v5:Rd):stepT OO (L4 v5)=let a:Tr:=.leaf (.tup [.dat i64 (0:Int),.dat i64 (0:Int),.bl false]) [];let b':=A4 v5;.cd (length v5<=1000000) (.di (A4 v5>9) a<|.di (zc .i64 ((length v5:Int)-A4 v5)>10) a<|.ck (decide (0<=A4 v5)&&decide (0<=toNat b')&&decide (toNat b'<=length v5))<|.ck (DU<|take (toNat b') v5)<|L6 v5 b' (BO<|take (toNat b') v5) 1):=by kernel_rfl
def L7[Srt](b:Bool)(a v9:Int):Tr:=re ((stepT OO<|L5 [] false 0 0 0).L.L.L)<|Ay 54 [(6,.dat zu b),(8,.dat i64 a),(9,.dat i64 v9)] [] 0
theorem Fi[Srt](v5:Rd)(c:Bool)(a b v9:Int):stepT OO (L5 v5 c a b v9)=let b':=zc .i64<|a+1;let d:=take (yh (length v5)<|toNat b')<|drop (toNat b') v5;.di (a<(length v5:Int)) (.ck (decide (0<=zc .i64 (a+1))&&true&&decide (toNat b'<=length v5)&&decide (length v5<=length v5))<|.ck (DU d)<|L7 c b<|BO d) (L7 c b v9):=by kernel_rfl
def L8[Srt](a v9:Int):Tr:=re ((stepT OO<|L6 [] 0 0 0).L.L.L)<|Ay 54 [(6,.bl false),(8,.dat i64 a),(9,.dat i64 v9)] [] 0
theorem GG[Srt](v5:Rd)(a b v9:Int):stepT OO (L6 v5 a b v9)=let b':=zc .i64<|a+1;let c:=take (yh (length v5)<|toNat b')<|drop (toNat b') v5;.di (a<(length v5:Int)) (.ck (decide (0<=zc .i64 (a+1))&&true&&decide (toNat b'<=length v5)&&decide (length v5<=length v5))<|.ck (DU c)<|L8 b<|BO c) (L8 b v9):=by kernel_rfl
theorem GQ[Srt](b:Bool)(a v9:Int):stepT OO (L7 b a v9)=.ite b (.leaf (.tup [.dat i64<|zc .i64<|0-a,.dat i64 v9,.bl true]) []) (.leaf (.tup [.dat i64 a,.dat i64 v9,.bl true]) []):=by kernel_rfl
theorem Kg[Srt](a v9:Int):stepT OO (L8 a v9)=.leaf (.tup [.dat i64 a,.dat i64 v9,.bl true]) []:=by kernel_rfl
end T46
namespace T41
def T[Srt](a:Rd):Tr:=tree Oz false 9 41<|Ag ([zn]) a
theorem Ak[Srt](a:Rd):T a=let b:Tr:=.ck (decide (1<=length a)&&decide (length a<=length a))<|.leaf (.dat zn<|take (yh (length a) 1)<|drop 1 a) [];let b':Tr:=.ite false b<|.leaf (.dat zn a) [];.ite (a==[(48:UInt8)]) b' (.di ((length a:Int)>0) (.cd (0<(length a:Int))<|.ite ((↑(UInt8.toNat<|getD a 0 (0:UInt8)):Int)==45) (.ite true b<|.leaf (.dat zn a) []) b') b'):=by kernel_rfl
end T41
namespace T42
def T[Srt](a:Rd):Tr:=tree XM5 false 9 42<|Ag ([zn]) a
theorem Ak[Srt](a:Rd):T a=.cd (length a<=1000000) (.ck (decide (0<=A4 a)&&decide (0<=toNat (A4 a))&&decide (toNat (A4 a)<=length a))<|.leaf (.dat zn<|take (toNat<|A4 a) a) []):=by kernel_rfl
end T42
namespace T43
def T[Srt](a:Rd):Tr:=tree XM5 false 9 43<|Ag ([zn]) a
theorem Ak[Srt](a:Rd):T a=let b:=zc .i64<|A4 a+1;.cd (length a<=1000000) (.ite (A4 a==(length a:Int)) (.leaf (.dat zn [(49:UInt8)]) [])<|.ck (decide (0<=zc .i64 (A4 a+1))&&true&&decide (toNat b<=length a)&&decide (length a<=length a))<|.leaf (.dat zn<|take (yh (length a)<|toNat b)<|drop (toNat b) a) []):=by kernel_rfl
end T43
namespace T13
def T[Srt](a:Rd)(n:Int):Tr:=tree XM3 false 9 13<|Ag ([zn,ql yf]) (a,n)
theorem Ak[Srt](a:Rd)(n:Int):T a n=let b:=decide (length a<=1000000);let b':Tr:=.leaf (.bl false) [];.di ((length a:Int)<=zc .i64 (zc .i64 (2*n)+2)) (.ck b<|.ite (Av a==0) (.ck b<|.cd (length (AF a)<=1000000)<|.di ((↑(length<|A2<|AF a):Int)<=n) (.ck b<|.leaf (.dat zu<|decide ((↑(length<|Mv a):Int)<=n)) []) b') b') b':=by kernel_rfl
end T13
end
theorem cK[Srt]:CL XM5:=Aa T100.ok AI
theorem T41.ok[Srt]:Af A5 41 Zk:=by
 refine BG EL<|fun(a:Rd) i=>?_;have i:a.length<=1000000:=w6 i;have b:∀s ob,s=A2 a->Ad Zk a (.dat .str s) ob:=fun s ob h=>zx rfl rfl h
 refine zp (T41.Ak a)<|zg (fun c=>zo rfl (ze<|b _ _ ?_))<|fun c=>?_
 ·have c:a=[48]:=by simpa using c
  subst c;rfl
 ·cases a with
  |nil=>exact zo rfl (zo rfl (ze<|b _ _ rfl))
  |cons x r=>
   have g:(x::r).getD 0 0=x:=rfl;have e:(List.drop 1 (x::r)).take (yh (x::r).length 1)=r:=by show r.take ((r.length+1)-1)=r;rw[yi];exact List.take_length
   rw[g,e];refine zd (by simp) (zd (by simp) (zg (fun d=>zd rfl (zd (by simp)<|ze<|b _ _ ?_))<|fun d=>zo rfl (ze<|b _ _ ?_)))
   ·have f:x=45:=by
     have:(x.toNat:Int)=45:=by simpa using d
     exact yo.1 (by show _=45;omega)
    unfold A2;rw[g,wd f];rfl
   ·have f:x≠45:=by rintro rfl;exact wh d af
    unfold A2;rw[g,wc f]
theorem T42.ok[Srt]:Af A5 42 kR:=by
 refine BG cK<|fun(a:Rd) hl=>?_;have b:=(qm a).1;refine zp (T42.Ak a)<|zd hl ?_;rw[show A4 a=((AF a).length:Int)from rfl,zh];exact zd (by simp;omega)<|ze<|zx rfl rfl (BQ a).1.symm
theorem T43.ok[Srt]:Af A5 43 Z2:=by
 refine BG cK<|fun(a:Rd) hl=>?_;have g:a.length<=1000000:=w6 hl;obtain⟨l,f,i⟩:=BQ a;have c:∀s ob,s=Mv a->Ad Z2 a (.dat .str s) ob:=fun s ob h=>zx rfl rfl h
 have d:=(qm a).1;have es:A4 a=((AF a).length:Int):=rfl;refine zp (T43.Ak a)<|zd hl ?_;rw[es];cases b:BF a with
 |false=>
  refine zd (by rw[(i b).1];simp)<|ze<|c _ _ ?_;unfold Mv;rw[b];rfl
 |true=>
  obtain⟨m,k⟩:=f b;have e:zc .i64 (((AF a).length:Int)+1)=(((AF a).length+1:Nat):Int):=by rw[wr _ ae ae];omega
  have j:(a.drop<|(AF a).length+1).take (yh a.length<|(AF a).length+1)=a.drop ((AF a).length+1):=zy (by rw[zz];exact yc _);rw[e,zh,j];refine zo (by simp;omega) (zd (by simp;omega)<|ze<|c _ _ ?_);unfold Mv;rw[b,k];rfl
theorem xW[Srt]:CL XM3:=Aa T40.ok<|Aa T41.ok<|Aa T42.ok<|Aa T43.ok AI
theorem T13.ok[Srt]:Af A5 13 cP:=by
 refine BG xW<|fun(i:Rd×Int) g=>?_;obtain⟨a,n⟩:=i;have g:(decide (0<=n)&&decide (n<=1000))=true:=g;rw[zf,w5,w5]at g;obtain⟨h0,h1⟩:=g;have f:∀v b ob,v=.bl b\/v=.dat .bool b->b=Eb a n->Ad cP (a,n) v ob:=by
  rintro v b ob (rfl|rfl) j
  ·exact zx rfl rfl j
  ·exact zx rfl rfl j
 have l:zc .i64 (zc .i64 (2*n)+2)=2*n+2:=by rw[wr (2*n) ae ae];exact wr _ ae ae
 have k:=(qm a).1;refine zp (T13.Ak a n) ?_;conv=>zeta
 rw[l];by_cases h:a.length<=1000000
 case neg=>
  have c:decide ((a.length:Int)<=2*n+2)=false:=w8 ae;refine zo c<|ze<|f _ _ _ (.inl rfl) ?_;unfold Eb;rw[c];rfl
 refine zg (fun c=>zd (w4 h)<|zg (fun d=>zd (w4 h)<|zd (w4 ae)<|zg (fun e=>zd (w4 h)<|ze<|f _ _ _ (.inr rfl) ?_)<|fun e=>ze<|f _ _ _ (.inl rfl) ?_)<|fun d=>ze<|f _ _ _ (.inl rfl) ?_)<|fun c=>ze<|f _ _ _ (.inl rfl) ?_
 ·have d:Av a=0:=by simpa using d
  unfold Eb;rw[c,e,w4 d];rfl
 ·unfold Eb;rw[e];simp
 ·have d:Av a≠0:=by simpa using d
  unfold Eb;rw[w8 d];simp
 ·unfold Eb;rw[c];rfl
namespace T105
theorem Ar[Srt](g:Nat)(b:∀ob,Q (.dat i64 (g:Int)) ob):∀(f x y:Nat),y<f->Nat.gcd x y=g->Ends Oz (L1 (x:Int) (y:Int)) Q
 |0,x,y,h,_=>by omega
 |f+1,x,y,d,a=>by
  refine zk (Al ..) ?_;conv=>zeta
  by_cases h0:y=0
  ·subst h0;rw[Nat.gcd_zero_right]at a;subst a;exact zo rfl (ze<|b _)
  ·have e:z8 (x:Int) (y:Int)=((x % y:Nat):Int):=by rw[yt<|yu x];rfl
   rw[e];have c:x % y<y:=Nat.mod_lt _ ae;exact zd (by simp;omega) (zd (by simp;omega)<|Ar g b f y (x % y) ae (by rw[Nat.gcd_comm, <-Nat.gcd_rec,Nat.gcd_comm];exact a))
theorem ok[Srt]:Af A5 105 Ab2:=by
 refine BG EL<|fun(i:Int×Int) c=>?_;obtain⟨a,b⟩:=i;have c:(decide (0<=a)&&decide (a<9223372036854775808)&&decide (0<=b)&&decide (b<9223372036854775808))=true:=c;rw[zf,zf,zf,w5,w5,w5,w5]at c;obtain⟨⟨⟨a0,_⟩,b0⟩,_⟩:=c;obtain⟨x,rfl⟩:=yb a0;obtain⟨y,rfl⟩:=yb b0;refine zp (Ak x y)<|Ar (Nat.gcd x y) (fun ob=>zx rfl rfl ?_) (y+1) x y (Nat.lt_succ_self _) rfl;show((Nat.gcd x y:Nat):Int)=qp (x:Int) (y:Int);rw[Gk];rfl
end T105
namespace T44
theorem ok[Srt]:Af A5 44 S2:=by
 refine BG EL<|fun(s:Rd) hl=>?_;have a:∀v ob,v=Ha s->Ad S2 s (.dat i64 v) ob:=fun v ob f=>zx rfl rfl f
 refine zp (Ak s)<|zg (fun c=>ze<|a _ _ ?_)<|fun c=>?_
 ·have c:s=[48]:=by simpa using c
  unfold Ha;rw[wd c]
 ·have c:¬s=[48]:=by simpa using c
  cases s with
  |nil=>exact zo rfl (ze<|a _ _ rfl)
  |cons x r=>
   have e:(x::r).getD 0 0=x:=rfl;rw[e];refine zd (by simp) (zd (by simp)<|zg (fun d=>ze<|a _ _ ?_)<|fun d=>ze<|a _ _ ?_)
   ·have b:x=45:=by
     have:(x.toNat:Int)=45:=by simpa using d
     exact yo.1 (by show _=45;omega)
    unfold Ha;rw[wc c,e,wd b]
   ·have b:x≠45:=by rintro rfl;exact wh d af
    unfold Ha;rw[wc c,e,wc b]
end T44
theorem vK[Srt]:CL XO2:=Aa T44.ok AI
theorem T103.ok[Srt]:Af A5 103 rI:=by
 refine BG vK<|fun(s:Rd) b=>?_;have b:s.length<=1000000:=w6 b;have a:∀v ob,v=Md s->Ad rI s (.dat .str v) ob:=fun v ob f=>zx rfl rfl f
 refine zp (T103.Ak s)<|zd (w4 b) ?_;unfold Md at a;unfold Ha;by_cases c:s=[48]
 ·rw[wd c];rw[wd c]at a;exact zo rfl (zd (w4 b)<|zd rfl (ze<|a _ _ rfl))
 ·rw[wc c];rw[wc c]at a;by_cases d:s.getD 0 0=45
  ·rw[wd d];rw[wd d]at a;have e:s≠[]:=by rintro rfl;exact wh d af
   have hp:1<=s.length:=List.length_pos_iff.2 e;refine zd rfl (zd (by simp;omega)<|ze<|a _ _ ?_);exact zy (by rw[zz];exact yc _)
  ·rw[wc d];rw[wc d]at a;exact zo rfl (zd (w4 b)<|zo rfl (zd (by simp;omega)<|ze<|a _ _ rfl))
namespace T106
theorem dM:∀k:Fin 10,qv (yh (k.1+1) k.1) (List.drop k.1 [(48:UInt8),49,50,51,52,53,54,55,56,57])=[ym<|48+k.1]:=af
theorem Ar[Srt]{Q:PV->Ob->Prop}(l:Nat)(s:l<=20):∀(f n:Nat) (a:Rd),n<9223372036854775808->n<10^f->l<=a.length+f->a.length+f<=64->(∀ob,Q (.dat .str<|Ig (f+1) n l a) ob)->Ends Oz (L1 (n:Int) (l:Int) a) Q:=by
 intro f;induction f with
 |zero=>
  intro n a o e g i b;have h0:n=0:=by rw[Nat.pow_zero]at e;omega
  subst h0;unfold Ig at b;rw[wd ⟨rfl,by omega⟩]at b;exact zk (Al ..) (zo rfl (zo (by simp;omega)<|ze<|b _))
 |succ f k=>
  intro n a o e g i b;have q:z8 (n:Int) 10=((n % 10:Nat):Int):=by rw[yt<|yu n];rfl
  have m:zc .i64 (((n % 10:Nat):Int)+1)=((n % 10+1:Nat):Int):=by rw[wr _ ae ae];omega
  have p:zc .i64 (ye (n:Int) 10)=((n/10:Nat):Int):=by rw[Int.tdiv_eq_ediv_of_nonneg<|yu n,wr _ ae ae];rfl
  have d:=dM ⟨n % 10,Nat.mod_lt _ af⟩;have d:qv (yh (n % 10+1)<|n % 10) (List.drop (n % 10) [(48:UInt8),49,50,51,52,53,54,55,56,57])=[ym<|48+n % 10]:=d;have t:n % 10<10:=Nat.mod_lt _ af;rw[Nat.pow_succ]at e;refine zk (Al ..) ?_;conv=>zeta
  rw[q,m,p,zh,zh,d];by_cases j:n=0/\l<=a.length
  ·obtain⟨r,z2⟩:=j;subst r;unfold Ig at b;rw[wd ⟨rfl,z2⟩]at b;exact zo rfl (zo (by simp;omega)<|ze<|b _)
  ·have h:∀ob,Q (.dat .str<|Ig (f+1) (n/10) l (ym (48+n % 10)::a)) ob:=by
    intro ob;have:=b ob;unfold Ig at this;rw[wc j]at this;exact this
   have go:Ends Oz (L1 ((n/10:Nat):Int) (l:Int)<|[ym<|48+n % 10]++a) Q:=k (n/10) (ym (48+n % 10)::a) ae ae (by rw[zm];omega) (by rw[zm];omega) h;refine zg (fun _=>?_)<|fun c=>zd ?_ ?_
   ·exact zd rfl (zd rfl (zd (by simp;omega)<|zd (by simp;omega)<|zd rfl go))
   ·have c:=w7 c;exact w4 ae
   ·exact zd rfl (zd rfl (zd (by simp;omega)<|zd (by simp;omega)<|zd rfl go))
theorem ok[Srt]:Af A5 106 PT:=by
 refine BG EL<|fun(i:Int×Int) c=>?_;obtain⟨a,b⟩:=i;have c:(decide (0<=a)&&decide (a<9223372036854775808)&&decide (0<=b)&&decide (b<=20))=true:=c;rw[zf,zf,zf,w5,w5,w5,w5]at c;obtain⟨⟨⟨a0,a1⟩,b0⟩,b1⟩:=c;obtain⟨x,rfl⟩:=yb a0;obtain⟨y,rfl⟩:=yb b0;refine zp (Ak x y) (Ar y ae 63 x [] ae ae (by show y<=0+63;omega) af<|fun ob=>zx rfl rfl ?_);show Ig 64 x y []=Ig 64 (x:Int).toNat (y:Int).toNat [];rw[zh,zh]
end T106
theorem AaX[Srt]:CL OO:=Aa T104.ok<|Aa T100.ok AI
namespace T46
theorem Ct[Srt](neg:Bool)(n d:Int)(h0:0<=n)(b:n<1000000000)(a:∀ob,Q (.tup [.dat i64<|if neg=true then -n else n,.dat i64 d,.bl true]) ob):Ends OO (L7 neg n d) Q:=by
 refine zk (GQ ..) ?_;conv=>zeta
 cases neg with
 |true=>
  refine zd rfl (ze ?_);rw[wr _ ae ae,Int.zero_sub];exact a _
 |false=>exact zo rfl (ze<|a _)
theorem CF[Srt](s:Rd)(neg:Bool)(n:Int)(h0:0<=n)(d:n<1000000000)(l:s.length<=20)(m:(yg s).length<=9)(db:Ap (yg s)=true)(b:∀ob,Q (.tup [.dat i64<|if neg=true then -n else n,.dat i64<|if BF s=true then AG 0 (yg s)else 1,.bl true]) ob):Ends OO (L5 s neg (A4 s) n 1) Q:=by
 obtain⟨o,i,j⟩:=BQ s;refine zk (Fi ..) ?_;conv=>zeta
 have es:A4 s=((AF s).length:Int):=rfl;have g:=(qm s).1;cases a:BF s with
 |true=>
  rw[a]at b;obtain⟨e,c⟩:=i a;have h:zc .i64 (A4 s+1)=(((AF s).length+1:Nat):Int):=by rw[es,wr _ ae ae];omega
  have k:(yg s).length=s.length-((AF s).length+1):=by rw[c,zz]
  have f:(yg s).take (yh s.length<|(AF s).length+1)=yg s:=zy (by show _<=s.length-_;omega);rw[h,zh, <-c,f];exact zd (by simp[es];omega) (zd (by simp;omega) (zd (T107.Ca db ae)<|Ct neg n _ h0 d b))
 |false=>
  obtain⟨e,c⟩:=j a;rw[a]at b;exact zo (by simp[es,e])<|Ct neg n 1 h0 d b
theorem C9[Srt](s:Rd)(neg:Bool)(d:s.length<=20)(h:(AF s).length<=9)(f:(yg s).length<=9)(c:Ap (AF s)=true)(db:Ap (yg s)=true)(k:∀n ob,n=AG 0 (AF s)->Q (.tup [.dat i64<|if neg=true then -n else n,.dat i64<|if BF s=true then AG 0 (yg s)else 1,.bl true]) ob):Ends OO (L3 s neg ) Q:=by
 obtain⟨i,j,l⟩:=BQ s;have es:A4 s=((AF s).length:Int):=rfl;have g:=(qm s).1;have a:s.length-(AF s).length<=10:=by
  cases b:BF s with
  |true=>
   obtain⟨o,m⟩:=j b;have:(yg s).length=s.length-((AF s).length+1):=by rw[m,zz]
   omega
  |false=>rw[(l b).1];omega
 have e:qv (Int.toNat<|A4 s) s=AF s:=by rw[es,zh];exact i.symm
 obtain⟨v0,v1⟩:=T107.CC c h;refine zk (BT ..) ?_;conv=>zeta
 rw[e];refine zd (by simp;omega) (zo (by simp[es];omega) (zo ?_<|zd (by simp[es];omega) (zd (T107.Ca c ae) ?_)))
 ·rw[es,wr _ ae ae];exact w8 ae
 ·exact CF s neg (AG 0<|AF s) v0 v1 d f db<|fun ob=>k _ ob rfl
theorem FG[Srt](n d:Int)(a:∀ob,Q (.tup [.dat i64 n,.dat i64 d,.bl true]) ob):Ends OO (L8 n d) Q:=by
 refine zk (Kg ..) ?_;conv=>zeta
 exact ze<|a _
theorem EO[Srt](s:Rd)(n:Int)(k:s.length<=20)(l:(yg s).length<=9)(db:Ap (yg s)=true)(b:∀ob,Q (.tup [.dat i64 n,.dat i64<|if BF s=true then AG 0 (yg s)else 1,.bl true]) ob):Ends OO (L6 s (A4 s) n 1) Q:=by
 obtain⟨m,f,i⟩:=BQ s;refine zk (GG ..) ?_;conv=>zeta
 have es:A4 s=((AF s).length:Int):=rfl;have g:=(qm s).1;cases a:BF s with
 |true=>
  rw[a]at b;obtain⟨d,c⟩:=f a;have h:zc .i64 (A4 s+1)=(((AF s).length+1:Nat):Int):=by rw[es,wr _ ae ae];omega
  have j:(yg s).length=s.length-((AF s).length+1):=by rw[c,zz]
  have e:(yg s).take (yh s.length<|(AF s).length+1)=yg s:=zy (by show _<=s.length-_;omega);rw[h,zh, <-c,e];exact zd (by simp[es];omega) (zd (by simp;omega) (zd (T107.Ca db ae)<|FG n _ b))
 |false=>
  obtain⟨d,c⟩:=i a;rw[a]at b;exact zo (by simp[es,d])<|FG n 1 b
theorem B2[Srt](s:Rd)(d:s.length<=20)(h:(AF s).length<=9)(f:(yg s).length<=9)(c:Ap (AF s)=true)(db:Ap (yg s)=true)(k:∀n ob,n=AG 0 (AF s)->Q (.tup [.dat i64 n,.dat i64<|if BF s=true then AG 0 (yg s)else 1,.bl true]) ob):Ends OO (L4 s ) Q:=by
 obtain⟨i,j,l⟩:=BQ s;have es:A4 s=((AF s).length:Int):=rfl;have g:=(qm s).1;have a:s.length-(AF s).length<=10:=by
  cases b:BF s with
  |true=>
   obtain⟨o,m⟩:=j b;have:(yg s).length=s.length-((AF s).length+1):=by rw[m,zz]
   omega
  |false=>rw[(l b).1];omega
 have e:qv (Int.toNat<|A4 s) s=AF s:=by rw[es,zh];exact i.symm
 obtain⟨v0,v1⟩:=T107.CC c h;refine zk (BU ..) ?_;conv=>zeta
 rw[e];refine zd (by simp;omega) (zo (by simp[es];omega)<|zo ?_<|zd (by simp[es];omega)<|zd (T107.Ca c ae) ?_)
 ·rw[es,wr _ ae ae];exact w8 ae
 ·exact EO s (AG 0<|AF s) d f db<|fun ob=>k _ ob rfl
end T46
end Go.Pe
namespace Go.Sp
theorem HH(a:List Int)(i:Nat):val B9 (a.drop i)=a.getD i 0+1000000000*val B9 (a.drop<|i+1):=by
 by_cases h:i<a.length
 ·rw[Co h];rfl
 ·rw[zt ae,zt ae,show a.getD i 0=0 by rw[z6,List.getElem?_eq_none ae];rfl];rfl
structure F8(a b:List Int)(i:Nat)(o:List Int)(c:Int):Prop where
 len:o.length=i
 d:Az B9 o
 c01:0<=c/\c<=1
 v:val B9 o+(B9:Int)^i*(c+val B9 (a.drop i)+val B9 (b.drop i))=Ax a+Ax b
 top:a.length<=i->b.length<=i->i=0\/(B9:Int)^(i-1)<=val B9 o+(B9:Int)^i*c
theorem F8.start(a b:List Int):F8 a b 0 [] 0:=⟨rfl,(fun x c=>by cases c),by decide,by
 show 0+(B9:Int)^0*(0+val B9 a+val B9 b)=val B9 a+val B9 b;rw[Int.pow_zero,qc];omega,fun _ _=>.inl rfl⟩
theorem Bx{a:List Int}(h:A8 a=true)(i:Nat):0<=a.getD i 0/\a.getD i 0<1000000000:=G5 (Bq h).2.1 i
theorem SU{a:List Int}(h:A8 a=true){i:Nat}(b:i<a.length)(c:a.length<=i+1):1<=a.getD i 0:=by
 have:=(Go.Pe.Gz (Bq h).2.1 (Bq h).2.2 (k:=i) ae).1;omega
theorem F8.step{a b:List Int}{i:Nat}{o:List Int}{c:Int}(h:F8 a b i o c)(l:A8 a=true)(m:A8 b=true)(g:i<a.length\/i<b.length\/0<c):
  F8 a b (i+1) (o++[(a.getD i 0+b.getD i 0+c) % 1000000000]) ((a.getD i 0+b.getD i 0+c)/1000000000):=by
 obtain⟨s,t⟩:=Bx l i;obtain⟨y0,y1⟩:=Bx m i;obtain⟨c0,c1⟩:=h.c01;have n:=h.v;rw[HH a i,HH b i]at n;have j:1<=a.getD i 0+b.getD i 0+c\/¬(a.length<=i+1/\b.length<=i+1):=by
  by_cases k:a.length<=i+1/\b.length<=i+1
  ·refine .inl ?_;rcases g with g|g|g
   ·have:=SU l g k.1;omega
   ·have:=SU m g k.2;omega
   ·omega
  ·exact .inr k
 have u:=AE (b:=B9) af h.d;have q:=Be (b:=B9) af i;generalize a.getD i 0=x at*;generalize b.getD i 0=y at*;have f:val B9 (o++[(x+y+c) % 1000000000])=val B9 o+(B9:Int)^i*((x+y+c) % 1000000000):=by rw[Cm,h.len]
 refine⟨by rw[z7,h.len];rfl,Fy h.d ae,by omega,?_,fun p r=>.inr ?_⟩
 ·rw[f,Mg,qi, <-Int.mul_add, <-n];congr 2;omega
 ·rw[f,Mg,qi, <-Int.mul_add,yi];have e:(x+y+c) % 1000000000+1000000000*((x+y+c)/1000000000)=x+y+c:=ae
  rw[e];rcases j with j|j
  ·have:=yd j<|y7 q;rw[Int.mul_one]at this;omega
  ·exact wh ⟨p,r⟩ j
theorem Agg{o:List Int}(i:Az B9 o)(h:o=[]\/(B9:Int)^(o.length-1)<=val B9 o):nz o:=by
 rcases h with rfl|h
 ·unfold nz;simp
 ·intro e;have c:o≠[]:=by rintro rfl;simp at e
  have f:o=o.dropLast++[0]:=by
   have d:=(List.dropLast_concat_getLast c).symm;rw[List.getLast?_eq_some_getLast c]at e;rw[Option.some.inj e]at d;exact d
  have g:o.length=o.dropLast.length+1:=by rw[List.length_dropLast];have:=List.length_pos_iff.2 c;omega
  have j:val B9 o=val B9 o.dropLast:=by
   conv=>lhs;rw[f]
   rw[Cm,y8,y9]
  have a:Az B9 o.dropLast:=fun x k=>i x (by rw[f];exact List.mem_append_left _ k)
  have:=Bp (b:=B9) af a;rw[j,g,yi]at h;omega
theorem F8.fin{a b:List Int}{i:Nat}{o:List Int}(h:F8 a b i o 0)(e:a.length<=i)(f:b.length<=i):o=Re a b:=by
 have c:=h.v;rw[zt e,zt f]at c;have c:val B9 o+(B9:Int)^i*(0+0+0)=Ax a+Ax b:=c;rw[show(0+0+0:Int)=0 from rfl,y8,y9]at c;have g:=h.top e f;rw[y8,y9, <-h.len]at g;have j:nz o:=Agg h.d (by
  rcases g with k|k
  ·exact .inl<|yy.1 k
  ·exact .inr k)
 unfold Re;rw[<-c];exact Jt (b:=B9) af h.d j
structure G4(a b:List Int)(i:Nat)(o:List Int)(c:Int):Prop where
 len:o.length=i
 d:Az B9 o
 c01:0<=c/\c<=1
 v:val B9 o+(B9:Int)^i*(val B9 (a.drop i)-val B9 (b.drop i)-c)=Ax a-Ax b
theorem G4.start(a b:List Int):G4 a b 0 [] 0:=⟨rfl,(fun x c=>by cases c),by decide,by
 show 0+(B9:Int)^0*(val B9 a-val B9 b-0)=val B9 a-val B9 b;rw[Int.pow_zero,qc];omega⟩
theorem G4.step{a b:List Int}{i:Nat}{o:List Int}{c:Int}(h:G4 a b i o c)(g:A8 a=true)(j:A8 b=true)(d e:Int)(k:(a.getD i 0-b.getD i 0-c<0/\d=a.getD i 0-b.getD i 0-c+1000000000/\e=1)\/(¬a.getD i 0-b.getD i 0-c<0/\d=a.getD i 0-b.getD i 0-c/\e=0)):
  G4 a b (i+1) (o++[d]) e:=by
 obtain⟨l,m⟩:=Bx g i;obtain⟨y0,y1⟩:=Bx j i;obtain⟨c0,c1⟩:=h.c01;have f:=h.v;rw[HH a i,HH b i]at f;generalize a.getD i 0=x at*;generalize b.getD i 0=y at*;refine⟨by rw[z7,h.len];rfl,Fy h.d ae,by omega,?_⟩;rw[Cm,h.len,Mg,qi, <-Int.mul_add, <-f];congr 2;omega
theorem G4.fin{a b:List Int}{o:List Int}{c:Int}(h:G4 a b a.length o c)(l:A8 b=true)(g:Ax b<=Ax a):AB o=I8 a b:=by
 have e:=h.v;rw[List.drop_length]at e;have h0:=AE (b:=B9) af<|EH (Bq l).2.1 a.length;have f:=Bp (b:=B9) af h.d;rw[h.len]at f;obtain⟨m,n⟩:=h.c01;have j:=Be (b:=B9) af a.length;have e:val B9 o+(B9:Int)^a.length*(0-val B9 (b.drop a.length)-c)=Ax a-Ax b:=e;generalize val B9 (b.drop a.length)=z at*;have i:0-z-c=0:=by
  rcases Int.lt_or_le (0-z-c) 0 with k|k
  ·have:=yd (show 0-z-c<= -1 by omega)<|y7 j;rw[Int.mul_neg,Int.mul_one]at this;omega
  ·omega
 rw[i,y8,y9]at e;unfold I8;rw[F5 h.d, <-e];rfl
open Go.Lib
theorem Ys(n:Int):rN n=decide (n<0):=rfl
theorem NW(a:Bool×List Int):(a.1=true->vR a= -Ax a.2)/\(a.1=false->vR a=Ax a.2):=by
 unfold vR;exact⟨fun h=>by rw[wd h],fun h=>by rw[wc<|by rw[h];decide]⟩
theorem QY{neg:Bool}{w:List Int}{n:Int}(c:Az B9 w)(h0:0<=Ax w)(a:neg=true->n= -Ax w)(b:neg=false->n=Ax w):(CY neg w,AB w)=(rN n,rW n):=by
 refine uG c ?_<|fun d=>?_
 ·rw[Aj];cases neg with
  |true=>have:=a rfl;omega
  |false=>have:=b rfl;omega
 ·rw[Ys];cases neg with
  |true=>have:=a rfl;symm;rw[w5];omega
  |false=>have:=b rfl;symm;rw[w9];omega
theorem JX{n:Int}(h:0<=n):Ax (B7 n)=n/\Az B9 (B7 n):=⟨C2 (b:=B9) af h,FI (b:=B9) af n⟩
theorem fA{a b:Bool×List Int}(c:C0 a=true)(f:C0 b=true)(h:a.1=b.1):(CY a.1<|Re a.2 b.2,AB<|Re a.2 b.2)=(NN a b,Nz a b):=by
 have a0:=(GZ c).2;have g:=(GZ f).2;obtain⟨e,d⟩:=NW a;obtain⟨f1,f2⟩:=NW b;obtain⟨hv,hd⟩:=JX (n:=Ax a.2+Ax b.2) ae;refine QY hd (by show 0<=Ax (B7 _);omega) (fun k=>?_)<|fun k=>?_
 ·rw[e k,f1<|by rw[<-h];exact k];show _= -Ax (B7 _);omega
 ·rw[d k,f2<|by rw[<-h];exact k];show _=Ax (B7 _);omega
theorem bX{a b:Bool×List Int}(c:C0 b=true)(h:a.1≠b.1)(f:Ax b.2<=Ax a.2):(CY a.1<|I8 a.2 b.2,AB<|I8 a.2 b.2)=(NN a b,Nz a b):=by
 have g:=(GZ c).2;obtain⟨e,d⟩:=NW a;obtain⟨f1,f2⟩:=NW b;obtain⟨hv,hd⟩:=JX (n:=Ax a.2-Ax b.2) ae;refine QY hd (by show 0<=Ax (B7 _);omega) (fun k=>?_)<|fun k=>?_
 ·rw[e k,f2 (by rw[k]at h;cases c:b.1 with|true=>exact wh c.symm h|false=>rfl)];show _= -Ax (B7 _);omega
 ·rw[d k,f1 (by rw[k]at h;cases c:b.1 with|true=>rfl|false=>exact wh c.symm h)];show _=Ax (B7 _);omega
theorem yK{a b:Bool×List Int}(c:C0 a=true)(h:a.1≠b.1)(d:Ax a.2<=Ax b.2):(CY b.1<|I8 b.2 a.2,AB<|I8 b.2 a.2)=(NN a b,Nz a b):=by
 have:=bX c (fun k=>h k.symm) d;rw[this];unfold NN Nz;rw[Int.add_comm]
theorem jN{a b:Bool×List Int}(g:C0 a=true)(i:C0 b=true):(CY (a.1 !=b.1)<|B7<|Ax a.2*Ax b.2,AB<|B7<|Ax a.2*Ax b.2)=(HV a b,HK a b):=by
 have a0:=(GZ g).2;have h:=(GZ i).2;obtain⟨f,e⟩:=NW a;obtain⟨f1,f2⟩:=NW b;have p0:=qd a0 h;obtain⟨hv,hd⟩:=JX p0;refine QY hd ae (fun k=>?_)<|fun k=>?_
 ·rw[hv];cases c:a.1<;>cases d:b.1<;>rw[c,d]at k
  ·exact wh k af
  ·rw[e c,f1 d,Int.mul_neg]
  ·rw[f c,f2 d,Int.neg_mul]
  ·exact wh k af
 ·rw[hv];cases c:a.1<;>cases d:b.1<;>rw[c,d]at k
  ·rw[e c,f2 d]
  ·exact wh k af
  ·exact wh k af
  ·rw[f c,f1 d,Int.neg_mul,Int.mul_neg,Int.neg_neg]
theorem oV{a:Bool×List Int}(b:C0 a=true):(CY (!a.1) a.2,AB a.2)=(UU a,UE a):=by
 have a0:=(GZ b).2;obtain⟨c,d⟩:=NW a;refine QY (Bq (DE b).1).2.1 a0 (fun k=>?_)<|fun k=>?_
 ·rw[d<|by simpa using k]
 ·rw[c (by simpa using k),Int.neg_neg]
theorem vQ{w:List Int}{i:Nat}(a:w.length=i+1):val B9 (w.drop i)=w.getD i 0:=by
 rw[HH,zt ae];show _+1000000000*0=_;omega
theorem XU{w:List Int}(a:A8 w=true){i:Nat}(b:w.length=i+1):I2 (w.getD i 0) 1=decDigits (val B9<|w.drop i).toNat/\0<val B9 (w.drop i):=by
 have g:=Bx a i;have t:=SU a (i:=i) ae ae;rw[vQ b];exact⟨Qo g.1 ae,by omega⟩
theorem fY{w:List Int}(a:A8 w=true)(i:Nat)(h0:0<val B9 (w.drop<|i+1)):decDigits (val B9<|w.drop<|i+1).toNat++I2 (w.getD i 0) 9=decDigits (val B9<|w.drop i).toNat/\0<val B9 (w.drop i):=by
 have g:=Bx a i;rw[HH w i,iI g.1 g.2];generalize val B9 (w.drop<|i+1)=V at*;generalize w.getD i 0=x at*;have h:=SX 9 V.toNat x.toNat af ae ae;refine⟨?_,by omega⟩;rw[<-h];congr 1;omega
theorem jG{a:Bool×List Int}(d:C0 a=true)(c:a.2≠[]):(if a.1=true then 45::decDigits (Ax a.2).toNat else decDigits (Ax a.2).toNat)=Is a:=by
 obtain⟨e,f⟩:=NW a;have h0:0<Ax a.2:=J3 (b:=B9) af (Bq (DE d).1).2.1 (Bq (DE d).1).2.2 c;unfold Is AZ itoa;by_cases h:a.1=true
 ·rw[wd h,e h,wd ae,show(-Ax a.2).natAbs=(Ax a.2).toNat by omega]
 ·have h:a.1=false:=by simpa using h
  rw[wc (by rw[h];decide),f h,wc ae]
theorem lF{a:Bool×List Int}(h:a.2=[]):[48]=Is a:=by
 have:vR a=0:=by
  unfold vR;rw[h];split<;>rfl
 unfold Is AZ itoa;rw[this,wc af,show(0:Int).toNat=0 from rfl,decDigits_one af];rfl
theorem K0{N D:Int}(b:0<D):0<gI (Ah N) D/\Ah N/gI (Ah N) D=Ah (zj N D).num/\D/gI (Ah N) D=((zj N D).den:Int)/\(N<0↔(zj N D).num<0):=by
 have e:D.sign=1:=Int.sign_eq_one_of_pos b;have l:(zj N D).num=N/(yk N D:Int):=by rw[Rat.num_divInt,e,qc,qq]
 have i:((zj N D).den:Int)=D/(yk N D:Int):=by
  rw[Rat.den_divInt,wc<|Int.ne_of_gt b,qq,Int.natCast_ediv];rw[Int.natAbs_of_nonneg<|y7 b]
 have j:gI (Ah N) D=(yk N D:Int):=by rw[Gk,Aj];rfl
 have a:0<yk N D:=Int.gcd_pos_of_ne_zero_right _ ae;obtain⟨k,d⟩:(yk N D:Int)∣N:=Int.gcd_dvd_left ..;rw[j,l,i];have a:(0:Int)<(yk N D:Int):=ae
 generalize (yk N D:Int)=g at*;have c:N/g=k:=by rw[d,yx _ ae]
 have f:Ah N/g=Ah k:=by
  rw[Aj,Aj,d,qe,Int.natCast_mul,show((g.natAbs:Nat):Int)=g by omega,yx _ ae]
 refine⟨a,by rw[c,f],rfl,?_⟩;rw[c];constructor
 ·intro h;rcases Int.lt_or_le k 0 with x|x
  ·exact x
  ·have:=qd (y7 a) x;omega
 ·intro h;have:=Int.mul_neg_of_pos_of_neg a h;omega
theorem uF{N D:Int}(d:0<D){neg:Bool}(c:neg=rN N):(CY neg<|B7<|Ah N/gI (Ah N) D,AB<|B7<|Ah N/gI (Ah N) D)=(rN (zj N D).num,rW (zj N D).num):=by
 obtain⟨_,b,_,a⟩:=K0 (N:=N) d;rw[b];have a0:=Ou (zj N D).num;obtain⟨hv,hd⟩:=JX a0;refine uG hd hv<|fun _=>?_;rw[c,Ys,Ys,decide_eq_decide];exact a
theorem Aax{n:Int}(h0:0<=n):B7 n=[1]↔n=1:=by
 constructor
 ·intro h;have:=(JX h0).1;rw[h]at this;exact this.symm
 ·rintro rfl;rfl
theorem SL{N D:Int}:Db N D=if (zj N D).den=1 then AZ (zj N D).num else AZ (zj N D).num++47::AZ ((zj N D).den:Int):=by
 unfold Db AQ;split
 ·rfl
 ·rw[show AZ ((zj N D).den:Int)=decDigits (zj N D).den from Lib.itoa_nonneg _];rfl
theorem V0(N D:Int):Db (-N) (-D)=Db N D:=by
 unfold Db;rw[Rat.neg_divInt_neg]
theorem QJ{s:Rd}(h:Bk s=true):Bi s=I6 s/\AX s=UY s/\Ap (AF<|A2 s)=true/\Ap (AV<|A2 s)=true:=by
 obtain⟨t,_⟩:=GC h;obtain⟨c1,c2,c3⟩:=E5<|Au s;obtain⟨p1,p2,p3,p4⟩:=Tl s;obtain⟨i1,i2,i3,i4⟩:=CX (Au s).num;rw[t]at c1 c2 c3;have b:Ap (AV s)=true:=by
  rw[c2];split
  ·rfl
  ·exact DP _
 refine⟨?_,?_,?_,?_⟩
 ·unfold Bi I6 Cw;rw[p1, <-p4];unfold A2 preB;by_cases a:(AF s).getD 0 0=45
  ·rw[wd a,wd a,wd<|w4 a]
  ·rw[wc a,wc a,wc<|by rw[w8 a];decide]
 ·unfold AX UY Cw;rw[p2,p3,wc<|FO b]
 ·rw[p1,c1,i2];exact DP _
 ·rw[p2];exact b
theorem GB{s:Rd}(h:Bk s=true)(a:En s=true):nB s=Bi s/\WH s=AX s/\ -1000000000<Bi s/\Bi s<1000000000/\0<AX s/\AX s<1000000000:=by
 obtain⟨b,c,d,g⟩:=QJ h;have e:0<AX s:=by
  have:=(Ei h).2.2.2.2.2.1;have:=(Au s).den_pos;omega
 unfold nB WH;rw[wd a,wd a];unfold En at a;rw[zf,zf,w5,w5,w5]at a;obtain⟨⟨_,l1⟩,f⟩:=a;have j:=Bf d;have k:=Bf g;have l:(10:Int)^(AF<|A2 s).length<=10^9:=AT af l1;have i:(10:Int)^(AV<|A2 s).length<=10^9:=AT af f;refine⟨b.symm,c.symm,?_,?_,e,?_⟩
 ·rw[b];unfold I6;split<;>omega
 ·rw[b];unfold I6;split<;>omega
 ·rw[c];unfold UY;split<;>omega
theorem dZ{a b:Rd}(c:Bk a=true)(g:Bk b=true):C8 a b=Db (Bi a*AX b+AX a*Bi b) (AX a*AX b)/\C8 a b=Db (Bi a*AX b+Bi b*AX a) (AX a*AX b):=by
 have f:AX a≠0:=by
  have:=(Ei c).2.2.2.2.2.1;have:=(Au a).den_pos;omega
 have d:AX b≠0:=by
  have:=(Ei g).2.2.2.2.2.1;have:=(Au b).den_pos;omega
 have e:C8 a b=Db (Bi a*AX b+Bi b*AX a) (AX a*AX b):=by
  unfold C8 Db Au;rw[Rat.divInt_add_divInt _ _ f d]
 exact⟨by rw[e,Int.mul_comm (AX a)<|Bi b],e⟩
theorem fX{a b:Rd}:Nr a b=Db (Bi a*Bi b) (AX a*AX b):=by
 unfold Nr Db Au;rw[Rat.divInt_mul_divInt]
theorem hO{a:Rd}:TD a=Db (AX a) (Bi a):=by
 unfold TD Db Au;rw[Rat.inv_divInt]
theorem VT:∀(f n l:Nat) (a:Rd),(Ig f n l a).length<=a.length+f
 |0,_,_,a=>yc _
 |f+1,n,l,a=>by
  unfold Ig;split
  ·omega
  ·have:=VT f (n/10) l (ym (48+n % 10)::a);grind
theorem Wv(n l:Int):(I2 n l).length<=64:=by
 have:=VT 64 n.toNat l.toNat [];exact this
theorem WU{v:Int}{k:Nat}(h:v<(B9:Int)^k)(a:1<=k):(zi v.toNat).length<=9*k:=by
 rw[X3]at h;refine CZ (k:=9*k) ?_ ae;grind
end Go.Sp
namespace Go.Pe
open Sp
open Go.Det
theorem Acu{s:Sh}(b:s.sz=1){id n:Nat}{tail:Ob}{fz:Bool}{t:TypeId}{o:List s.T}(c:n=o.length):Hc ⟨0,.leaf,(id,.arr fz t s o)::tail,0⟩ (.list s) (.sl id 1 0 n none)=some (true,o):=by
 have a:AS ((id,Obj.arr fz t s o)::tail) id=some (.arr fz t s o):=by grind [AS,qt]
 unfold Hc;simp_all [DB,PV.cells,Cr,AN.obj,Oh,Sh.N4,Dp,CB,zG,EA]
theorem vV{s:Sh}(a:s.sz=1){id n:Nat}{tail:Ob}{fz:Bool}{t:TypeId}{o:List s.T}(b:n=o.length):Lv [.list s] (.sl id 1 0 n none) ((id,.arr fz t s o)::tail)=some (true,o):=Acu a b
theorem Om(a:List Int)(i:Nat):Iz a (i:Int)=a.getD i 0:=by rfl
theorem Aa8[Srt]:CL XR0:=fun g sp h=>by cases h
theorem T149.ok[Srt]:Af A5 149 Y9:=by
 refine BG Aa8<|fun(i:List Int×Int) hi=>?_;obtain⟨a,i⟩:=i;have h0:0<=i:=w6 hi;have b:∀v ob,v=Iz a i->Ad Y9 (a,i) (.dat i64 v) ob:=fun v ob h=>zx rfl rfl h
 refine zp (T149.Ak a i) (zg (fun c=>zd ah<|ze<|b _ _ rfl)<|fun c=>ze<|b _ _ ?_);grind [Iz]
theorem Zo[Srt]:CL Xk:=Aa T149.ok<|Aa T147.ok AI
theorem RM{x y c:Int}(d:0<=x/\x<1000000000)(b:0<=y/\y<1000000000)(a:0<=c/\c<=1):
  zc .i64 (zc .i64 (x+y)+c)=x+y+c/\z8 (x+y+c) 1000000000=(x+y+c) % 1000000000/\zc .i64 (ye (x+y+c) 1000000000)=(x+y+c)/1000000000:=by
 grind [wr]
theorem oG{a b:List Int}(h:uV a b=true):A8 a=true/\A8 b=true/\a.length<=9000/\b.length<=9000:=by
 simp_all [uV]
theorem uP{a b:List Int}(d:A8 a=true)(e:A8 b=true)(c:a.length<=9000)(f:b.length<=9000):uV a b=true:=by
 grind [uV]
namespace T111
theorem done[Srt](a b o:List Int)(i:Nat)(c:a.length<=i)(d:b.length<=i)(e:Q (.sl 0 1 0 o.length none) [(0,.arr false 3 (.int .i64) o)]):Ends Xk (L2 a b o.length 0 i o) Q:=
 (by simp_all [zk,AL,w8])
set_option maxHeartbeats 1000000 in
theorem A1[Srt](a b:List Int)(d:A8 a=true)(f:A8 b=true)(s:a.length<=9000)(r:b.length<=9000)(w:Q (.sl 0 1 0 (Re a b).length none) [(0,.arr false 3 (.int .i64)<|Re a b)]):∀(k i:Nat) (o:List Int) (c:Int),i+k=max a.length b.length->F8 a b i o c->Ends Xk (L2 a b o.length c i o) Q:=by
 have g:∀(i:Nat) (o:List Int),a.length<=i->b.length<=i->F8 a b i o 0->Ends Xk (L2 a b o.length 0 i o) Q:=fun i o n j h=>by
  have:=h.fin n j;grind [done]
 have next:∀(i:Nat) (o:List Int) (c:Int),i<=9000->F8 a b i o c->(i<a.length\/i<b.length\/0<c->Ends Xk (L2 a b (o++[(a.getD i 0+b.getD i 0+c) % 1000000000]).length ((a.getD i 0+b.getD i 0+c)/1000000000) ((i+1:Nat):Int)<|o++[(a.getD i 0+b.getD i 0+c) % 1000000000]) Q)->Ends Xk (L2 a b o.length c i o) Q:=fun i o c l h go=>by
  obtain⟨s1,s2,s3⟩:=RM (Bx d i) (Bx f i) h.c01;have v:zc .i64 ((i:Int)+1)=((i+1:Nat):Int):=by grind [wr]
  have q:=h.len;have cap:(decide ((1:Nat)<=(1:Nat))&&true&&decide (o.length=o.length)&&decide ((3*(o.length+1)+2000)*8<=562949953421312))=true:=by
   grind
  have h0:decide ((0:Int)<=(i:Int))=true:=(by rfl);rw[z7]at go;by_cases t:(i:Int)<(a.length:Int)
  ·refine zk (AL ..) ?_;conv=>zeta
   simp_all [Om]
  ·by_cases u:(i:Int)<(b.length:Int)
   ·refine zk (AL ..) ?_;conv=>zeta
    simp_all [Om]
   ·by_cases y:c>0
    ·refine zk (AL ..) ?_;conv=>zeta
     simp_all [Om]
    ·obtain rfl:c=0:=by have:=h.c01;omega
     grind
 intro k;induction k with
 |zero=>
  intro i o c l h;refine next i o c ae h (fun e=>?_);have j:=h.step d f e;have x:a.getD i 0=0:=ah
  have z2:b.getD i 0=0:=ah
  have p:=h.c01;have z3:(a.getD i 0+b.getD i 0+c)/1000000000=0:=ae
  grind
 |succ k m=>
  intro i o c l h;exact next i o c ae h (fun e=>m (i+1) _ _ ae<|h.step d f e)
set_option maxHeartbeats 1000000 in
theorem ok[Srt]:Af A5 111 Yx:=by
 refine BG Zo<|fun(i:List Int×List Int) hi=>?_;obtain⟨a,b⟩:=i;obtain⟨ha,hb,la,lb⟩:=oG hi;obtain⟨s1,s2,s3⟩:=RM (Bx ha 0) (Bx hb 0) (c:=0) af;have h0:=F8.start a b;have go:(0<a.length\/0<b.length)->Ends Xk (L2 a b 1 ((a.getD 0 0+b.getD 0 0+0)/1000000000) ((1:Nat):Int) [(a.getD 0 0+b.getD 0 0+0) % 1000000000]) (Ad Yx (a,b)):=fun f=>
  A1 a b ha hb la lb (zx (vV rfl rfl) rfl rfl) (max a.length b.length-1) 1 _ _ ae (h0.step ha hb ae)
 refine zp (Ak a b)<|zk (Al ..) ?_;have j:Iz a 0=a.getD 0 0:=rfl;have h:Iz b 0=b.getD 0 0:=rfl;have g:zc .i64 ((0:Int)+1)=((1:Nat):Int):=rfl;refine zg (fun c=>?_)<|fun e=>zg (fun c=>?_)<|fun d=>zo rfl (ze<|zx (y:=[]) rfl rfl ?_)
 ·exact zd rfl (zd rfl (zd rfl (zd rfl (zd rfl ah))))
 ·exact zd rfl (zd rfl (zd rfl (zd rfl (zd rfl ah))))
 ·have e:=w7 e;have d:=w7 d;exact h0.fin ae ae
end T111
namespace T113
theorem HC{x y c:Int}(d:0<=x/\x<1000000000)(b:0<=y/\y<1000000000)(a:0<=c/\c<=1):
  zc .i64 (zc .i64 (x-y)-c)=x-y-c/\zc .i64 (x-y-c+1000000000)=x-y-c+1000000000:=by
 grind [wr]
set_option maxHeartbeats 1000000 in
theorem A1[Srt](a b:List Int)(g:A8 a=true)(f:A8 b=true)(l:a.length<=9000)(e:Ax b<=Ax a)(m:∀ob,Q (.dat li<|I8 a b) ob):∀(k i:Nat) (o:List Int) (c:Int),i+k=a.length->G4 a b i o c->Ends Xk (L2 a b o.length c i o) Q
 |0,i,o,c,j,h=>by
  have j:i=a.length:=ae
  subst j;have n:=h.len;refine zk (AL ..) (zo (by simp) ?_);rw[zy ae];refine zd ah<|ze ?_;rw[h.fin f e];grind
 |k+1,i,o,c,j,h=>by
  obtain⟨s1,s2⟩:=HC (Bx g i) (Bx f i) h.c01;have p:zc .i64 ((i:Int)+1)=((i+1:Nat):Int):=by grind [wr]
  have n:=h.len;have cap:(decide ((1:Nat)<=(1:Nat))&&true&&decide (o.length=o.length)&&decide ((3*(o.length+1)+2000)*8<=562949953421312))=true:=by
   grind
  refine zk (AL ..) ?_;conv=>zeta
  rw[Om,zh,s1,s2,p];refine zd ah (zd ah<|zd (by rfl)<|zg (fun d=>zd cap ?_)<|fun d=>zd cap ?_)
  ·have:=A1 a b g f l e m k (i+1) _ _ ae (h.step g f _ 1 (.inl ⟨ah,rfl,rfl⟩));grind
  ·have:=A1 a b g f l e m k (i+1) _ _ ae (h.step g f _ 0 (.inr ⟨ah,rfl,rfl⟩));grind
set_option maxHeartbeats 1000000 in
theorem ok[Srt]:Af A5 113 Xw:=by
 refine BG Zo<|fun(i:List Int×List Int) e=>?_;obtain⟨a,b⟩:=i;have e:(uV a b&&decide (Ax b<=Ax a))=true:=e;rw[zf,w5]at e;obtain⟨e,hle⟩:=e;obtain⟨ha,hb,la,lb⟩:=oG e;have h0:=G4.start a b;have f:∀ob,Ad Xw (a,b) (.dat li<|I8 a b) ob:=fun ob=>zx rfl rfl rfl
 refine zp (Ak a b)<|zk (Al ..) ?_;obtain⟨s1,s2⟩:=HC (Bx ha 0) (Bx hb 0) (c:=0) af;have g:Iz b 0=b.getD 0 0:=rfl;refine zg (fun c=>?_)<|fun c=>?_
 ·have h:=w6 c;refine zd (Ac rfl c)<|zd rfl (zg (fun d=>zd rfl ?_)<|fun d=>zd rfl ?_)
  ·exact A1 a b ha hb la hle f (a.length-1) 1 _ _ ae (h0.step ha hb _ 1 ah)
  ·exact A1 a b ha hb la hle f (a.length-1) 1 _ _ ae (h0.step ha hb _ 0 ah)
 ·refine zd rfl (ze ?_);grind [G4.fin]
end T113
theorem Uo[Srt]:CL XR2:=Aa T110.ok (by grind [Aa,T111.ok,T112.ok,T113.ok,T114.ok,T109.ok,Mw])
theorem LH{n:Int}{k:Nat}(h0:0<=n)(h:n<(qf:Int)^k):(B7 n).length<=k:=OJ h0 h
theorem Lt{a:Bool×List Int}(h:C0 a=true):0<=Ax a.2/\Ax a.2<(qf:Int)^3000:=by
 obtain⟨c,d,_⟩:=DE h;refine⟨(GZ h).2,yv (Bp (b:=qf) af (Bq c).2.1)<|AT af d⟩
theorem T50.ok[Srt]:Af A5 50 sF:=by
 refine BG Uo<|fun(i:(Bool×List Int)×(Bool×List Int)) f=>?_;obtain⟨a,b⟩:=i;have f:(C0 a&&C0 b)=true:=f;rw[zf]at f;obtain⟨ha,hb⟩:=f;obtain⟨a1,a2,_⟩:=DE ha;obtain⟨b1,b2,_⟩:=DE hb;obtain⟨va,wa⟩:=Lt ha;obtain⟨vb,wb⟩:=Lt hb;have pl:=uP a1 b1 ae ae;have h:=uP b1 a1 ae ae;refine zp (T50.Ak a b)<|zg (fun c=>?_)<|fun c=>zd (Ac a1 b1)<|zg (fun d=>?_)<|fun d=>?_
 ·have g:(Re a.2 b.2).length<=3001:=LH ae ah;exact zd pl (zd ah<|ze<|zx rfl rfl (fA ha hb ah))
 ·have e:Ax b.2<=Ax a.2:=by
   grind [Cp]
  have g:(I8 a.2 b.2).length<=3000:=LH ae ae;exact zd ah (zd ah<|ze<|zx rfl rfl (bX hb ah e))
 ·have e:Ax a.2<=Ax b.2:=by
   grind [Cp]
  have g:(I8 b.2 a.2).length<=3000:=LH ae ae;exact zd ah (zd ah<|ze (zx rfl rfl (yK ha ah e)))
theorem T51.ok[Srt]:Af A5 51 bG:=by
 refine BG Uo<|fun(i:(Bool×List Int)×(Bool×List Int)) c=>?_;obtain⟨a,b⟩:=i;have c:(C0 a&&C0 b)=true:=c;rw[zf]at c;obtain⟨ha,hb⟩:=c;obtain⟨a1,a2,_⟩:=DE ha;obtain⟨b1,b2,_⟩:=DE hb;obtain⟨va,wa⟩:=Lt ha;obtain⟨vb,wb⟩:=Lt hb;have d:Ax a.2*Ax b.2<(qf:Int)^(3000+3000):=by
  rw[Int.pow_add];have hp:(0:Int)<(qf:Int)^3000:=ae;exact Int.lt_of_le_of_lt (yd ae va)<|Int.mul_lt_mul_of_pos_right wa hp
 have e:=LH (qd va vb) d;exact zp (T51.Ak a b) (zd (by grind [Zm,Bq])<|zd ah<|ze<|zx rfl rfl (jN ha hb))
theorem T108.ok[Srt]:Af A5 108 aG:=by
 refine BG Uo<|fun(a:Bool×List Int) ha=>?_;have:=(DE ha).2.1;exact zp (T108.Ak a) (zd ah<|ze<|zx rfl rfl (oV ha))
theorem yA[Srt]:CL XR3:=Aa T106.ok AI
namespace T98
theorem Ar[Srt](neg:Bool)(w:List Int)(d:A8 w=true)(f:w.length<=3000)(a:∀ob,Q (.dat .str (if neg=true then 45::zi (Ax w).toNat else zi (Ax w).toNat)) ob):∀(i:Nat),i<=w.length->0<Sp.val qf (w.drop i)->Ends XR3 (L1 (zi (Sp.val qf<|w.drop i).toNat) ((i:Int)-1) neg w) Q:=by
 have e:∀i,(zi (Sp.val qf<|w.drop i).toNat).length<=27000:=fun i=>by
  have l:=Bp (b:=qf) af<|EH (Bq d).2.1 i;have m:(qf:Int)^(w.drop i).length<=(qf:Int)^3000:=AT af ah;exact WU (k:=3000) ae af
 intro i;induction i with
 |zero=>
  intro _ _;refine zk (Al ..) (zo af<|zg (fun c=>zd ah<|ze ?_)<|fun c=>ze ?_)
  ·rw[wd c]at a;exact a _
  ·rw[wc ah]at a;exact a _
 |succ i j=>
  intro n h0;have g:=Bx d i;have h:(((i+1:Nat):Int)-1)=(i:Int):=ae
  obtain⟨s1,s2⟩:=fY d i h0;rw[h];refine zk (Al ..) ?_;conv=>zeta
  rw[zh,s1,wr ((i:Int)-1) ae ae];exact zd (by rfl) (zd ah<|zd ah<|by grind [zd])
theorem ok[Srt]:Af A5 98 YJ:=by
 refine BG yA<|fun(a:Bool×List Int) ha=>?_;obtain⟨a1,a2,_⟩:=DE ha;refine zp (Ak a)<|zg (fun c=>ze<|zx rfl rfl (lF ?_))<|fun c=>?_
 ·simp_all
 ·have c:(a.2.length:Int)≠0:=ah
  obtain⟨i,e⟩:∃i,a.2.length=i+1:=⟨a.2.length-1,by omega⟩;have g:=Bx a1 i;obtain⟨s1,s2⟩:=XU a1 e;have b:zc .i64 ((a.2.length:Int)-1)=(i:Int):=by grind [wr]
  have d:zc .i64 ((a.2.length:Int)-2)=(i:Int)-1:=by grind [wr]
  rw[b,d,zh,s1];refine zd ah (zd ah<|Ar a.1 a.2 a1 a2 (fun ob=>zx rfl rfl ?_) i ae s2);exact jG ha ah
end T98
end Go.Pe
namespace Go.Sp
theorem tW{a k m:Nat}(h:a<10^k)(b:k<=m):a<10^m:=(by grind [Nat.lt_of_lt_of_le,yn])
theorem rG{a b k:Nat}(c:a<10^k)(d:b<10^k):a+b<10^(k+1):=ae
theorem Ng{n:Int}{k:Nat}(h:n.natAbs<10^k)(a:k<=27000):C0 (rN n,rW n)=true:=(by grind [UQ,tW])
theorem JE{m n:Int}(h:C0 (rN n,rW n)=true)(a:m.natAbs<=n.natAbs):C0 (rN m,rW m)=true:=by
 grind [Adn,Iw,UQ]
theorem Z7{n:Int}(h:Cv n=true):C0 (rN n,rW n)=true:=by
 have h:=Go.Pe.ET h;exact Ng (k:=20) ae af
theorem Vu{n:Int}(h:C0 (rN n,rW n)=true):A8 (rW n)=true/\(rW n).length<=3000/\Ah n<(B9:Int)^3000:=by
 obtain⟨a,b,_⟩:=DE h;have:=(Go.Pe.Lt h).2;grind [M7]
theorem WA{n:Int}(h:C0 (rN n,rW n)=true):(AZ n).length<=27001:=by
 have a:=(Vu h).2.2;have b:=WU a af;grind [Aj,AZ,yw]
theorem Qn(n:Int):Is (rN n,rW n)=AZ n:=by unfold Is;rw[Iw]
theorem XI{N D:Int}(d:0<D):ye N (gI (Ah N) D)=(zj N D).num/\ye D (gI (Ah N) D)=((zj N D).den:Int):=by
 have e:D.sign=1:=ah;have a:gI (Ah N) D=(yk N D:Int):=by rw[Gk,Aj];rfl
 have b:(yk N D:Int)∣N:=Int.gcd_dvd_left ..;have c:(yk N D:Int)∣D:=Int.gcd_dvd_right ..;rw[a,yz b,yz c];refine⟨?_,(K0 (N:=N) d).2.2.1▸?_⟩
 ·rw[Rat.num_divInt,e,qc,qq]
 grind
theorem R4(x y:Int):HV (rN x,rW x) (rN y,rW y)=rN (x*y):=by grind [HV,Iw]
theorem RR(x y:Int):HK (rN x,rW x) (rN y,rW y)=rW (x*y):=by grind [HK,Iw]
theorem tP(x y:Int):NN (rN x,rW x) (rN y,rW y)=rN (x+y):=by grind [NN,Iw]
theorem pP(x y:Int):Nz (rN x,rW x) (rN y,rW y)=rW (x+y):=by grind [Nz,Iw]
theorem QF(x y:Int):Jf (rN x,rW x) (rN y,rW y)=Db x y:=by grind [Jf,Iw]
theorem Wf{a b:Nat}(h:a<=b):(zi a).length<=(zi b).length:=by
 have c:=Lib.lt_pow_nDigits b;have d:1<=(zi b).length:=(by grind [Uv]);rw[<-Lib.decDigits_length]at c;exact CZ ae d
theorem neg_num(x:Rat):(x.num<0↔x<0)/\(x.num>0↔0<x):=by
 simp_all [Rat.lt_iff]
theorem pX(p q:Rat):N1 (p-q).num=if p<q then -1 else if q<p then 1 else 0:=by
 grind [neg_num,N1]
end Go.Sp
namespace Go.Pe
open Sp
open Go.Det
theorem xH[Srt]:CL uY:=Aa T108.ok (by grind [Aa,T102.ok,T109.ok,T110.ok,T98.ok,Mw])
namespace T49
theorem C9[Srt](n d:Int)(b:C0 (zr n,zq n)=true)(a:C0 (zr d,zq d)=true)(c:0<=d)(i:∀ob,Q (.dat .str (AZ n++47::AZ d)) ob):Ends uY (L3 (B7 d)<|AZ n) Q:=by
 have l1:=WA b;have f:=WA a;have e:zq d=B7 d:=by grind [zq,Aj]
 have j:=(Vu a).2.1;obtain⟨g,h⟩:=JX c;have hp:(CY false<|B7 d,AB<|B7 d)=(zr d,zq d):=(by grind [QY]);refine zk (BT ..) ?_;conv=>zeta
 grind [Qn,zd,ze]
theorem A1[Srt](n d:Int)(g:C0 (zr n,zq n)=true)(b:C0 (zr d,zq d)=true)(l:0<d)(i:d=1->∀ob,Q (.dat .str<|AZ n) ob)(f:d≠1->∀ob,Q (.dat .str (AZ n++47::AZ d)) ob):Ends uY (L2 (B7 d)<|AZ n) Q:=by
 have k:=Aax (n:=d) ae;by_cases h:d=1
 ·simp_all [zk,AL]
 ·have a:=C9 n d g b ae<|f h;refine zk (AL ..)<|zg (fun c=>zd ?_<|zg (fun e=>?_)<|fun _=>a)<|fun _=>a
  ·grind
  ·cases j:B7 d with
   |nil=>grind
   |cons x r=>
    grind
theorem Ar[Srt](N D:Int)(b:C0 (zr N,zq N)=true)(c:C0 (zr D,zq D)=true)(h0:0<D)(q:∀ob,Q (.dat .str<|Db N D) ob):Ends uY (L1 (zr D) (zq D) (zr N)<|zq N) Q:=by
 obtain⟨n1,s,v⟩:=Vu b;obtain⟨d1,d2,d3⟩:=Vu c;obtain⟨g0,f1,f2,f3⟩:=K0 (N:=N) h0;have l:Ah D=D:=by grind [Aj]
 have i:Cs (zq N) (zq D)=B7 (qp (Ah N) D):=by
  grind [Cs,M7]
 have p:qp (Ah N) D<=D:=by
  have d:qp (Ah N) D=(yk N D:Int):=by rw[Gk,Aj];rfl
  rw[d];exact Int.le_of_dvd h0<|Int.gcd_dvd_right ..
 have fn:=uF h0 (neg:=zr N) rfl;have e:(zj N D).num.natAbs<=N.natAbs:=(by grind [FM]);have u:(zj N D).den<=D.natAbs:=(by grind [FM]);have B4:=JE (m:=(zj N D).num) b e;have a:=JE (m:=((zj N D).den:Int)) c ae;have j:Ah (zj N D).num<(qf:Int)^3000:=(Vu B4).2.2;have t:=SL (N:=N) (D:=D);have o:=(zj N D).den_pos;have a0:=Ou (zj N D).num;refine zk (Al ..) ?_;conv=>zeta
 rw[i,M7,M7,l];generalize qp (Ah N) D=g at*;have f:=Ho (n:=g) (k:=3000) ae ae af;rw[f.2.2.1,fn,f1,f2,Qn];have r:=LH a0 j;refine zd ah (zd ah (zd ah<|zd ah<|zd B4<|A1 _ _ B4 a ae (fun h ob=>?_)<|fun h ob=>?_))
 ·grind
 grind
theorem ok[Srt]:Af A5 49 QL:=by
 refine BG xH<|fun(i:(Bool×List Int)×(Bool×List Int)) f=>?_;obtain⟨a,b⟩:=i;have f:(C0 a&&C0 b&&decide (qh b≠0))=true:=f;rw[zf,zf,w5]at f;obtain⟨⟨ha,hb⟩,h0⟩:=f;have j:=Abo ha;have h:=Abo hb;have k:∀ob,Ad QL (a,b) (.dat .str<|Db (qh a)<|qh b) ob:=fun ob=>zx rfl rfl rfl
 have e:=ha;have d:=hb;rw[j]at e;rw[h]at d;refine zp (Ak a b)<|zg (fun c=>zd ha<|zd hb ?_)<|fun c=>?_
 ·have g:qh b<0:=by
   have:=lU hb;rw[c]at this;exact w6 this.symm
  have:=Ar (Q:=Ad QL (a,b)) (-qh a) (-qh b) (JE e ae) (JE d ae) ae (by grind [V0]);exact this
 grind [Ar,zr]
end T49
theorem xX[Srt]:CL iO:=Aa T99.ok (by grind [Aa,T49.ok,T105.ok,T106.ok,Mw])
namespace T47
theorem VF{n:Int}(b: -9000000000000000000<=n)(a:n<=9000000000000000000):imax n (zc .i64<|0-n)=Ah n:=by
 grind [wr,imax,Ah]
theorem B2[Srt](n d:Int)(v:Rd)(g:v=AZ n)(b:v.length<=27001)(j:0<d)(h:d<9000000000000000000)(a:d=1->∀ob,Q (.dat .str<|AZ n) ob)(i:d≠1->∀ob,Q (.dat .str (AZ n++47::AZ d)) ob):Ends iO (L4 d v) Q:=by
 have f:=Wv d 1;have e:I2 d 1=AZ d:=by
  rw[Qo ae ae];unfold AZ yw;grind
 refine zk (BU ..) (zg (fun c=>zd ah<|zd ah<|zd ah<|ze ?_)<|fun c=>ze ?_)
 ·grind
 grind
theorem C9[Srt](n d:Int)(n1: -9000000000000000000<n)(j:n<9000000000000000000)(h:0<d)(f:d<9000000000000000000)(a:d=1->∀ob,Q (.dat .str<|AZ n) ob)(g:d≠1->∀ob,Q (.dat .str (AZ n++47::AZ d)) ob):Ends iO (L3 n d) Q:=by
 have k:=Wv (Ah n) 1;have i:=Aj n;have e:I2 (Ah n) 1=zi n.natAbs:=by
  grind [Qo]
 have b:=fL n;refine zk (BT ..) ?_;conv=>zeta
 rw[VF ae ae];have hr:(decide (0<=Ah n)&&decide (Ah n<9223372036854775808)&&decide ((0:Int)<=1)&&decide ((1:Int)<=20))=true:=Ac (Ac (by grind [Ac]) rfl) rfl;refine zg (fun c=>zd hr<|zd ah<|B2 n d _ ?_ ?_ h f a g) (fun c=>zd hr (zd ah<|B2 n d _ ?_ ?_ h f a g))
 ·have c:=w6 c;rw[wd c]at b;rw[e];exact b.symm
 ·grind
 ·have c:=w7 c;rw[wc c]at b;rw[e];exact b.symm
 grind
theorem A1[Srt](n d:Int)(n1: -9000000000000000000<n)(f:n<9000000000000000000)(c:0<d)(j:d<9000000000000000000)(k:∀ob,Q (.dat .str<|Db n d) ob):Ends iO (L2 n d) Q:=by
 obtain⟨q1,b⟩:=XI (N:=n) c;obtain⟨l1,l2⟩:=FM (n:=n) (d:=d) ae;have e:=Aj n;have g:=(zj n d).den_pos;have i:=SL (N:=n) (D:=d);refine zk (AL ..) ?_;conv=>zeta
 rw[VF ae ae,q1,b,wr _ ae ae,wr _ ae ae];have a:decide (qp (Ah n) d≠0)=true:=ah;refine zd (Ac (by grind [Ac]) ah) (zd a<|zd a<|C9 _ _ ae ae ae ae (fun h ob=>?_)<|fun h ob=>?_)
 ·grind
 grind
theorem ok[Srt]:Af A5 47 kI:=by
 refine BG xX<|fun(i:Int×Int) a=>?_;obtain⟨n,d⟩:=i;have a:(Cv n&&Cv d&&decide (d≠0))=true:=a;have h:∀ob,Ad kI (n,d) (.dat .str<|Db n d) ob:=fun ob=>zx rfl rfl rfl
 have b:(C0 (zr n,zq n)&&C0 (zr d,zq d)&&decide (qh (zr d,zq d)≠0))=true:=(by grind [Z7,Iw]);refine zp (Ak n d) ?_;conv=>zeta
 rw[QF];refine zg (by simp_all) (fun g=>zg (by simp_all) (fun e=>zg (by simp_all)<|fun f=>zg (by simp_all)<|fun j=>?_));refine zk (Al ..)<|zg (fun c=>?_)<|fun c=>?_
 ·grind [wr,A1,V0]
 grind [A1]
end T47
namespace T46
theorem no3[Srt]{Q:PV->Ob->Prop}(s:Rd)(neg:Bool)(b:s.length<=20)(h:9<(AF s).length\/9<(yg s).length)(a:∀ob,Q (.tup [.dat i64 0,.dat i64 0,.bl false]) ob):Ends OO (L3 s neg) Q/\Ends OO (L4 s) Q:=by
 obtain⟨f,d,e⟩:=BQ s;have es:A4 s=((AF s).length:Int):=rfl;have i:9<(yg s).length->(s.length:Int)-(AF s).length>10:=fun h=>by
  cases g:BF s with
  |true=>
   grind
  |false=>grind
 refine⟨zk (BT ..) (zd ah<|zg (fun _=>ze<|a _)<|fun c=>?_),zk (BU ..)<|zd ah<|zg (fun _=>ze<|a _)<|fun c=>?_⟩
 ·grind [zd,ze,wr]
 grind [zd,ze,wr]
theorem okG[Srt]:Af A5 46 OB:=by
 refine BG AaX<|fun(a:Rd) ha=>?_;obtain⟨_,_,k,db⟩:=QJ ha;by_cases b:En a=true
 ·have i:∀n ob,n=I6 a->Ad OB a (.tup [.dat i64 n,.dat i64<|if BF (A2 a)=true then AG 0 (yg<|A2 a)else 1,.bl true]) ob:=fun n ob h=>zx rfl rfl (by
   show(n,_,true)=(nB a,WH a,En a);unfold nB WH;rw[wd b,wd b,b,h];rfl)
  unfold En at b;rw[zf,zf,w5,w5,w5]at b;obtain⟨⟨e,l⟩,j⟩:=b;refine zp (Ak a) (zo ah ?_);cases a with
  |nil=>exact zo rfl (zk (AL ..)<|B2 [] e l j k db<|fun n ob h=>i n ob<|by rw[h];rfl)
  |cons c r=>
   have g:(c::r).getD 0 0=c:=rfl;rw[g];refine zd (by simp) (zd (by simp) (zk (Al ..)<|zg (fun d=>zd (by simp) ?_)<|fun d=>?_))
   ·have f:c=45:=by
     exact yo.1 ah
    have o:A2 (c::r)=r:=by simp_all [A2]
    have p:Sp.preB (c::r)=true:=by grind [Sp.preB]
    grind [I6,C9]
   ·have f:c≠45:=by rintro rfl;grind
    simp_all [A2,Sp.preB,I6,C9]
 ·have i:∀ob,Ad OB a (.tup [.dat i64 0,.dat i64 0,.bl false]) ob:=fun ob=>zx rfl rfl (by
   show((0:Int),(0:Int),false)=(nB a,WH a,En a);simp_all [nB,WH])
  refine zp (Ak a) (zg (by simp_all)<|fun e=>?_);have e:a.length<=20:=ah
  have m:9<(AF<|A2 a).length\/9<(yg<|A2 a).length:=by
   grind [En]
  cases a with
  |nil=>exact zo rfl (zk (AL ..) (no3 [] false e m i).2)
  |cons c r=>
   have g:(c::r).getD 0 0=c:=rfl;rw[g];refine zd (by simp) (zd (by simp)<|zk (Al ..)<|zg (fun d=>zd (by simp) ?_)<|fun d=>?_)
   ·have f:c=45:=by
     exact yo.1 ah
    have o:A2 (c::r)=r:=by simp_all [A2]
    grind [no3]
   ·have f:c≠45:=by rintro rfl;grind
    simp_all [A2,no3]
end T46
theorem Uf[Srt]:CL XR6:=Aa T46.okG (by grind [Aa,T47.ok,T48.ok,T50.ok,T51.ok,T49.ok,Mw])
theorem VB{x y:Int}(b: -1000000000<x)(c:x<1000000000)(a: -1000000000<y)(d:y<1000000000): -1000000000000000000<=x*y/\x*y<=1000000000000000000:=by
 have h:(x*y).natAbs<=1000000000*1000000000:=by
  rw[qe];exact Nat.mul_le_mul ae ae
 omega
theorem T16.ok[Srt]:Af A5 16 PF:=by
 refine BG Uf<|fun(i:Rd×Rd) c=>?_;obtain⟨a,b⟩:=i;have c:(Bk a&&Bk b)=true:=c;rw[zf]at c;obtain⟨ha,hb⟩:=c;obtain⟨a1,a2,a3,a4,a5,a6,a7,a8,a9⟩:=Ei ha;obtain⟨b1,b2,b3,b4,b5,b6,b7,b8,b9⟩:=Ei hb;have ad:=(Au a).den_pos;have G:=(Au b).den_pos;have eq:=(dZ ha hb).2;have x:∀ob,Ad PF (a,b) (.dat .str<|Db (Bi a*AX b+Bi b*AX a)<|AX a*AX b) ob:=fun ob=>zx rfl rfl eq.symm
 have g:Ends XR6 (T16.L1 a b) (Ad PF (a,b)):=by
  have w:BV a=zr (Bi a):=rfl;have l:BM a=zq (Bi a):=rfl;have q:BC a=zr (AX a):=rfl;have B:Br a=zq (AX a):=rfl;have u:BV b=zr (Bi b):=rfl;have s:BM b=zq (Bi b):=rfl;have C:BC b=zr (AX b):=rfl;have y:Br b=zq (AX b):=rfl;refine zk (T16.Al ..) ?_;conv=>zeta
  simp only[w,l,q,B,u,s,C,y,R4,RR,tP,pP,QF,Iw];have e:=DK a8 b9;have d:=DK b8 a9;have f:=DK a9 b9;rw[<-qe]at e d f;have t:=Nat.lt_of_le_of_lt (Int.natAbs_add_le (Bi a*AX b)<|Bi b*AX a)<|rG (k:=4000+4000) e d;have o:=Ng e af;have z:=Ng d af;have r:=Ng f af;have A:=Ng t af;have n:AX a*AX b≠0:=(by grind [yp]);exact zd a7<|zd b7<|zd (Ac a1 b3)<|zd (Ac b1 a3)<|zd (Ac o z)<|zd (Ac a3 b3)<|zd (Ac (Ac A r)<|w4 n)<|ze<|x _
 refine zp (T16.Ak a b) (zd ha<|zd hb<|zg (fun j=>zg (fun v=>?_) ah) ah);obtain⟨D,I,p,m,E,h⟩:=GB ha j;obtain⟨y1,y2,y3,y4,y5,y6⟩:=GB hb v;have J:=VB p m ae y6;have F:=VB y3 y4 ae h;have K:=VB ae h ae y6;grind [yp,wr,zd,EX,ze]
theorem T96.ok[Srt]:Af A5 96 VX:=by
 refine BG Uf<|fun(i:Rd×Rd) c=>?_;obtain⟨a,b⟩:=i;have c:(Bk a&&Bk b)=true:=c;rw[zf]at c;obtain⟨ha,hb⟩:=c;obtain⟨a1,a2,a3,a4,a5,a6,a7,a8,a9⟩:=Ei ha;obtain⟨b1,b2,b3,b4,b5,b6,b7,b8,b9⟩:=Ei hb;have ad:=(Au a).den_pos;have v:=(Au b).den_pos;have x:∀ob,Ad VX (a,b) (.dat .str<|Db (Bi a*Bi b)<|AX a*AX b) ob:=fun ob=>zx rfl rfl (fX).symm
 have d:Ends XR6 (T96.L1 a b) (Ad VX (a,b)):=by
  have n:BV a=zr (Bi a):=rfl;have f:BM a=zq (Bi a):=rfl;have j:BC a=zr (AX a):=rfl;have q:Br a=zq (AX a):=rfl;have l:BV b=zr (Bi b):=rfl;have k:BM b=zq (Bi b):=rfl;have r:BC b=zr (AX b):=rfl;have o:Br b=zq (AX b):=rfl;refine zk (T96.Al ..) ?_;conv=>zeta
  simp only[n,f,j,q,l,k,r,o,R4,RR,QF,Iw];have A:=DK a8 b8;have s:=DK a9 b9;grind [Ng,yp,zd,ze]
 refine zp (T96.Ak a b) (zd ha<|zd hb<|zg (fun e=>zg (fun m=>?_) ah) ah);obtain⟨t,w,h,g,u,p⟩:=GB ha e;obtain⟨y1,y2,y3,y4,y5,y6⟩:=GB hb m;have y:=VB h g y3 y4;have z:=VB ae p ae y6;grind [yp,wr,zd,EX,ze]
theorem T97.ok[Srt]:Af A5 97 AbW:=by
 refine BG Uf<|fun(a:Rd) hi=>?_;obtain⟨b,h0⟩:=sJ hi;obtain⟨a1,a2,a3,a4,a5,a6,a7,a8,a9⟩:=Ei (JN b).1;refine zp (T97.Ak a)<|zd a7<|zd (Ac (Ac a3 a1) ?_)<|ze<|zx rfl rfl ?_
 ·rw[a2];exact w4 fun e=>(by simp_all)
 ·unfold Jf;rw[a2,a4];exact hO.symm
theorem aB[Srt]:CL XR7:=Aa T97.ok<|Aa T96.ok<|Aa T16.ok<|Aa T103.ok AI
theorem lK{s:Rd}(h:Gx s=true):Bk (Md s)=true/\Au (Md s)= -Au s:=by
 obtain⟨b,c⟩:=JN h;obtain⟨t,_⟩:=GC b;have e:Md s=AQ (-Au s):=by
  have:=mU<|Au s;rwa [t]at this
 have r:Au (Md s)= -Au s:=by rw[e,CD]
 refine⟨?_,r⟩;have a:(Md s).length<=4000:=by
  unfold Md;split
  ·omega
  ·split
   ·rw[zz];omega
   ·rw[zm];omega
 unfold Bk;rw[r, <-e,w4 rfl,w4 a];rfl
theorem T45.ok[Srt]:Af A5 45 AbP:=by
 refine BG aB<|fun(i:Rd×Rd) c=>?_;obtain⟨a,b⟩:=i;have c:(Bk a&&Gx b)=true:=c;rw[zf]at c;obtain⟨ha,hb⟩:=c;obtain⟨n1,n2⟩:=lK hb;have d:=(JN hb).2;refine zp (T45.Ak a b) (zd (w4 ae)<|zd (Ac ha n1)<|ze<|zx rfl rfl ?_);show C8 a (Md b)=X4 a b;unfold C8 X4;rw[n2,Rat.sub_eq_add_neg]
theorem iU{s:Rd}(h:mB s=true):Bk (TD s)=true:=by
 obtain⟨b,h0⟩:=sJ h;obtain⟨b,h2⟩:=JN b;obtain⟨t,_⟩:=GC b;have a:(AQ<|Au s).length<=3000:=by rw[t];exact h2
 unfold TD;generalize Au s=q at*;have l1:(zi q.num.natAbs).length<=(yw q.num).length:=by
  unfold yw;split
  ·rw[zm];omega
  ·rw[show q.num.toNat=q.num.natAbs by omega];exact yc _
 have key:(AQ q⁻¹).length<=(zi q.num.natAbs).length+(zi q.den).length+2:=by
  have g:=Rat.inv_def q;have f:q.num≠0:=fun e=>h0<|Rat.num_eq_zero.mp e
  have i:=q.den_pos;have m:=FM (n:=(q.den:Int)) (d:=q.num) f;rw[<-g,Int.natAbs_natCast]at m;have k:=Wf m.1;have l:=Wf m.2;have j:(yw q⁻¹.num).length<=(zi q⁻¹.num.natAbs).length+1:=by
   unfold yw;split
   ·rw[zm];omega
   ·rw[show q⁻¹.num.toNat=q⁻¹.num.natAbs by omega];omega
  unfold AQ;split
  ·omega
  ·rw[z7,zm];omega
 have o:(zi q.num.natAbs).length+(zi q.den).length<=3001:=by
  unfold AQ at a;split at a
  ·next c=>rw[c,Lib.decDigits_one (show 1<10 by decide),List.length_singleton];omega
  ·rw[z7,zm]at a;omega
 unfold Bk;rw[CD,w4 rfl,w4 ae];rfl
theorem T36.ok[Srt]:Af A5 36 Abq:=by
 refine BG aB<|fun(i:Rd×Rd) c=>?_;obtain⟨a,b⟩:=i;have c:(Bk a&&mB b)=true:=c;rw[zf]at c;obtain⟨ha,hb⟩:=c;refine zp (T36.Ak a b)<|zd hb<|zd (Ac ha<|iU hb)<|ze<|zx rfl rfl ?_;show Nr a (TD b)=TO a b;unfold Nr TO TD;rw[CD,Rat.div_def]
theorem bQ[Srt]:CL XR8:=Aa T45.ok<|Aa T44.ok<|Aa T100.ok<|Aa T41.ok<|Aa T42.ok<|Aa T43.ok AI
theorem T15.ok[Srt]:Af A5 15 qI:=by
 refine BG bQ<|fun(i:Rd×Rd) d=>?_;obtain⟨a,b⟩:=i;have d:(Bk a&&Gx b)=true:=d;have c:=d;rw[zf]at c;obtain⟨ha,hb⟩:=c;have z:=(TP ha).sub<|TP (JN hb).1;refine zp (T15.Ak a b) (zd d<|zd (w4<|K3 z af)<|ze<|zx rfl rfl ?_);show Ha (X4 a b)=Cf a b;unfold X4;rw[R9,pX];rfl
theorem T35.ok[Srt]:Af A5 35 Tm:=by
 refine BG bQ<|fun(a:Rd) ha=>?_;have e:a.length<=1000000:=w6 ha;have f:=(qm a).1;have b:∀v ob,v=Fl a->Ad Tm a (.dat i64 v) ob:=fun v ob h=>zx rfl rfl h
 unfold Fl at b;refine zp (T35.Ak a) (zd ha<|zd (w4 ae)<|zg (fun c=>ze<|b _ _ ?_)<|fun c=>zd ha<|zg (fun d=>ze<|b _ _ ?_)<|fun d=>ze<|b _ _ ?_)
 ·have c:=w6 c;rw[wd<|.inl ae]
 ·have d:=w6 d;rw[wd<|.inr ae]
 ·have c:=w7 c;have d:=w7 d;rw[wc ae]
theorem eB{f:Ab}{q:Rat}(h:EP f q){k:Nat}(z:Cu k q)(c:k<=4000):A9 (FX f.1 f.2)=true/\Sp.vI (FX f.1 f.2)=q.floor:=by
 have s:=TC z c;have a:=h.den_pos;have d:=aS h.n (by rw[h.vn];exact yv s.1<|AT af af);have b:Sp.vI (FX f.1 f.2)=q.floor:=by rw[kZ a,h.vn,h.vd,Rat.floor_def]
 refine⟨aS (aE d a) ?_,b⟩;have e:=(VS z).1;rw[Rat.num_intCast]at e;rw[b];exact yv (Uy e) (AT af ae)
end Go.Pe
namespace Go.Sp
theorem Wk(q:Rat):OS (AQ q)=max (zi q.num.natAbs).length (zi q.den).length:=by
 unfold OS;rw[(E5 q).1,(CX q.num).2.1,Q2]
theorem Uz{s:Rd}(h:Av s=0):Nu (OS s) s (Au s):=by
 obtain⟨n,_⟩:=Dg h;have e:=(GC n).1;have a:=Wk<|Au s;rw[e]at a;exact⟨e.symm,BP _ (by rw[a];exact Nat.le_max_left ..),BP _<|by rw[a];exact Nat.le_max_right ..⟩
theorem De(x:Int)(l:List Int):first (x::l)=if x≠0 then x else first l:=by
 by_cases h:x=0
 ·subst h;rw[wc (by simp),first];rfl
 ·rw[wd h,first];simp[h]
theorem FT(b:Bool)(e:Int):Cd b e=if b=true then e else 0:=by cases b<;>rfl
theorem RF{α:Type}{l r:List α}{x:α}{i:Nat}(h:l.drop i=x::r):l.take (i+1)=l.take i++[x]:=by
 have a:i<l.length:=by
  rcases Nat.lt_or_ge i l.length with h1|h1
  ·exact h1
  ·rw[zt h1]at h;cases h
 have b:=List.drop_eq_getElem_cons a;rw[h]at b;simp only[List.cons.injEq]at b;rw[List.take_add_one,ya a,b.1];rfl
end Go.Sp
namespace Go.Pe
open Sp
open Go.Det
section
open List Int Prod
namespace T228
def T[Srt](l:List BJ):Tr:=tree XT1 false 9 228<|Ag ([zl Hb]) l
def L1[Srt](b:List BJ)(c a:Int):Tr:=re ((T []).L.L.L.R)<|Ay 66 [(5,.nil),(23,.dat (zl Hb) b),(24,.dat i64 c),(25,.dat i64 a)] [] 0
theorem Ak[Srt](l:List BJ):T l=let a:=(length l:Int);.ck true (.ck true<|.ck (decide (2<=2)&&true&&decide (2<=1000000))<|.ite (Sp.first [Cd (a==0) 12,Cd (decide (a>64)) 5] !=0) (.leaf (.tup [.nil,.dat i64<|Sp.first [Cd (a==0) 12,Cd (decide (a>64)) 5]]) [])<|L1 l a 0):=by kernel_rfl
def L2[Srt](c:Nat)(d:List BJ)(a b:Int)(e:List (Ab×Ab)):Tr:=re ((stepT XT1<|L1 [] 0 0).L.L.L.R.L.L.R.L)<|Ay 66 [(5,.sl 0 8 0 c none),(23,.dat (zl Hb) d),(24,.dat i64 a),(25,.dat i64 b)] [(0,.arr false 269 (yr Ai Ai) e)] 1
theorem Al[Srt](c:List BJ)(d a:Int):stepT XT1 (L1 c d a)=let b:=getD c (toNat a) ([],[]);.di (a<d) (.ck (decide (0<=a)&&decide (a<(length c:Int)))<|.ck (decide (2<=2)&&true&&(decide (2<=1000)&&List.all [fst b,snd b] fun s=>decide (length s<=1000000)))<|.ite (BW [fst b,snd b] !=0) (.leaf (.tup [.nil,.dat i64<|BW [fst b,snd b]]) [])<|.ck (Dc<|fst b)<|.ck (Dc<|snd b)<|.di (a>0) .fail<|.ck (aa 128)<|L2 1 c d (zc .i64<|a+1)<|[((BR<|fst b),(Ro<|snd b,Rz<|snd b),Pz<|snd b,Pk<|snd b)]) (.leaf (.tup [.nil,.dat i64 (0:Int)]) []):=by kernel_rfl
theorem AL[Srt](c:Nat)(d:List BJ)(e a:Int)(f:List (Ab×Ab)):stepT XT1 (L2 c d e a f)=let b:=getD d (toNat a) ([],[]);let i:=zc .i64<|a-1;let b':=fst<|getD f (toNat i) (((0,[]),0,[]),(0,[]),0,[]);let g:=BR<|fst b;let j:Tr:=.ck (ac c (length f) 128)<|L2 (qo c 1) d e (zc .i64<|a+1)<|f++[(g,(Ro<|snd b,Rz<|snd b),Pz<|snd b,Pk<|snd b)];let h:=((fst b'),fst<|snd b',snd<|snd b');.di (a<e) (.ck (decide (0<=a)&&decide (a<(length d:Int)))<|.ck (decide (2<=2)&&true&&(decide (2<=1000)&&List.all [fst b,snd b] fun s=>decide (length s<=1000000)))<|.ite (BW [fst b,snd b] !=0) (.leaf (.tup [.nil,.dat i64<|BW [fst b,snd b]]) [])<|.ck (Dc<|fst b)<|.ck (Dc<|snd b)<|.di (a>0) (.ck (decide (0<=zc .i64 (a-1))&&decide (zc .i64 (a-1)<(↑c:Int)))<|.cd (toNat i<length f)<|.ck (Sp.B8 g&&Sp.B8 h)<|.di (CW g h<=0) (.leaf (.tup [.nil,.dat i64 (11:Int)]) []) j) j) (.leaf (.tup [.sl 0 8 0 c none,.dat i64 (0:Int)])<|[(0,.arr false 269 (yr Ai Ai) f)]):=by kernel_rfl
end T228
namespace T195
def T[Srt](l:List Sp.BJ):Tr:=tree XT2 false 9 195<|Ag ([zl Hb]) l
theorem Ak[Srt](l:List Sp.BJ):T l=.ck (decide (length l<=1000)&&Sp.RA 1000000 l) (.leaf (.dat i64<|Sp.CN l) []):=by kernel_rfl
end T195
end
end Go.Pe
namespace Go.Sp
theorem Z8{k:Nat}{t:List BJ}(h:RA k t=true):∀p∈t,p.1.length<=k/\p.2.length<=k:=by
 unfold RA at h;rw[List.all_eq_true]at h;intro p hp;have:=h p hp;rw[zf,w5,w5]at this;exact this
theorem Rb(a b:Rd):Cf a b<=0↔¬Au b<Au a:=by
 unfold Cf;by_cases h:Au a<Au b
 ·rw[wd h];exact⟨fun _=>Rat.not_lt.2<|Rat.le_of_lt h,fun _=>by decide⟩
 ·rw[wc h];by_cases k:Au b<Au a
  ·rw[wd k];exact⟨fun x=>wh x af,fun x=>wh k x⟩
  ·rw[wc k];exact⟨fun _=>k,fun _=>by decide⟩
theorem Np(p:BJ)(l:List BJ):E6 none (p::l)=if Oc p.1 p.2≠0 then Oc p.1 p.2 else E6 (some p) l:=by
 rw[E6]
theorem Sw(q p:BJ)(l:List BJ):E6 (some q) (p::l)=if Oc p.1 p.2≠0 then Oc p.1 p.2 else if Cf p.1 q.1<=0 then 11 else E6 (some p) l:=by
 rw[E6]
theorem qB(o:Option BJ):E6 o []=0:=by rw[E6]
end Go.Sp
namespace Go.Pe
open Sp
open Go.Det
theorem nC{s:Sh}{sz:Nat}(b:s.sz=sz){id n:Nat}{tail:Ob}{fz:Bool}{t:TypeId}{o:List s.T}{e:Int}(g:n=o.length):Lv [.list s,i64] (.tup [.sl id sz 0 n none,.dat i64 e]) ((id,.arr fz t s o)::tail)=some (true,(o,e)):=by
 subst g b;have a:AS ((id,Obj.arr fz t s o)::tail) id=some (.arr fz t s o):=by unfold AS;rw[qt];rfl
 have h0:Hc ⟨0,.leaf,(id,.arr fz t s o)::tail,0⟩ (.list s) (.sl id s.sz 0 o.length none)=some (true,o):=by
  unfold Hc;have f:DB ⟨0,.leaf,(id,.arr fz t s o)::tail,0⟩ (PV.cells<|.sl id s.sz 0 o.length none)=some (true,[.dat (.list s) o]):=by
   show(match Cr ⟨0,.leaf,(id,.arr fz t s o)::tail,0⟩ (.sl id s.sz 0 o.length none),some (true,[])with|some (c,x),some (d,h)=>some (c&&d,x::h)|_,_=>none)=_;have:Cr ⟨0,.leaf,(id,.arr fz t s o)::tail,0⟩ (.sl id s.sz 0 o.length none)=some (true,.dat (.list s) o):=by
    unfold Cr AN.obj;simp only[a,qt,we];simp
   rw[this];rfl
  simp only[Oh,Sh.N4];show(match DB ⟨0,.leaf,(id,.arr fz t s o)::tail,0⟩ (PV.cells<|.sl id s.sz 0 o.length none)with|some (c,cs)=>_|none=>none)=_;rw[f];have:Dp (.list s) [PV.dat (.list s) o]=some o:=by
   unfold Dp CB zG EA;simp
  simp only[Xs,this,Bool.true_and]
 unfold Lv HJ;simp only;unfold C6;rw[h0];rfl
theorem vP[Srt]:CL XT1:=Aa T138.ok<|Aa T139.ok<|Aa T252.ok<|Aa T66.ok<|Aa T81.ok AI
theorem Z4{a b:Rd}(c:Av a=0)(d:Av b=0):CW (frS a) (frS b)=Cf a b:=by
 rw[EP.cmp (Jr (Dg c).1)<|Jr (Dg d).1];rfl
theorem FU{a:Rd}(b:Av a=0):Sp.B8 (frS a)=true/\Dc a=true:=by
 obtain⟨n,z⟩:=Dg b;exact⟨(Jr n).B8 (TC z af),(Ei n).2.2.2.2.2.2.1⟩
namespace T228
theorem Agk{p:BJ}{k:Nat}(h:p.1.length<=k/\p.2.length<=k)(a:k<=1000000):(decide ((2:Nat)<=2)&&true&&(decide ((2:Nat)<=1000)&&List.all [p.1,p.2] fun s=>decide (List.length s<=1000000)))=true:=by
 show(decide (p.1.length<=1000000)&&(decide (p.2.length<=1000000)&&true))=true;rw[w4 ae,w4 ae];rfl
theorem eH(t:List BJ)(i:Nat)(p:BJ)(h:i<t.length)(hp:t.getD i ([],[])=p):(t.take i).map Ef++[(BR p.1,BR p.2)]=(t.take<|i+1).map Ef:=by
 rw[List.take_add_one,List.map_append];congr 1;rw[z6]at hp;rw[ya h]at hp ⊢;have hp:t[i]=p:=hp;rw[hp];rfl
theorem A1[Srt](t:List BJ)(u:t.length<=64)(v:RA 1000000 t=true)(a:∀e ob,e≠0->E6 none t=e->Q (.tup [.nil,.dat i64 e]) ob)
  (g:E6 none t=0->Q (.tup [.sl 0 8 0 ((t.take t.length).map Ef).length none,.dat i64 0]) [(0,.arr false 269 ZB<|(t.take t.length).map Ef)]):
  ∀(r:List BJ) (i n:Nat) (q:BJ),t.drop i=r->1<=i->i<=t.length->n=((t.take i).map Ef).length->t.getD (i-1) ([],[])=q->Av q.1=0->E6 none t=E6 (some q) r->Ends XT1 (L2 n t (t.length:Int) (i:Int)<|(t.take i).map Ef) Q
 |[],i,n,q,h,z,x,o,k,l,b=>by
  have:=drop_nil h x;have e:i=t.length:=ae
  subst e;rw[qB]at b;rw[o];exact zk (AL ..) (zo (w8 ae)<|ze<|g b)
 |p::r,i,n,q,h,z,x,o,k,l,b=>by
  obtain⟨w,s,E⟩:=drop_cons (d:=(([],[]):BJ)) h;have C:p∈t:=List.mem_of_mem_drop (by rw[h];exact List.mem_cons_self ..);have hp:=Z8 v p C;have G:n=i:=by rw[o,yq,yj];omega
  have I:=wn (i:=i) ae;have A:zc .i64 ((i:Int)-1)=((i-1:Nat):Int):=by rw[wr _ ae ae];omega
  have B:∀d,((t.take i).map Ef).getD (i-1) d=Ef q:=by
   intro d;rw[z6,List.getElem?_map,List.getElem?_take_of_lt ae];rw[z6,ya ae]at k;rw[ya ae];have k:t[i-1]=q:=k;rw[k];rfl
  have F:((t.take i).map Ef).length=i:=by rw[yq,yj];omega
  rw[Sw]at b;refine zk (AL ..) ?_;conv=>zeta
  rw[I,A,zh,zh,s,B];refine zd (w4 ae) (zd (ad ae ae)<|zd (Agk hp<|yc _)<|zg (fun c=>ze ?_)<|fun c=>?_)
  ·have c:BW [p.1,p.2]≠0:=by simpa using c
   have j:Oc p.1 p.2≠0:=c;rw[wd j]at b;exact a _ _ j b
  ·have c:BW [p.1,p.2]=0:=by simpa using c
   have j:Oc p.1 p.2=0:=c;rw[wc<|by rw[j];decide]at b;obtain⟨m,J⟩:=JO j;have y:=FU m;have D:=FU J;have K:=FU l;have f:CW (BR p.1) (Ef q).1=Cf p.1 q.1:=Z4 m l;refine zd y.2 (zd D.2<|zd (w4 ae)<|zd (ad ae ae)<|zd (w4 ae)<|zd (Ac y.1 K.1)<|zg (fun d=>ze ?_)<|fun d=>?_)
   ·have d:=w6 d;have d:CW (BR p.1) (Ef q).1<=0:=d;rw[f]at d;rw[wd d]at b;exact a 11 _ af b
   ·have d:=w7 d;have d:¬CW (BR p.1) (Ef q).1<=0:=d;rw[f]at d;rw[wc d]at b;have go:=A1 t u v a g r (i+1) (n+1) p E ae w (by rw[yq,yj];omega) (by rw[yi];exact s) m b;rw[<-eH t i p w s]at go;refine zd (Ac (Ac (Ac rfl rfl)<|w4 ae)<|w4 ae) go
theorem ok[Srt]:Af A5 228 cJ:=by
 refine BG vP<|fun(t:List (Rd×Rd)) d=>?_;have d:(decide (t.length<=1000)&&RA 1000000 t)=true:=d;rw[zf,w5]at d;obtain⟨v,hp⟩:=d;have a:∀e ob,e≠0->CN t=e->Ad cJ t (.tup [.nil,.dat i64 e]) ob:=fun e ob h k=>zx (y:=([],e)) rfl rfl (by
  show([],e)=(VU t,CN t);unfold VU;rw[wd (by rw[k];exact h),k])
 have l:Sp.first [Cd ((t.length:Int)==0) 12,Cd (decide ((t.length:Int)>64)) 5]=if t=[]then 12 else if 64<t.length then 5 else 0:=by
  rw[JZ];by_cases h:t=[]
  ·rw[wd h,h];rfl
  ·have f:((t.length:Int)==0)=false:=by
    have:t.length≠0:=fun k=>h<|yy.1 k
    simp;omega
   rw[wc h,f,wc af];by_cases k:64<t.length
   ·rw[wd k,w4<|show(t.length:Int)>64 by omega];rfl
   ·rw[wc k,w8<|show ¬(t.length:Int)>64 by omega];rfl
 refine zp (Ak t) ?_;conv=>zeta
 rw[l];refine zd rfl (zd rfl (zd rfl ?_));by_cases h:t=[]
 ·rw[wd h];exact zd rfl (ze<|a 12 _ af<|by unfold CN;rw[wd h])
 ·rw[wc h];by_cases k:64<t.length
  ·rw[wd k];exact zd rfl (ze<|a 5 _ af<|by unfold CN;rw[wc h,wd k])
  ·rw[wc k];have i:CN t=E6 none t:=by unfold CN;rw[wc h,wc k]
   refine zo rfl ?_;obtain⟨p,r,rfl⟩:∃p r,t=p::r:=by
    cases t with
    |nil=>exact wh rfl h
    |cons p r=>exact⟨p,r,rfl⟩
   have o:(p::r).getD 0 ([],[])=p:=rfl;have g:=Z8 hp p<|List.mem_cons_self ..;refine zk (Al ..) ?_;conv=>zeta
   rw[show Int.toNat 0=0 from rfl,o];refine zd (w4<|by rw[zm];omega) (zd (Ac rfl (w4<|by rw[zm];omega))<|zd (Agk g<|yc _)<|zg (fun c=>ze ?_)<|fun c=>?_)
   ·have c:BW [p.1,p.2]≠0:=by simpa using c
    have b:Oc p.1 p.2≠0:=c;exact a _ _ b (by rw[i,Np,wd b];rfl)
   ·have c:BW [p.1,p.2]=0:=by simpa using c
    have b:Oc p.1 p.2=0:=c;obtain⟨j,s⟩:=JO b;have u:=FU j;have n:=FU s;have q:zc .i64 ((0:Int)+1)=((1:Nat):Int):=rfl;rw[q];have go:=A1 (Q:=Ad cJ (p::r)) (p::r) ae hp (fun e ob f m=>a e ob f<|by rw[i];exact m) (fun h0=>zx (nC rfl rfl) rfl (by
     show(((p::r).take (p::r).length).map Ef,(0:Int))=(VU (p::r),CN (p::r));unfold VU;rw[i,h0,wc af,List.take_length])) r 1 1 p rfl af (by rw[zm];omega) (by rw[yq,yj,zm];omega) rfl j (by rw[Np,wc<|by rw[b];decide])
    exact zd u.2<|zd n.2<|zo rfl (zd rfl go)
end T228
theorem zR[Srt]:CL XT2:=Aa T228.ok AI
theorem T195.ok[Srt]:Af A5 195 aY:=by
 refine BG zR<|fun(t:List (Rd×Rd)) hi=>?_;exact zp (T195.Ak t)<|zd hi<|ze<|zx rfl rfl rfl
end Go.Pe
namespace Go.Sp
theorem AdB{s:Rd}(h:Bk s=true){k:Nat}(b:s.length<=k)(d:1<=k):Nu k s (Au s):=by
 obtain⟨a,_⟩:=GC h;have e:(AQ<|Au s).length<=k:=by rw[a];exact b
 refine⟨a.symm,?_⟩;generalize Au s=q at*;have f:(zi q.num.natAbs).length<=(yw q.num).length:=by
  unfold yw;split
  ·rw[zm];omega
  ·rw[show q.num.toNat=q.num.natAbs by omega];exact yc _
 unfold AQ at e;split at e
 ·next c=>exact⟨BP (k:=k) _ ae,by rw[c];exact Ky k ae⟩
 ·rw[z7,zm]at e;exact⟨BP (k:=k) _ ae,BP (k:=k) _ ae⟩
theorem sQ{s:Rd}(h:Av s=0){k:Nat}(a:s.length<=k)(b:1<=k):Nu k s (Au s):=AdB (Dg h).1 a b
def pt(p:BJ):Rat×Rat:=(Au p.1,Au p.2)
theorem Wi(p:Rat×Rat)(l:List (Rat×Rat))(x:Rat):U8 none (p::l) x=if p.1<x then U8 (some p) l x else p.2:=by rw[U8]
theorem Vd(a b:Rat×Rat)(l:List (Rat×Rat))(x:Rat):U8 (some a) (b::l) x=if b.1<x then U8 (some b) l x else a.2+(b.2-a.2)*(x-a.1)/(b.1-a.1):=by rw[U8]
theorem vC(p:Rat×Rat)(x:Rat):U8 (some p) [] x=p.2:=by rw[U8]
theorem GF{t:List BJ}(h:CN t=0):t≠[]/\t.length<=64/\E6 none t=0:=by
 unfold CN at h;split at h
 ·exact wh h af
 ·next k=>
  split at h
  ·exact wh h af
  ·exact⟨k,by omega,h⟩
theorem Ja{q p:BJ}{l:List BJ}(h:E6 (some q) (p::l)=0):Av p.1=0/\Av p.2=0/\Au q.1<Au p.1/\E6 (some p) l=0:=by
 rw[Sw]at h;split at h
 ·next k=>exact wh h k
 ·next k=>
  split at h
  ·exact wh h af
  ·next d=>
   obtain⟨e,c⟩:=JO (a:=p.1) (b:=p.2) ae;rw[Rb]at d;exact⟨e,c,Classical.not_not.1 d,h⟩
theorem Me{p:BJ}{l:List BJ}(h:E6 none (p::l)=0):Av p.1=0/\Av p.2=0/\E6 (some p) l=0:=by
 rw[Np]at h;split at h
 ·next k=>exact wh h k
 ·next k=>
  obtain⟨d,c⟩:=JO (a:=p.1) (b:=p.2) ae;exact⟨d,c,h⟩
theorem Po{p q:Rat}(h:q<p):p-q≠0:=fun e=>by
 have:=(Rat.lt_iff_sub_pos q p).1 h;rw[e]at this;exact qj this
end Go.Sp
namespace Go.Pe
open Sp
open Go.Det
structure RS(k:Nat)(f:Ab)(q:Rat):Prop where
 r:EP f q
 z:Cu k q
theorem RS.mono{i j:Nat}{f:Ab}{q:Rat}(h:RS i f q)(k:i<=j):RS j f q:=⟨h.r,h.z.mono k⟩
theorem RS.s{k:Nat}{f:Ab}{q:Rat}(h:RS k f q)(a:k<=4000):Lh 4000 q:=TC h.z a
theorem RS.B4{k:Nat}{f:Ab}{q:Rat}(h:RS k f q)(a:k<=4000):Sp.B4 f=true:=h.r.B4<|h.s a
theorem RS.B8{k:Nat}{f:Ab}{q:Rat}(h:RS k f q)(a:k<=4000):Sp.B8 f=true:=h.r.B8<|h.s a
theorem RS.N3{i j:Nat}{f g:Ab}{p q:Rat}(d:RS i f p)(c:RS j g q)(b:i<=4000)(a:j<=4000):(Sp.B4 f&&Sp.B4 g)=true:=Ac (d.B4 b)<|c.B4 a
theorem RS.add{i j:Nat}{f g:Ab}{p q:Rat}(b:RS i f p)(a:RS j g q)(d:i<=4000)(c:j<=4000):RS (i+j+1) (BI f g) (p+q):=⟨EP.add b.r a.r (b.s d)<|a.s c,b.z.add a.z⟩
theorem RS.sub{i j:Nat}{f g:Ab}{p q:Rat}(b:RS i f p)(a:RS j g q)(d:i<=4000)(c:j<=4000):RS (i+j+1) (E9 f g) (p-q):=⟨EP.sub b.r a.r (b.s d)<|a.s c,b.z.sub a.z⟩
theorem RS.mul{i j:Nat}{f g:Ab}{p q:Rat}(b:RS i f p)(a:RS j g q)(d:i<=4000)(c:j<=4000):RS (i+j) (Fq f g) (p*q):=⟨EP.mul b.r a.r (b.s d)<|a.s c,b.z.mul a.z⟩
theorem RS.div{i j:Nat}{f g:Ab}{p q:Rat}(b:RS i f p)(a:RS j g q)(d:i<=4000)(c:j<=4000)(h0:q≠0):RS (i+j) (Jb f g) (p/q):=⟨EP.div b.r a.r (b.s d) (a.s c) (TC (a.z.inv h0) c) h0,b.z.div a.z h0⟩
theorem RS.ok3{i j:Nat}{f g:Ab}{p q:Rat}(d:RS i f p)(a:RS j g q)(c:i<=4000)(b:j<=4000)(h0:q≠0):(Sp.B4 f&&Sp.B4 g&&decide (Sp.vI g.1≠0))=true:=Ac (d.N3 a c b)<|a.r.IU.trans<|w4 h0
theorem RS.cmp{i j:Nat}{f g:Ab}{p q:Rat}(b:RS i f p)(a:RS j g q):CW f g=if p<q then -1 else if q<p then 1 else 0:=EP.cmp b.r a.r
theorem RS.Rb{i j:Nat}{f g:Ab}{p q:Rat}(b:RS i f p)(a:RS j g q):CW f g<=0↔p<=q:=by
 rw[b.cmp a];by_cases h:p<q
 ·rw[wd h];exact⟨fun _=>Rat.le_of_lt h,fun _=>by decide⟩
 ·rw[wc h];by_cases k:q<p
  ·rw[wd k];exact⟨fun x=>wh x af,fun x=>wh k<|Rat.not_lt.2 x⟩
  ·rw[wc k];exact⟨fun _=>Rat.not_lt.1 k,fun _=>by decide⟩
theorem RS.Us{i j:Nat}{f g:Ab}{p q:Rat}(b:RS i f p)(a:RS j g q):CW f g<0↔p<q:=by
 rw[b.cmp a];by_cases h:p<q
 ·rw[wd h];exact⟨fun _=>h,fun _=>by decide⟩
 ·rw[wc h];by_cases k:q<p
  ·rw[wd k];exact⟨fun x=>wh x af,fun x=>wh x h⟩
  ·rw[wc k];exact⟨fun x=>wh x af,fun x=>wh x h⟩
theorem RS.Nk{i j:Nat}{f g:Ab}{p q:Rat}(b:RS i f p)(a:RS j g q):CW f g>0↔q<p:=by
 have h:=b.Rb a;constructor
 ·intro k;exact Rat.not_le.1 fun x=>by have:=h.2 x;omega
 ·intro k;have:¬CW f g<=0:=fun x=>Rat.not_le.2 k<|h.1 x
  omega
theorem RS.cmp_eq{i j:Nat}{f g:Ab}{p q:Rat}(b:RS i f p)(a:RS j g q):CW f g=0↔p=q:=by
 rw[b.cmp a];exact W6 p q
theorem RS.N1{k:Nat}{f:Ab}{q:Rat}(h:RS k f q):(Qk f<0↔q<0)/\(Qk f=0↔q=0):=by
 have e:Qk f=Sp.N1 q.num:=by unfold Qk;rw[h.r.vn]
 have n1:=Sp.neg_num q;rw[e];unfold Sp.N1;constructor
 ·rw[<-n1.1];split
  ·next c=>exact⟨fun _=>c,fun _=>by decide⟩
  ·next c=>
   split
   ·exact⟨fun x=>wh x af,fun x=>wh x c⟩
   ·exact⟨fun x=>wh x af,fun x=>wh x c⟩
 ·split
  ·next c=>exact⟨fun x=>wh x af,fun x=>wh (n1.1.1 c)<|by rw[x];exact qj⟩
  ·next c=>
   split
   ·next d=>exact⟨fun x=>wh x af,fun x=>wh (n1.2.1 d)<|by rw[x];exact qj⟩
   ·next d=>exact⟨fun _=>Rat.num_eq_zero.1 ae,fun _=>rfl⟩
theorem RS.Da{k:Nat}{f:Ab}{q:Rat}(h:RS k f q):Sp.Da f.1=true:=h.r.n
theorem F7{s:Rd}(h:Av s=0):RS (Sp.OS s) (BR s) (Au s):=⟨Jr (Dg h).1,(Uz h).z⟩
theorem DZ{s:Rd}(h:Av s=0){k:Nat}(a:s.length<=k)(b:1<=k):RS k (BR s) (Au s):=⟨Jr (Dg h).1,(sQ h a b).z⟩
theorem FV{n:Int}{k:Nat}(h:n.natAbs<10^k)(b:1<=k)(a:k<=18):RS k ((n,Bo n),(1,Bo 1)) (n:Rat):=by
 have hp:10^k<=10^18:=yn af a;have c:10^1<=10^k:=yn af b;have hr:Cv n=true:=by
  unfold Cv;exact ad ae ae
 refine⟨AeT n hr,?_,?_⟩
 ·rw[Rat.num_intCast];exact h
 ·rw[Rat.den_intCast];omega
theorem GJ:RS 1 ((0,Bo 0),(1,Bo 1)) 0:=FV (n:=0) af af af
theorem qU{k:Nat}{f:Ab}{q:Rat}(h:RS k f q){e:Int}(a:e=0):(MZ f,Mt f)=(Tu e q,TT e q):=AdY h.r a
end Go.Pe
namespace Go.Det
open Go.ChangeShapes Go.WideShapes Go.RowKit
theorem Ce{α e:Type}{f g:α->Option e}:∀ {l:List α} {b:List e},l.mapM f=some b->(∀a∈l,∀y∈b,f a=some y->g a=some y)->l.mapM g=some b
 |[],b,h,_=>by grind
 |a::l,b,h,i=>by
  rw[List.mapM_cons]at h ⊢;cases d:f a with
  |none=>grind
  |some y=>
   rw[d]at h;cases c:l.mapM f with
   |none=>grind
   |some j=>
    rw[c]at h;cases h;rw[i a (by simp) y (by simp) d,Ce c ah];rfl
def oQ(P:Program)(L:List TypeId)(t:TypeId):Bool:=match P.underlying t with
 |some (.pointer e)|some (.array _ e)|some (.map _ e)=>L.contains e
 |some (.slice e)=>L.contains e&&Nat.ble 1 (P.cellsOf e)
 |some (.struct fs)=>fs.toList.all fun f=>L.contains f.type
 |_=>true
def LO(P:Program)(L:List TypeId):Bool:=L.all<|oQ P L
section
variable {H:Type}{enc:TypeId×Value->H}{P:Program}{W W':World}
theorem Aa2{L:List TypeId}(h:LO P L=true){t:TypeId}(a:t∈L):oQ P L t=true:=List.all_eq_true.1 h t a
theorem Yd(c:Below W.heap.size W W'){a:Addr}{v:Value}(h:W.cell? a=some v):W'.cell? a=some v:=by
 have b:a.block<W.heap.size:=by
  grind [qg]
 unfold qg at h ⊢;rw[c.block _ b];exact h
theorem WY(b:Below W.heap.size W W'){a:Addr}{n:Nat}{cs:List Value}(h:W.cells? 0 a n=some cs):W'.cells? 0 a n=some cs:=by
 unfold World.cells? at h ⊢;grind [Ce,Yd]
theorem Hf(e:Below W.heap.size W W'){b:Type}{a:Addr}{n:Nat}{f g:List Value->Option b}{y:b}(h:(W.cells? 0 a n).bind f=some y)(c:∀cs,f cs=some y->g cs=some y):(W'.cells? 0 a n).bind g=some y:=by
 cases d:W.cells? 0 a n with
 |none=>grind
 |some cs=>
  grind [WY]
theorem PL(v:Below W.heap.size W W'){L:List TypeId}(C:LO P L=true){sp:Nat->Bool}:∀(fuel:Nat) (t:TypeId) (cs:List Value) (x:DataW H×List MemPlace),t∈L->
  zw enc P W 0 (fun _=>true) true fuel t cs=some x->(∀p∈x.2,sp p.block=true)->zw enc P W' 0 sp true fuel t cs=some x
 |0,_,_,_,_,h,_=>by cases h
 |fuel+1,t,cs,x,G,h,I=>by
  have N:=PL v C (sp:=sp) fuel;have l:=Aa2 C G;unfold oQ at l;unfold zw at h ⊢;split at h<;>try simp only[reduceCtorEq]at h
  all_goals try exact h
  case h_6 e a o=>
   have d:e∈L:=ah
   cases A:(W.cells? 0 a<|P.cellsOf e).bind (zw enc P W 0 (fun _=>true) true fuel e)with
   |none=>grind
   |some y=>
    rw[A]at h;cases h;rw[Hf v A (g:=zw enc P W' 0 sp true fuel e) ah];rfl
  case h_8 e a len cap o=>
   have d:e∈L/\P.cellsOf e≠0:=by
    rw[o]at l;simp only[zf,List.contains_iff_mem]at l;have:=Nat.le_of_ble_eq_true l.2;grind
   by_cases m:0<=a.block/\len<=cap/\cap<=maxLen
   ·rw[wd m]at h ⊢;have step:∀(i:Nat) (y:DataW H×List MemPlace),(W.cells? 0 (a.add<|i*P.cellsOf e)<|P.cellsOf e).bind (zw enc P W 0 (fun _=>true) true fuel e)=some y->(∀p∈y.2,sp p.block=true)->
      (W'.cells? 0 (a.add<|i*P.cellsOf e)<|P.cellsOf e).bind (zw enc P W' 0 sp true fuel e)=some y:=(by grind [Hf])
    cases c:(qn len).mapM (fun i=>(W.cells? 0 (a.add<|i*P.cellsOf e)<|P.cellsOf e).bind<|zw enc P W 0 (fun _=>true) true fuel e)with
    |none=>grind
    |some q=>
     rw[c]at h;simp only[wm,Option.bind_some]at h;cases B:(qn<|cap-len).mapM (fun j=>(W.cells? 0 (a.add<|(len+j)*P.cellsOf e)<|P.cellsOf e).bind<|zw enc P W 0 (fun _=>true) true fuel e)with
     |none=>grind
     |some w=>
      rw[B]at h;cases h;rw[Ce c ah];have K:=Ce B fun j _ y F M=>step (len+j) y M ah
      by_cases r:sp a.block=true
      ·grind
      ·have O:(q.length+w.length)*P.cellsOf e=0:=by
        rcases Nat.eq_zero_or_pos ((q.length+w.length)*P.cellsOf e)with h0|h0
        ·exact h0
        ·refine wh (I (.cell a.block<|a.off+0)<|List.mem_append_left _ ?_) r;simp only[MemPlace.row,List.mem_map,List.mem_range];exact⟨0,h0,rfl⟩
       grind [Nat.mul_eq_zero]
   grind
  case h_9 cs _ _ fs o=>
   have d:∀f∈fs.toList,f.type∈L:=by
    grind
   by_cases m:cs.length=P.cellsOf t
   ·rw[wd m]at h ⊢;cases c:fs.toList.mapM (fun f=>zw enc P W 0 (fun _=>true) true fuel f.type<|(cs.drop f.offset).take<|P.cellsOf f.type)with
    |none=>grind
    |some q=>
     grind [Ce]
   grind
  case h_10 cs _ _ n e o=>
   have d:e∈L:=ah
   by_cases m:cs.length=P.cellsOf t
   ·rw[wd m]at h ⊢;cases c:(qn n).mapM (fun i=>zw enc P W 0 (fun _=>true) true fuel e<|(cs.drop<|i*P.cellsOf e).take<|P.cellsOf e)with
    |none=>grind
    |some q=>
     grind [Ce]
   grind
  case h_14 k e b o=>
   have D:b<W.heap.size:=by
    grind
   rw[v.block _ D];split at h
   case h_2=>cases h
   rename_i es clock E;split at h
   case isFalse=>cases h
   cases c:(es.toList.mapM fun x=>(keyOf P k x.key).bind fun key=>if x.val.formed P e then(zw enc P W 0 (fun _=>true) true fuel e x.val.cells.toList).map fun y=>((key,y.1),y.2)else none)with
   |none=>grind
   |some q=>
    rw[c]at h;simp only[Option.bind_some]at h;split at h
    case isFalse=>cases h
    rw[Ce c fun z _ y F s=>?_]
    ·grind
    ·cases l:keyOf P k z.key with
     |none=>grind
     |some key=>
      rw[l]at s;split at s
      case isFalse=>cases s
      cases J:zw enc P W 0 (fun _=>true) true fuel e z.val.cells.toList with
      |none=>grind
      |some u=>
       grind
theorem XF(g:Below W.heap.size W W'){L:List TypeId}(b:LO P L=true){sp:Nat->Bool}{t:TypeId}{v:Value}{d:DataW H}{p:List MemPlace}
  (f:t∈L) (h:DataW.Trod enc P W 0 (fun _=>true) true t v d p) (e:∀q∈p,sp q.block=true):DataW.Trod enc P W' 0 sp true t v d p:=by
 obtain⟨a,c⟩:=h;exact⟨a,(by grind [PL])⟩
theorem G3(i:Below W.heap.size W W'){L:List TypeId}(c:LO P L=true){sp:Nat->Bool}:∀ {ts:List TypeId} {vs:List Value} {ds:List (DataW H)} {p:List MemPlace},(∀t∈ts,t∈L)->
  DataW.TrodAll enc P W 0 (fun _=>true) true ts vs ds p->(∀q∈p,sp q.block=true)->DataW.TrodAll enc P W' 0 sp true ts vs ds p
 |[],vs,ds,p,_,h,_=>by
  obtain⟨rfl,rfl,rfl⟩:=trodAll_nil h;rfl
 |t::ts,vs,ds,p,j,h,l=>by
  obtain⟨v,g,d,f,a,b,rfl,rfl,rfl,k,e⟩:=trodAll_cons h;exact⟨a,b,(by grind [XF]),G3 i c ah e ah,rfl⟩
theorem R0{f:Func}{s:ChangeSpec}{apart fresh a g:Bool}{args:Array Value}{ds C:List (DataW H)}{c:List MemPlace}{tb:TypeId}
  (hW:DataW.Whole enc P f.params.toList s.vars apart W args.toList ds C c) (z:s.vars=[]) (hr:f.resultTypes= #[tb]) (w:P.underlying tb=some .bool)
  (A:s.fn H ds={ results:=[.lit<|.bool true],args:=ds }) (m:Below W.heap.size W W') {L:List TypeId} (B:LO P L=true) (u:f.params.toList.all L.contains=true):
  s.post enc P f apart fresh a g W args (.bool true) W':=by
 have i:=hW.lt;have u:∀t∈f.params.toList,t∈L:=ah;obtain⟨p,q,y,x,rfl,e,k⟩:=hW;have h:=x;rw[z]at h;obtain⟨rfl,rfl⟩:=trodVars_none h;simp only[List.append_nil]at i e k ⊢;have o:DataW.Whole enc P f.params.toList s.vars apart W args.toList ds [] p:=⟨p,[],y,x,by simp,e,k⟩;have l:∀(b:Nat) (sp:Nat->Bool) (v:Bool),DataW.TrodAll enc P W' b sp v f.resultTypes.toList ((Value.bool true).resultList f.resultTypes.size) [.lit<|.bool true] []:=by
  intro b sp v;rw[hr];exact⟨[],[],shut_bool w true,rfl,rfl⟩
 have n:∀(j:Nat) (t:TypeId) (r:Value),f.resultTypes[j]?=some t->((Value.bool true).resultList f.resultTypes.size)[j]?=some r->Value.okWide P W' .any 0 t r:=by
  exact ok_one hr rfl (okWide_bool_mk w true)
 have d:∀sp:Nat->Bool,DataW.TrodVars enc P W' sp s.vars [] []:=fun sp=>by rw[z];rfl
 refine⟨ds,[],p,[],p,[],o,?_,?_,?_,World.keptBut_mono (by simp) (m.frame (· ∈p)),fun _=>?_⟩
 ·grind
 ·grind [G3]
 ·grind
 ·refine⟨n,_,_,([]++p)++[],⟨[]++p,[],trodAll_append (G3 m B u y<|by simp)<|l _ _ _,d _,rfl,?_,?_⟩,?_⟩
  ·intro b off hp;have hp:MemPlace.cell b off∈p:=ah
   rw[m.frozen<|show b<W.heap.size from i _ hp];exact e b off hp
  ·grind
  grind
end
def Ku(k:Nat):Value->V
 | .bool b=>.bool b
 | .int q n=>.int q n
 | .string s=>.str s.data.toList
 | .pointer none=>.nilp
 | .slice none 0 0=>.nils
 | .slice (some _) 0 0=>.es0
 | .slice (some ⟨r,off,none⟩) len cap=>if r<k/\len<=cap then .sl r off len cap 0 else .junk
 | .map none=>.nilm
 | .nilFunc=>.nilf
 | .nilIface=>.nili
 |_=>.junk
def OS(W:World)(r:Nat):Nat:=match W.heap[r]? with
 |some (.cells c _ _)=>c.size
 |_=>0
def pW(W:World):Pl:=(qn W.heap.size).map fun r=>(r,OS W r)
theorem Nl{W:World}{r:Nat}(h:r<W.heap.size):(pW W)[r]?=some (r,OS W r):=by
 simp[pW,h]
def Mu(W:World)(r:Nat):Option O:=match W.heap[r]? with
 |some (.cells c t _)=>if c.size=0 then none else some<|.cells (c.toList.map<|Ku W.heap.size) t (0,c.size)
 |_=>none
def fV(W:World):Nat->H
 |0=>⟨.leaf,0⟩
 |n+1=>⟨(fV W n).m.set n<|Mu W n,n+1⟩
theorem AaH(W:World):∀n,(fV W n).nx=n
 |0=>rfl
 |_+1=>rfl
theorem W2(W:World):∀(n b:Nat),(fV W n).get b=if b<n then Mu W b else none
 |0,b=>by simp[fV,H.get]
 |n+1,b=>by
  have a:=W2 W n b;unfold H.get at a ⊢;simp only[fV,PM.Dv];grind
def hW(W:World):H:=fV W W.heap.size
theorem MP(W:World)(b:Nat):(hW W).get b=Mu W b:=by
 simp_all [hW,W2,Mu]
theorem Lr{W:World}{v:Value}(h:(Ku W.heap.size v).ok=true):Ae (pW W) (Ku W.heap.size v) v:=by
 revert h;unfold Ku;split<;>intro h
 case h_6=>simp_all [Ae]
 case h_7 r off len cap _=>
  split
  ·simp_all [Ae,Nl]
  ·rename_i a;rw[wc a]at h;cases h
 case h_11=>cases h
 all_goals simp only[Ae]
 rfl
theorem R_W(W:World):R (pW W) (hW W) W:=by
 refine⟨by simp[pW,hW,AaH],fun b o a=>?_,fun b b' o o' r n n' a j l m=>?_⟩
 ·rw[MP]at a;unfold Mu at a;split at a
  case h_2=>cases a
  rename_i c t fz f;split at a
  case isTrue=>cases a
  cases a;have e:b<W.heap.size:=ah;have h:OS W b=c.size:=by unfold OS;rw[f]
  refine⟨b,c.size,_,by rw[Nl e,h],f,c,fz,rfl,rfl,by simp,⟨by simp,fun i d v k p g=>?_⟩,ae⟩;grind [Lr]
 grind [MP,Mu,Nl]
theorem cZ{W W':World}{p':Pl}{h':H}(d:Ext (pW W) (hW W) W p' h' W'):RowKit.Below W.heap.size W W':=by
 refine⟨d.os,d.tape,d.out,d.size,fun k g=>?_⟩;by_cases j:Im (pW W) (hW W) k
 ·obtain⟨b,o,n,f,h⟩:=j;have a:=f;rw[MP]at a;unfold Mu at a;split at a
  case h_2=>cases a
  rename_i c t fz l;split at a
  case isTrue=>cases a
  cases a;have e:b<W.heap.size:=ah;have i:OS W b=c.size:=by unfold OS;rw[l]
  rw[Nl e,i]at h;cases h;exact(d.lock _ g ⟨_,_,_,_,_,f,by rw[Nl e,i],rfl,yc _,ae⟩).1
 ·exact d.same k g j
end Go.Det
namespace Go.Pe
open Go.Det
def FW(W:World):Fz:=fun b=>match (hW W).get b with
 |some (.cells cs _ _)=>some cs
 |_=>none
def Ty:(s:Sh)->s.T->Prop
 | .int k,x=>k.min<=(x:Int)/\(x:Int)<=k.max
 | .bool,_=>True
 | .str,x=>(x:Rd).length<=maxLen
 | .list s,l=>(l:List s.T).length<=maxLen/\∀x∈(l:List s.T),Ty s x
 | .pair a b,x=>Ty a x.1/\Ty b x.2
 | .unit,_=>True
 | .nlist _,_=>True
 | .fnv,_=>True
 | .ptr _,_=>True
def tA(P:Program)(f:TypeId->Option Sh):Nat->List Field->Option Sh
 |_,[]=>some .unit
 |o,[x]=>match f x.type with
  |some s=>bif qu x.offset o&&qu (P.cellsOf x.type) s.sz then some s else none
  |none=>none
 |o,x::y::l=>match f x.type with
  |some s=>bif qu x.offset o&&qu (P.cellsOf x.type) s.sz then(tA P f (o+s.sz) (y::l)).map (.pair s)else none
  |none=>none
def shP(P:Program):Nat->TypeId->Option Sh
 |0,_=>none
 |f+1,t=>match P.underlying t with
  |some (.int k)=>some<|.int k
  |some .bool=>some .bool
  |some .string=>some .str
  |some (.slice e)=>match shP P f e with
   |some s=>bif qu (P.cellsOf e) s.sz&&Nat.blt 0 s.sz then some (.list s)else none
   |none=>none
  |some (.struct fs)=>match tA P (shP P f) 0 fs.toList with
   |some s=>bif qu (P.cellsOf t) s.sz then some s else none
   |none=>none
  |_=>none
section
variable {H:Type}{enc:TypeId×Value->H}{P:Program}{W:World}
theorem sM{r:Nat}{c:Array Value}{t:TypeId}{fz:Nat×Nat}(h:W.heap[r]?=some (.cells c t fz))(h0:c.size≠0):FW W r=some (c.toList.map<|Ku W.heap.size):=by
 simp_all [FW,MP,Mu]
theorem RH{a:Addr}{n:Nat}{cs:List Value}(h:W.cells? 0 a n=some cs)(e:0<n):
  ∃c t fz,W.heap[a.block]?=some (.cells c t fz)/\a.spot=none/\a.off+n<=c.size/\cs=(c.toList.drop a.off).take n:=by
 have l:=mapM_some_length h;have k:=mapM_some_get h;have h0:=k 0 0 (by simp[e]);have j:a.add 0=a:=by rfl
 obtain⟨v0,b⟩:∃v,cs[0]?=some v:=ah;rw[b]at h0;unfold qg at h0;split at h0
 case h_2=>cases h0
 rename_i c t fz f;split at h0
 case isTrue=>cases h0
 have g:a.spot=none:=by simp_all
 have d:∀i,i<n->c[a.off+i]?=cs[i]?:=by
  grind [qg,Addr.add]
 refine⟨c,t,fz,f,g,?_,?_⟩
 ·have:=d (n-1) ae;grind
 ·apply List.ext_getElem?;grind
theorem cI{α:Type}{p:Nat->α->Prop}:∀n:Nat,(∀i,i<n->∃x,p i x)->∃l:List α,l.length=n/\∀i (h:i<l.length),p i l[i]
 |0,_=>(by simp)
 |n+1,h=>by
  obtain⟨l,a,c⟩:=cI n fun i b=>h i ae
  obtain⟨x,d⟩:=h n ae;refine⟨l++[x],by simp[a],fun i b=>?_⟩;grind
end
open Go.Det Go.RowKit
section
open Go.Proofs.Tryz (prog)
theorem V2{F':Fz}{v:V}(h:PC F' (.dat .bool true) v):v=.bool true:=by
 have:=h (fun _=>none) 0;simp only[PR,DC]at this;simpa using this
def GW(W:World):Prop:=∀x∈Fg,Mu W x.1=some x.2
theorem GW.h{W:World}(h:GW W):Gh (hW W):=fun x a=>by rw[MP];exact h x a
theorem GW.p{W:World}(h:GW W):Gp (pW W):=fun x g=>by
 have a:=h x g;unfold Mu at a;split at a
 case h_2=>cases a
 rename_i c t fz e;split at a
 case isTrue=>cases a
 have d:x.1<W.heap.size:=(Array.getElem?_eq_some_iff.1 e).1;have f:OS W x.1=c.size:=by unfold OS;rw[e]
 rw[Nl d,f];cases b:x.2 with
 |cells cs i fz'=>rw[b]at a;cases a;simp[osz]
 |_=>rw[b]at a;cases a
theorem Jc[Srt](q:Hi prog NB){f:FuncId}{sp:Am}(ok:Af A5 f sp)(i:(BA sp.ins).T)(c:sp.pre i=true){args:List V}{args':Array Value}{W:World}(d:GW W)(s:KN (FW W) (Ag sp.ins i) args)
  (j:Aw (pW W) args args'.toList) (a:∀F' v,PC F' (one<|Ag sp.outs<|sp.f i) v->v=.bool true) (hp:A5.prim f=none:=by kernel_rfl):
  Calls prog f args' W fun e W'=>e=.returned (.bool true)/\Below W.heap.size W W':=by
 obtain⟨l,M,k,_,n⟩:=(ok.zero hp).run (FW W) (hW W) args i (fun b cs h=>by
  unfold FW at h;split at h
  case h_2=>cases h
  rename_i cs' t fz u;cases h;exact⟨t,fz,u⟩) (fun b o h=>(R_W W).lt h) d.h s c
 refine((Hs (mO q) RK Mr M).fn f args (hW W) l (k M<|yc _) (pW W) W args' (R_W W) d.p j).mono ?_;rintro e w' ⟨v,h',v',p',m,rfl,g,r⟩;obtain⟨_,_,_,F',_,_,_,hr⟩:=n _ m;obtain rfl:=a F' v hr;refine⟨?_,cZ r⟩;simp only[Ae]at g;rw[g]
end
end Go.Pe
