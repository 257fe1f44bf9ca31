import Derived.Test.YtbmofcgiokkikaaGreatDoorX13
/- A part of a proof; no law is stated here. -/
noncomputable section
set_option maxRecDepth 10000
open Go.IntKind renaming wrap -> zc, i64 -> yf
open Go.Pe.Ends renaming tt -> zd, leaf -> ze, ite -> zg, Ah -> zj, ff -> zm, eq -> zp
open Bool renaming and_eq_true -> zf
open Int renaming toNat_natCast -> zh, tmod -> z8, eq_ofNat_of_zero_le -> yb, mul_le_mul_of_nonneg_left -> yd, tdiv -> ye, le_of_lt -> yi, lt_of_lt_of_le -> yj, gcd -> yp, mul_ne_zero -> yw, tmod_eq_emod_of_nonneg -> yy, natCast_nonneg -> yz, mul_neg -> y8, mul_ediv_cancel_left -> y9, tdiv_eq_ediv_of_dvd -> qc, mul_zero -> qe, add_zero -> qf, ediv_nonneg -> qg, one_mul -> qi, mul_add -> qj, mul_nonneg -> ql, natAbs_mul -> qm, add_assoc -> qn, gcd_comm -> qw
open Go.Pe.Sh renaming list -> zi, str -> zo, bool -> zr, pair -> yn, int -> qq
open Go.Lib renaming decDigits -> zk, itoa -> y7
open Rat renaming divInt -> zl, floor_def -> qo, lt_irrefl -> qp
open List renaming length_cons -> zn, drop_eq_nil_of_le -> zw, take_of_length_le -> zy, length_drop -> zz, getD_eq_getElem?_getD -> z6, length_append -> z7, getElem?_eq_getElem -> ya, length_eq_zero_iff -> yc, mem_cons_self -> yk, length_take -> yo, mem_of_mem_drop -> yu, length_map -> yx, take -> qz
open Go.Sp renaming rW -> zq, rN -> zt, A1 -> yg, B9 -> yr, vR -> qh, gI -> qv
open Go.Pe.Ac renaming of -> zu
open Nat renaming add_sub_cancel -> zx, sub -> yh, le_refl -> ym, pow_le_pow_right -> yt, add -> qu, beq_refl -> qy
open UInt8 renaming ofNat -> yq, toNat_inj -> yv
open Go.Pe.T163 renaming EA -> qd
open Go.Pe.PV renaming agg -> qt
variable {Q:Go.Pe.PV->Go.Pe.Ob->Prop}
namespace Go.Pe
open Sp
open Go.Det
section
open List Int Prod
namespace T192
def T[Srt](a:List Int)(i:Int):Tr:=tree XR0 false 9 192<|Ag ([zi i64,qq yf]) (a,i)
theorem Aj[Srt](a:List Int)(i:Int):T a i=.di (i<(length a:Int)) (.ck (decide (0<=i)&&decide (i<(length a:Int)))<|.leaf (.dat i64<|getD a (toNat i) 0) []) (.leaf (.dat i64 (0:Int)) []):=by kernel_rfl
end T192
namespace T150
def T[Srt](a b:List Int):Tr:=tree XS false 9 150<|Ag ([zi i64,zi i64]) (a,b)
def L1[Srt](v0 v1:List Int)(a b:Int):Tr:=re ((T [] []))<|Ax 42 [(0,.dat (zi i64) v0),(1,.dat (zi i64) v1),(5,.nil),(6,.dat i64 a),(7,.dat i64 b)] [] 0
theorem Aj[Srt](a b:List Int):T a b=L1 a b 0 0:=by kernel_rfl
def L2[Srt](v0 v1:List Int)(a:Nat)(d b:Int)(c:List Int):Tr:=re ((stepT XS<|L1 [] [] 0 0).L.L.L.L.L.L)<|Ax 42 [(0,.dat (zi i64) v0),(1,.dat (zi i64) v1),(5,.sl 0 1 0 a none),(6,.dat i64 d),(7,.dat i64 b)] [(0,.arr false 3 i64 c)] 1
theorem Ak[Srt](v0 v1:List Int)(b a:Int):stepT XS (L1 v0 v1 b a)=.di (a<(length v0:Int)) (.cd (0<=a)<|.cd (0<=a)<|.ck true<|.ck (aa 8)<|.ck true<|L2 v0 v1 1 (zc .i64<|ye (zc .i64<|zc .i64 (I0 v0 a+I0 v1 a)+b) 1000000000) (zc .i64<|a+1)<|[z8 (zc .i64<|zc .i64 (I0 v0 a+I0 v1 a)+b) 1000000000]) (.di (a<(length v1:Int)) (.cd (0<=a)<|.cd (0<=a)<|.ck true<|.ck (aa 8)<|.ck true<|L2 v0 v1 1 (zc .i64<|ye (zc .i64<|zc .i64 (I0 v0 a+I0 v1 a)+b) 1000000000) (zc .i64<|a+1)<|[z8 (zc .i64<|zc .i64 (I0 v0 a+I0 v1 a)+b) 1000000000])<|.di (b>0) (.cd (0<=a)<|.cd (0<=a)<|.ck true<|.ck (aa 8)<|.ck true<|L2 v0 v1 1 (zc .i64<|ye (zc .i64<|zc .i64 (I0 v0 a+I0 v1 a)+b) 1000000000) (zc .i64<|a+1)<|[z8 (zc .i64<|zc .i64 (I0 v0 a+I0 v1 a)+b) 1000000000])<|.leaf .nil []):=by kernel_rfl
theorem Az[Srt](v0 v1:List Int)(b:Nat)(d a:Int)(c:List Int):stepT XS (L2 v0 v1 b d a c)=.di (a<(length v0:Int)) (.cd (0<=a)<|.cd (0<=a)<|.ck true<|.ck (ac b (length c) 8)<|.ck true<|L2 v0 v1 (qu b 1) (zc .i64<|ye (zc .i64<|zc .i64 (I0 v0 a+I0 v1 a)+d) 1000000000) (zc .i64<|a+1)<|c++[z8 (zc .i64<|zc .i64 (I0 v0 a+I0 v1 a)+d) 1000000000]) (.di (a<(length v1:Int)) (.cd (0<=a)<|.cd (0<=a)<|.ck true<|.ck (ac b (length c) 8)<|.ck true<|L2 v0 v1 (qu b 1) (zc .i64<|ye (zc .i64<|zc .i64 (I0 v0 a+I0 v1 a)+d) 1000000000) (zc .i64<|a+1)<|c++[z8 (zc .i64<|zc .i64 (I0 v0 a+I0 v1 a)+d) 1000000000])<|.di (d>0) (.cd (0<=a)<|.cd (0<=a)<|.ck true<|.ck (ac b (length c) 8)<|.ck true<|L2 v0 v1 (qu b 1) (zc .i64<|ye (zc .i64<|zc .i64 (I0 v0 a+I0 v1 a)+d) 1000000000) (zc .i64<|a+1)<|c++[z8 (zc .i64<|zc .i64 (I0 v0 a+I0 v1 a)+d) 1000000000])<|.leaf (.sl 0 1 0 b none)<|[(0,.arr false 3 i64 c)]):=by kernel_rfl
end T150
namespace T152
def T[Srt](a b:List Int):Tr:=tree XS false 9 152<|Ag ([zi i64,zi i64]) (a,b)
def L1[Srt](v0 v1:List Int)(a b:Int):Tr:=re ((T [] []))<|Ax 35 [(0,.dat (zi i64) v0),(1,.dat (zi i64) v1),(5,.nil),(6,.dat i64 a),(7,.dat i64 b)] [] 0
theorem Aj[Srt](a b:List Int):T a b=L1 a b 0 0:=by kernel_rfl
def L2[Srt](v0 v1:List Int)(a:Nat)(d b:Int)(c:List Int):Tr:=re ((stepT XS<|L1 [] [] 0 0).L.L.L.L.L)<|Ax 35 [(0,.dat (zi i64) v0),(1,.dat (zi i64) v1),(5,.sl 0 1 0 a none),(6,.dat i64 d),(7,.dat i64 b)] [(0,.arr false 3 i64 c)] 1
theorem Ak[Srt](v0 v1:List Int)(b a:Int):stepT XS (L1 v0 v1 b a)=.di (a<(length v0:Int)) (.ck (decide (0<=a)&&decide (a<(length v0:Int)))<|.cd (0<=a)<|.di (zc .i64 (zc .i64 (getD v0 (toNat a) 0-I0 v1 a)-b)<0) (.ck (aa 8)<|L2 v0 v1 1 1 (zc .i64<|a+1)<|[zc .i64<|zc .i64 (zc .i64 (getD v0 (toNat a) 0-I0 v1 a)-b)+1000000000])<|.ck (aa 8)<|L2 v0 v1 1 0 (zc .i64<|a+1)<|[zc .i64<|zc .i64 (getD v0 (toNat a) 0-I0 v1 a)-b]) (.ck true<|.leaf (.dat (zi i64)<|AD []) []):=by kernel_rfl
theorem Az[Srt](v0 v1:List Int)(a:Nat)(d b:Int)(c:List Int):stepT XS (L2 v0 v1 a d b c)=.di (b<(length v0:Int)) (.ck (decide (0<=b)&&decide (b<(length v0:Int)))<|.cd (0<=b)<|.di (zc .i64 (zc .i64 (getD v0 (toNat b) 0-I0 v1 b)-d)<0) (.ck (ac a (length c) 8)<|L2 v0 v1 (qu a 1) 1 (zc .i64<|b+1)<|c++[zc .i64<|zc .i64 (zc .i64 (getD v0 (toNat b) 0-I0 v1 b)-d)+1000000000])<|.ck (ac a (length c) 8)<|L2 v0 v1 (qu a 1) 0 (zc .i64<|b+1)<|c++[zc .i64<|zc .i64 (getD v0 (toNat b) 0-I0 v1 b)-d]) (.ck (decide (0+a<=length c)&&true&&decide (length (take a c)<=20000))<|.leaf (.dat (zi i64)<|AD<|take a c) []):=by kernel_rfl
end T152
namespace T84
def T[Srt](a b:Bool×List Int):Tr:=tree XR2 false 9 84<|Ag ([yn zr<|zi i64,yn zr<|zi i64]) (a,b)
theorem Aj[Srt](a b:Bool×List Int):T a b=.ite (fst a==fst b) (.ck (vH (snd a)<|snd b)<|.cd (length (Iu (snd a)<|snd b)<=20000)<|.leaf (qt [.dat zr<|CQ (fst a)<|Iu (snd a)<|snd b,.dat (zi i64)<|AD<|Iu (snd a)<|snd b]) []) (.ck (Bb (snd a)&&Bb (snd b))<|.di (CC (Aq<|snd a) (Aq<|snd b)>=0) (.ck (vH (snd a) (snd b)&&decide (Aq (snd b)<=Aq (snd a)))<|.cd (length (Jx (snd a)<|snd b)<=20000)<|.leaf (qt [.dat zr<|CQ (fst a)<|Jx (snd a)<|snd b,.dat (zi i64)<|AD<|Jx (snd a)<|snd b]) [])<|.ck (vH (snd b) (snd a)&&decide (Aq (snd a)<=Aq (snd b)))<|.cd (length (Jx (snd b)<|snd a)<=20000)<|.leaf (qt [.dat zr<|CQ (fst b)<|Jx (snd b)<|snd a,.dat (zi i64)<|AD<|Jx (snd b)<|snd a]) []):=by kernel_rfl
end T84
namespace T85
def T[Srt](a b:Bool×List Int):Tr:=tree XR2 false 9 85<|Ag ([yn zr<|zi i64,yn zr<|zi i64]) (a,b)
theorem Aj[Srt](a b:Bool×List Int):T a b=.ck (Sp.hR (snd a)&&Sp.hR (snd b)) (.cd (length (BW<|Aq (snd a)*Aq (snd b))<=20000)<|.leaf (qt [.dat zr<|CQ (!fst a==fst b)<|BW<|Aq (snd a)*Aq (snd b),.dat (zi i64)<|AD<|BW<|Aq (snd a)*Aq (snd b)]) []):=by kernel_rfl
end T85
namespace T146
def T[Srt](a:Bool×List Int):Tr:=tree XR2 false 9 146<|Ag ([yn zr<|zi i64]) a
theorem Aj[Srt](a:Bool×List Int):T a=.cd (length (snd a)<=20000) (.leaf (qt [.dat zr<|CQ (!fst a)<|snd a,.dat (zi i64)<|AD<|snd a]) []):=by kernel_rfl
end T146
namespace T182
def T[Srt](a b:Bool×List Int):Tr:=tree XR2 false 9 182<|Ag ([yn zr<|zi i64,yn zr<|zi i64]) (a,b)
theorem Aj[Srt](a b:Bool×List Int):T a b=.ck (Bb (snd a)&&Bb (snd b)&&decide (length (snd a)<=9000)&&decide (length (snd b)<=9000)&&decide (0<Aq (snd b))) (.ite (fst a) (.di ((↑(length<|BW<|Aq (snd a) % Aq (snd b)):Int)>0) (.ck (vH (BW<|Aq (snd a)/Aq (snd b)) [1])<|.cd (length (Iu (BW<|Aq (snd a)/Aq (snd b)) [1])<=20000)<|.leaf (qt [.dat zr<|CQ (fst a)<|Iu (BW<|Aq (snd a)/Aq (snd b)) [1],.dat (zi i64)<|AD<|Iu (BW<|Aq (snd a)/Aq (snd b)) [1]]) [])<|.cd (length (BW<|Aq (snd a)/Aq (snd b))<=20000)<|.leaf (qt [.dat zr<|CQ (fst a)<|BW<|Aq (snd a)/Aq (snd b),.dat (zi i64)<|AD<|BW<|Aq (snd a)/Aq (snd b)]) [])<|.cd (length (BW<|Aq (snd a)/Aq (snd b))<=20000)<|.leaf (qt [.dat zr<|CQ (fst a)<|BW<|Aq (snd a)/Aq (snd b),.dat (zi i64)<|AD<|BW<|Aq (snd a)/Aq (snd b)]) []):=by kernel_rfl
end T182
namespace T148
def T[Srt](a:Bool×List Int):Tr:=tree XR3 false 9 148<|Ag ([yn zr<|zi i64]) a
def L1[Srt](v3:Rd)(v4:Int)(b:Bool)(a:List Int):Tr:=re ((T (false,[])).R.L.L)<|Ax 39 [(1,.ptr 0 0),(3,.dat zo v3),(4,.dat i64 v4)] [(0,.box [.dat zr b,.dat (zi i64) a])] 1
theorem Aj[Srt](a:Bool×List Int):T a=.ite ((↑(length<|snd a):Int)==0) (.leaf (.dat zo [(48:UInt8)]) []) (.ck (decide (0<=zc .i64 ((↑(length<|snd a):Int)-1))&&decide (zc .i64 ((↑(length<|snd a):Int)-1)<(↑(length<|snd a):Int)))<|.ck (decide (0<=getD (snd a) (toNat<|zc .i64<|(↑(length<|snd a):Int)-1) 0)&&decide (getD (snd a) (toNat<|zc .i64<|(↑(length<|snd a):Int)-1) 0<9223372036854775808)&&decide (0<=1)&&decide (1<=20))<|L1 (JD (getD (snd a) (toNat<|zc .i64<|(↑(length<|snd a):Int)-1) 0) 1) (zc .i64<|(↑(length<|snd a):Int)-2) (fst a)<|snd a):=by kernel_rfl
theorem Ak[Srt](v3:Rd)(v4:Int)(b:Bool)(a:List Int):stepT XR3 (L1 v3 v4 b a)=.di (v4>=0) (.ck (decide (0<=v4)&&decide (v4<(length a:Int)))<|.ck (decide (0<=getD a (toNat v4) 0)&&decide (getD a (toNat v4) 0<9223372036854775808)&&decide (0<=9)&&decide (9<=20))<|.cd (length v3+length (JD (getD a (toNat v4) 0) 9)<=4611686018427387904)<|L1 (v3++JD (getD a (toNat v4) 0) 9) (zc .i64<|v4-1) b a) (.ite b (.cd (1+length v3<=4611686018427387904)<|.leaf (.dat zo<|[(45:UInt8)]++v3) [])<|.leaf (.dat zo v3) []):=by kernel_rfl
end T148
namespace T83
def T[Srt](a b:Bool×List Int):Tr:=tree wQ false 9 83<|Ag ([yn zr<|zi i64,yn zr<|zi i64]) (a,b)
def L1[Srt](o1:Bool)(a:List Int)(c:Bool)(b:List Int):Tr:=re ((T (false,[]) (false,[])).L.L.L)<|Ax 57 [(2,.ptr 0 0),(3,.ptr 1 0)] [(1,.box [.dat zr o1,.dat (zi i64) a]),(0,.box [.dat zr c,.dat (zi i64) b])] 2
theorem Aj[Srt](a b:Bool×List Int):T a b=.ite (fst b) (.ck (CG a)<|.ck (CG b)<|L1 (Vw b) (Ub b) (Vw a)<|Ub a) (L1 (fst b) (snd b) (fst a)<|snd a):=by kernel_rfl
def L2[Srt](b:List Int)(a:Rd):Tr:=re ((stepT wQ<|L1 false [] false []).L.L.L.L.L)<|Ax 57 [(8,.dat (zi i64) b),(10,.dat zo a)] [] 0
theorem Ak[Srt](o1:Bool)(b:List Int)(c:Bool)(a:List Int):stepT wQ (L1 o1 b c a)=.ck (Bb a&&Bb b&&decide (length a<=9000)&&decide (length b<=9000)) (.ck (Bb a&&Bb (CI a b)&&decide (length a<=9000)&&decide (length (CI a b)<=9000)&&decide (0<Aq (CI a b)))<|.ck (Bb b&&Bb (CI a b)&&decide (length b<=9000)&&decide (length (CI a b)<=9000)&&decide (0<Aq (CI a b)))<|.cd (length (BW<|Aq a/Aq (CI a b))<=20000)<|.ck (CG (CQ c<|BW<|Aq a/Aq (CI a b),AD<|BW<|Aq a/Aq (CI a b)))<|L2 (BW<|Aq b/Aq (CI a b))<|F8 (CQ c<|BW<|Aq a/Aq (CI a b),AD<|BW<|Aq a/Aq (CI a b))):=by kernel_rfl
def L3[Srt](b:List Int)(a:Rd):Tr:=re ((stepT wQ<|L2 [] []).L.L.R)<|Ax 57 [(8,.dat (zi i64) b),(10,.dat zo a)] [] 0
theorem Az[Srt](b:List Int)(a:Rd):stepT wQ (L2 b a)=.ite ((length b:Int)==1) (.cd (0<(length b:Int))<|.ite (getD b 0 0==1) (.leaf (.dat zo a) [])<|L3 b a) (L3 b a):=by kernel_rfl
theorem Be[Srt](b:List Int)(a:Rd):stepT wQ (L3 b a)=.cd (length a+1<=4611686018427387904) (.cd (length b<=20000)<|.ck (CG (CQ false b,AD b))<|.cd (length (a++[(47:UInt8)])+length (F8 (CQ false b,AD b))<=4611686018427387904)<|.leaf (.dat zo<|a++[(47:UInt8)]++F8 (CQ false b,AD b)) []):=by kernel_rfl
end T83
namespace T81
def T[Srt](n d:Int):Tr:=tree jO false 9 81<|Ag ([qq yf,qq yf]) (n,d)
def L1[Srt](v0 v1:Int):Tr:=re ((T 0 0).R.R.R.R)<|Ax 61 [(0,.dat i64 v0),(1,.dat i64 v1)] [] 0
theorem Aj[Srt](n d:Int):T n d=.di (n<(-4000000000000000000)) (.ck (Cn n)<|.ck (Cn d)<|.ck (CG (zt n,zq n)&&CG (zt d,zq d)&&decide (qh (zt d,zq d)≠0))<|.leaf (.dat zo<|JU (zt n,zq n) (zt d,zq d)) []) (.di (n>4000000000000000000) (.ck (Cn n)<|.ck (Cn d)<|.ck (CG (zt n,zq n)&&CG (zt d,zq d)&&decide (qh (zt d,zq d)≠0))<|.leaf (.dat zo<|JU (zt n,zq n) (zt d,zq d)) [])<|.di (d<(-4000000000000000000)) (.ck (Cn n)<|.ck (Cn d)<|.ck (CG (zt n,zq n)&&CG (zt d,zq d)&&decide (qh (zt d,zq d)≠0))<|.leaf (.dat zo<|JU (zt n,zq n) (zt d,zq d)) [])<|.di (d>4000000000000000000) (.ck (Cn n)<|.ck (Cn d)<|.ck (CG (zt n,zq n)&&CG (zt d,zq d)&&decide (qh (zt d,zq d)≠0))<|.leaf (.dat zo<|JU (zt n,zq n) (zt d,zq d)) [])<|L1 n d):=by kernel_rfl
def L2[Srt](v0 v1:Int):Tr:=re ((stepT jO<|L1 0 0).L)<|Ax 61 [(0,.dat i64 v0),(1,.dat i64 v1)] [] 0
theorem Ak[Srt](v0 v1:Int):stepT jO (L1 v0 v1)=.di (v1<0) (L2 (zc .i64<|0-v0)<|zc .i64<|0-v1) (L2 v0 v1):=by kernel_rfl
def L3[Srt](v0 v1:Int):Tr:=re ((stepT jO<|L2 0 0).L.L.L)<|Ax 61 [(0,.dat i64 v0),(1,.dat i64 v1)] [] 0
theorem Az[Srt](v0 v1:Int):stepT jO (L2 v0 v1)=.ck (Ahj (imax v0<|zc .i64<|0-v0) v1) (.cd (qv (imax v0<|zc .i64<|0-v0) v1≠0)<|.cd (qv (imax v0<|zc .i64<|0-v0) v1≠0)<|L3 (zc .i64<|ye v0<|qv (imax v0<|zc .i64<|0-v0) v1)<|zc .i64<|ye v1<|qv (imax v0<|zc .i64<|0-v0) v1):=by kernel_rfl
def L4[Srt](v1:Int)(a:Rd):Tr:=re ((stepT jO<|L3 0 0).L.L.L)<|Ax 61 [(1,.dat i64 v1),(6,.dat zo a)] [] 0
theorem Be[Srt](v0 v1:Int):stepT jO (L3 v0 v1)=.di (v0<0) (.ck (decide (0<=imax v0 (zc .i64<|0-v0))&&decide (imax v0 (zc .i64<|0-v0)<9223372036854775808)&&decide (0<=1)&&decide (1<=20))<|.cd (1+length (JD (imax v0<|zc .i64<|0-v0) 1)<=4611686018427387904)<|L4 v1<|[(45:UInt8)]++JD (imax v0<|zc .i64<|0-v0) 1) (.ck (decide (0<=imax v0 (zc .i64<|0-v0))&&decide (imax v0 (zc .i64<|0-v0)<9223372036854775808)&&decide (0<=1)&&decide (1<=20))<|.cd (0+length (JD (imax v0<|zc .i64<|0-v0) 1)<=4611686018427387904)<|L4 v1<|[]++JD (imax v0<|zc .i64<|0-v0) 1):=by kernel_rfl
theorem B1[Srt](v1:Int)(a:Rd):stepT jO (L4 v1 a)=.di (v1>1) (.cd (length a+1<=4611686018427387904)<|.ck (decide (0<=v1)&&decide (v1<9223372036854775808)&&decide (0<=1)&&decide (1<=20))<|.cd (length (a++[(47:UInt8)])+length (JD v1 1)<=4611686018427387904)<|.leaf (.dat zo<|a++[(47:UInt8)]++JD v1 1) []) (.leaf (.dat zo a) []):=by kernel_rfl
end T81
namespace T144
def T[Srt](a b:Int):Tr:=tree Pr false 9 144<|Ag ([qq yf,qq yf]) (a,b)
def L1[Srt](v0 v1:Int):Tr:=re ((T 0 0))<|Ax 12 [(0,.dat i64 v0),(1,.dat i64 v1)] [] 0
theorem Aj[Srt](a b:Int):T a b=L1 a b:=by kernel_rfl
theorem Ak[Srt](v0 v1:Int):stepT Pr (L1 v0 v1)=.di (v1>0) (.cd (v1≠0)<|L1 v1<|z8 v0 v1) (.leaf (.dat i64 v0) []):=by kernel_rfl
end T144
namespace T87
def T[Srt](s:Rd):Tr:=tree Pr false 9 87<|Ag ([zo]) s
theorem Aj[Srt](s:Rd):T s=let a:Tr:=.leaf (.dat i64 (1:Int)) [];.ite (s==[(48:UInt8)]) (.leaf (.dat i64 (0:Int)) []) (.di ((length s:Int)>0) (.cd (0<(length s:Int))<|.ite ((↑(UInt8.toNat<|getD s 0 (0:UInt8)):Int)==45) (.leaf (.dat i64 (-1:Int)) []) a) a):=by kernel_rfl
end T87
namespace T86
def T[Srt](s:Rd):Tr:=tree XO2 false 9 86<|Ag ([zo]) s
theorem Aj[Srt](s:Rd):T s=let a:=decide (length s<=1000000);.ck a (.di (F6 s<0) (.ck (decide (1<=length s)&&decide (length s<=length s))<|.leaf (.dat zo<|take (yh (length s) 1)<|drop 1 s) [])<|.ck a<|.ite (F6 s==0) (.leaf (.dat zo s) [])<|.cd (1+length s<=4611686018427387904)<|.leaf (.dat zo<|[(45:UInt8)]++s) []):=by kernel_rfl
end T86
namespace T145
def T[Srt](n l:Int):Tr:=tree Pr false 9 145<|Ag ([qq yf,qq yf]) (n,l)
def L1[Srt](v0 v1:Int)(v5:Rd):Tr:=re ((T 0 0))<|Ax 25 [(0,.dat i64 v0),(1,.dat i64 v1),(5,.dat zo v5)] [] 0
theorem Aj[Srt](n l:Int):T n l=L1 n l []:=by kernel_rfl
theorem Ak[Srt](v0 v1:Int)(v5:Rd):stepT Pr (L1 v0 v1 v5)=let a:=zc .i64<|z8 v0 10+1;let b:=toNat<|z8 v0 10;let b':=drop b [(48:UInt8),49,50,51,52,53,54,55,56,57];let c:Tr:=.ck true<|.ck true<|.ck (decide (0<=z8 v0 10)&&decide (0<=zc .i64 (z8 v0 10+1))&&decide (toNat (z8 v0 10)<=toNat a)&&decide (toNat a<=10))<|.cd (length (take (yh (toNat a) b) b')+length v5<=4611686018427387904)<|.ck true<|L1 (zc .i64<|ye v0 10) v1<|take (yh (toNat a) b) b'++v5;.di (v0>0) c (.di ((length v5:Int)<v1) c<|.leaf (.dat zo v5) []):=by kernel_rfl
end T145
namespace T80
def T[Srt](s:Rd):Tr:=tree Pc false 9 80<|Ag ([zo]) s
def L1[Srt](v5:Rd)(a:Bool):Tr:=re ((T []).R.L.L)<|Ax 54 [(5,.dat zo v5),(6,.dat zr a)] [] 0
def L2[Srt](v5:Rd):Tr:=re ((T []).R.R)<|Ax 54 [(5,.dat zo v5),(6,.bl false)] [] 0
theorem Aj[Srt](s:Rd):T s=let a:=(length s:Int);.di (a>20) (.leaf (.tup [.dat i64 (0:Int),.dat i64 (0:Int),.bl false]) []) (.di (a>0) (.cd (0<a)<|L1 s<|(↑(UInt8.toNat<|getD s 0 (0:UInt8)):Int)==45)<|L2 s):=by kernel_rfl
def L3[Srt](v5:Rd)(a:Bool):Tr:=re ((stepT Pc<|L1 [] false).L.L)<|Ax 54 [(5,.dat zo v5),(6,.dat zr a)] [] 0
theorem Ak[Srt](v5:Rd)(a:Bool):stepT Pc (L1 v5 a)=.ite a (.ck (decide (1<=length v5)&&decide (length v5<=length v5))<|L3 (take (yh (length v5) 1)<|drop 1 v5) a) (L3 v5 a):=by kernel_rfl
def L4[Srt](v5:Rd):Tr:=re ((stepT Pc<|L2 []))<|Ax 54 [(5,.dat zo v5),(6,.bl false)] [] 0
theorem Az[Srt](v5:Rd):stepT Pc (L2 v5)=L4 v5:=by kernel_rfl
def L5[Srt](v5:Rd)(c:Bool)(a b v9:Int):Tr:=re ((stepT Pc<|L3 [] false).L.R.R.L.L)<|Ax 54 [(5,.dat zo v5),(6,.dat zr c),(7,.dat i64 a),(8,.dat i64 b),(9,.dat i64 v9)] [] 0
theorem Be[Srt](v5:Rd)(b:Bool):stepT Pc (L3 v5 b)=let a:Tr:=.leaf (.tup [.dat i64 (0:Int),.dat i64 (0:Int),.bl false]) [];let b':=A3 v5;.cd (length v5<=1000000) (.di (A3 v5>9) a<|.di (zc .i64 ((length v5:Int)-A3 v5)>10) a<|.ck (decide (0<=A3 v5)&&decide (0<=toNat b')&&decide (toNat b'<=length v5))<|.ck (Ee<|take (toNat b') v5)<|L5 v5 b b' (B6<|take (toNat b') v5) 1):=by kernel_rfl
def L6[Srt](v5:Rd)(a b v9:Int):Tr:=re ((stepT Pc<|L4 []).L.R.R.L.L)<|Ax 54 [(5,.dat zo v5),(6,.bl false),(7,.dat i64 a),(8,.dat i64 b),(9,.dat i64 v9)] [] 0
theorem B1[Srt](v5:Rd):stepT Pc (L4 v5)=let a:Tr:=.leaf (.tup [.dat i64 (0:Int),.dat i64 (0:Int),.bl false]) [];let b':=A3 v5;.cd (length v5<=1000000) (.di (A3 v5>9) a<|.di (zc .i64 ((length v5:Int)-A3 v5)>10) a<|.ck (decide (0<=A3 v5)&&decide (0<=toNat b')&&decide (toNat b'<=length v5))<|.ck (Ee<|take (toNat b') v5)<|L6 v5 b' (B6<|take (toNat b') v5) 1):=by kernel_rfl
def L7[Srt](a:Bool)(b v9:Int):Tr:=re ((stepT Pc<|L5 [] false 0 0 0).L.L.L)<|Ax 54 [(6,.dat zr a),(8,.dat i64 b),(9,.dat i64 v9)] [] 0
theorem D0[Srt](v5:Rd)(c:Bool)(a b v9:Int):stepT Pc (L5 v5 c a b v9)=let b':=zc .i64<|a+1;let d:=take (yh (length v5)<|toNat b')<|drop (toNat b') v5;.di (a<(length v5:Int)) (.ck (decide (0<=zc .i64 (a+1))&&true&&decide (toNat b'<=length v5)&&decide (length v5<=length v5))<|.ck (Ee d)<|L7 c b<|B6 d) (L7 c b v9):=by kernel_rfl
def L8[Srt](a v9:Int):Tr:=re ((stepT Pc<|L6 [] 0 0 0).L.L.L)<|Ax 54 [(6,.bl false),(8,.dat i64 a),(9,.dat i64 v9)] [] 0
theorem EW[Srt](v5:Rd)(a b v9:Int):stepT Pc (L6 v5 a b v9)=let b':=zc .i64<|a+1;let c:=take (yh (length v5)<|toNat b')<|drop (toNat b') v5;.di (a<(length v5:Int)) (.ck (decide (0<=zc .i64 (a+1))&&true&&decide (toNat b'<=length v5)&&decide (length v5<=length v5))<|.ck (Ee c)<|L8 b<|B6 c) (L8 b v9):=by kernel_rfl
theorem DY[Srt](b:Bool)(a v9:Int):stepT Pc (L7 b a v9)=.ite b (.leaf (.tup [.dat i64<|zc .i64<|0-a,.dat i64 v9,.bl true]) []) (.leaf (.tup [.dat i64 a,.dat i64 v9,.bl true]) []):=by kernel_rfl
theorem HG[Srt](a v9:Int):stepT Pc (L8 a v9)=.leaf (.tup [.dat i64 a,.dat i64 v9,.bl true]) []:=by kernel_rfl
end T80
namespace T33
def T[Srt](a:Rd):Tr:=tree Pr false 9 33<|Ag ([zo]) a
theorem Aj[Srt](a:Rd):T a=let b:Tr:=.ck (decide (1<=length a)&&decide (length a<=length a))<|.leaf (.dat zo<|take (yh (length a) 1)<|drop 1 a) [];let b':Tr:=.ite false b<|.leaf (.dat zo a) [];.ite (a==[(48:UInt8)]) b' (.di ((length a:Int)>0) (.cd (0<(length a:Int))<|.ite ((↑(UInt8.toNat<|getD a 0 (0:UInt8)):Int)==45) (.ite true b<|.leaf (.dat zo a) []) b') b'):=by kernel_rfl
end T33
namespace T113
def T[Srt](a:Rd):Tr:=tree XM5 false 9 113<|Ag ([zo]) a
theorem Aj[Srt](a:Rd):T a=.cd (length a<=1000000) (.ck (decide (0<=A3 a)&&decide (0<=toNat (A3 a))&&decide (toNat (A3 a)<=length a))<|.leaf (.dat zo<|take (toNat<|A3 a) a) []):=by kernel_rfl
end T113
namespace T114
def T[Srt](a:Rd):Tr:=tree XM5 false 9 114<|Ag ([zo]) a
theorem Aj[Srt](a:Rd):T a=let b:=zc .i64<|A3 a+1;.cd (length a<=1000000) (.ite (A3 a==(length a:Int)) (.leaf (.dat zo [(49:UInt8)]) [])<|.ck (decide (0<=zc .i64 (A3 a+1))&&true&&decide (toNat b<=length a)&&decide (length a<=length a))<|.leaf (.dat zo<|take (yh (length a)<|toNat b)<|drop (toNat b) a) []):=by kernel_rfl
end T114
namespace T49
def T[Srt](a:Rd)(n:Int):Tr:=tree XM3 false 9 49<|Ag ([zo,qq yf]) (a,n)
theorem Aj[Srt](a:Rd)(n:Int):T a n=let b:=decide (length a<=1000000);let b':Tr:=.leaf (.bl false) [];.di ((length a:Int)<=zc .i64 (zc .i64 (2*n)+2)) (.ck b<|.ite (Ap a==0) (.ck b<|.cd (length (AJ a)<=1000000)<|.di ((↑(length<|A9<|AJ a):Int)<=n) (.ck b<|.leaf (.dat zr<|decide ((↑(length<|QE a):Int)<=n)) []) b') b') b':=by kernel_rfl
end T49
end
theorem dO[Srt]:Cv XM5:=Aa T139.ok AB
theorem T33.ok[Srt]:Af AY 33 cJ:=by
 refine BA Fi<|fun(a:Rd) i=>?_;have i:a.length<=1000000:=w6 i;have b:∀s ob,s=A9 a->Ac cJ a (.dat .str s) ob:=fun s ob h=>zu rfl rfl h
 refine zp (T33.Aj a)<|zg (fun c=>zm rfl (ze<|b _ _ ?_))<|fun c=>?_
 ·have c:a=[48]:=by simpa using c
  subst c;rfl
 ·cases a with
  |nil=>exact zm rfl (zm rfl (ze<|b _ _ rfl))
  |cons x r=>
   have f:(x::r).getD 0 0=x:=rfl;have e:(List.drop 1 (x::r)).take (yh (x::r).length 1)=r:=by show r.take ((r.length+1)-1)=r;rw[zx];exact List.take_length
   rw[f,e];refine zd (by simp) (zd (by simp) (zg (fun d=>zd rfl (zd (by simp)<|ze<|b _ _ ?_))<|fun d=>zm rfl (ze<|b _ _ ?_)))
   ·have g:x=45:=by
     have:(x.toNat:Int)=45:=by simpa using d
     exact yv.1 (by show _=45;omega)
    unfold A9;rw[f,wd g];rfl
   ·have g:x≠45:=by rintro rfl;exact wh d af
    unfold A9;rw[f,wc g]
theorem T113.ok[Srt]:Af AY 113 oL:=by
 refine BA dO<|fun(a:Rd) hl=>?_;have b:=(qd a).1;refine zp (T113.Aj a)<|zd hl ?_;rw[show A3 a=((AJ a).length:Int)from rfl,zh];exact zd (by simp;omega)<|ze<|zu rfl rfl (BX a).1.symm
theorem T114.ok[Srt]:Af AY 114 cN:=by
 refine BA dO<|fun(a:Rd) hl=>?_;have e:a.length<=1000000:=w6 hl;obtain⟨m,j,d⟩:=BX a;have c:∀s ob,s=QE a->Ac cN a (.dat .str s) ob:=fun s ob h=>zu rfl rfl h
 have g:=(qd a).1;have es:A3 a=((AJ a).length:Int):=rfl;refine zp (T114.Aj a)<|zd hl ?_;rw[es];cases b:BR a with
 |false=>
  refine zd (by rw[(d b).1];simp)<|ze<|c _ _ ?_;unfold QE;rw[b];rfl
 |true=>
  obtain⟨l,i⟩:=j b;have k:zc .i64 (((AJ a).length:Int)+1)=(((AJ a).length+1:Nat):Int):=by rw[wr _ ae ae];omega
  have f:(a.drop<|(AJ a).length+1).take (yh a.length<|(AJ a).length+1)=a.drop ((AJ a).length+1):=zy (by rw[zz];exact ym _);rw[k,zh,f];refine zm (by simp;omega) (zd (by simp;omega)<|ze<|c _ _ ?_);unfold QE;rw[b,i];rfl
theorem zQ[Srt]:Cv XM3:=Aa T78.ok<|Aa T33.ok<|Aa T113.ok<|Aa T114.ok AB
theorem T49.ok[Srt]:Af AY 49 ZT:=by
 refine BA zQ<|fun(i:Rd×Int) g=>?_;obtain⟨a,n⟩:=i;have g:(decide (0<=n)&&decide (n<=1000))=true:=g;rw[zf,w5,w5]at g;obtain⟨h0,h1⟩:=g;have f:∀v b ob,v=.bl b\/v=.dat .bool b->b=Cm a n->Ac ZT (a,n) v ob:=by
  rintro v b ob (rfl|rfl) j
  ·exact zu rfl rfl j
  ·exact zu rfl rfl j
 have l:zc .i64 (zc .i64 (2*n)+2)=2*n+2:=by rw[wr (2*n) ae ae];exact wr _ ae ae
 have k:=(qd a).1;refine zp (T49.Aj a n) ?_;conv=>zeta
 rw[l];by_cases h:a.length<=1000000
 case neg=>
  have c:decide ((a.length:Int)<=2*n+2)=false:=w8 ae;refine zm c<|ze<|f _ _ _ (.inl rfl) ?_;unfold Cm;rw[c];rfl
 refine zg (fun c=>zd (w4 h)<|zg (fun d=>zd (w4 h)<|zd (w4 ae)<|zg (fun e=>zd (w4 h)<|ze<|f _ _ _ (.inr rfl) ?_)<|fun e=>ze<|f _ _ _ (.inl rfl) ?_)<|fun d=>ze<|f _ _ _ (.inl rfl) ?_)<|fun c=>ze<|f _ _ _ (.inl rfl) ?_
 ·have d:Ap a=0:=by simpa using d
  unfold Cm;rw[c,e,w4 d];rfl
 ·unfold Cm;rw[e];simp
 ·have d:Ap a≠0:=by simpa using d
  unfold Cm;rw[w8 d];simp
 ·unfold Cm;rw[c];rfl
namespace T144
theorem Au[Srt](g:Nat)(b:∀ob,Q (.dat i64 (g:Int)) ob):∀(f x y:Nat),y<f->Nat.gcd x y=g->Ends Pr (L1 (x:Int) (y:Int)) Q
 |0,x,y,h,_=>by omega
 |f+1,x,y,d,a=>by
  refine zj (Ak ..) ?_;conv=>zeta
  by_cases h0:y=0
  ·subst h0;rw[Nat.gcd_zero_right]at a;subst a;exact zm rfl (ze<|b _)
  ·have e:z8 (x:Int) (y:Int)=((x % y:Nat):Int):=by rw[yy<|yz x];rfl
   rw[e];have c:x % y<y:=Nat.mod_lt _ ae;exact zd (by simp;omega) (zd (by simp;omega)<|Au g b f y (x % y) ae (by rw[Nat.gcd_comm, <-Nat.gcd_rec,Nat.gcd_comm];exact a))
theorem ok[Srt]:Af AY 144 AcV:=by
 refine BA Fi<|fun(i:Int×Int) c=>?_;obtain⟨a,b⟩:=i;have c:(decide (0<=a)&&decide (a<9223372036854775808)&&decide (0<=b)&&decide (b<9223372036854775808))=true:=c;rw[zf,zf,zf,w5,w5,w5,w5]at c;obtain⟨⟨⟨a0,_⟩,b0⟩,_⟩:=c;obtain⟨x,rfl⟩:=yb a0;obtain⟨y,rfl⟩:=yb b0;refine zp (Aj x y)<|Au (Nat.gcd x y) (fun ob=>zu rfl rfl ?_) (y+1) x y (Nat.lt_succ_self _) rfl;show((Nat.gcd x y:Nat):Int)=qv (x:Int) (y:Int);rw[GJ];rfl
end T144
namespace T87
theorem ok[Srt]:Af AY 87 NS:=by
 refine BA Fi<|fun(s:Rd) hl=>?_;have a:∀v ob,v=F6 s->Ac NS s (.dat i64 v) ob:=fun v ob f=>zu rfl rfl f
 refine zp (Aj s)<|zg (fun c=>ze<|a _ _ ?_)<|fun c=>?_
 ·have c:s=[48]:=by simpa using c
  unfold F6;rw[wd c]
 ·have c:¬s=[48]:=by simpa using c
  cases s with
  |nil=>exact zm rfl (ze<|a _ _ rfl)
  |cons x r=>
   have e:(x::r).getD 0 0=x:=rfl;rw[e];refine zd (by simp) (zd (by simp)<|zg (fun d=>ze<|a _ _ ?_)<|fun d=>ze<|a _ _ ?_)
   ·have b:x=45:=by
     have:(x.toNat:Int)=45:=by simpa using d
     exact yv.1 (by show _=45;omega)
    unfold F6;rw[wc c,e,wd b]
   ·have b:x≠45:=by rintro rfl;exact wh d af
    unfold F6;rw[wc c,e,wc b]
end T87
theorem xA[Srt]:Cv XO2:=Aa T87.ok AB
theorem T86.ok[Srt]:Af AY 86 aK:=by
 refine BA xA<|fun(s:Rd) b=>?_;have b:s.length<=1000000:=w6 b;have a:∀v ob,v=M5 s->Ac aK s (.dat .str v) ob:=fun v ob e=>zu rfl rfl e
 refine zp (T86.Aj s)<|zd (w4 b) ?_;unfold M5 at a;unfold F6;by_cases c:s=[48]
 ·rw[wd c];rw[wd c]at a;exact zm rfl (zd (w4 b)<|zd rfl (ze<|a _ _ rfl))
 ·rw[wc c];rw[wc c]at a;by_cases d:s.getD 0 0=45
  ·rw[wd d];rw[wd d]at a;have f:s≠[]:=by rintro rfl;exact wh d af
   have hp:1<=s.length:=List.length_pos_iff.2 f;refine zd rfl (zd (by simp;omega)<|ze<|a _ _ ?_);exact zy (by rw[zz];exact ym _)
  ·rw[wc d];rw[wc d]at a;exact zm rfl (zd (w4 b)<|zm rfl (zd (by simp;omega)<|ze<|a _ _ rfl))
namespace T145
theorem gL:∀k:Fin 10,qz (yh (k.1+1) k.1) (List.drop k.1 [(48:UInt8),49,50,51,52,53,54,55,56,57])=[yq<|48+k.1]:=af
theorem Au[Srt]{Q:PV->Ob->Prop}(l:Nat)(s:l<=20):∀(f n:Nat) (a:Rd),n<9223372036854775808->n<10^f->l<=a.length+f->a.length+f<=64->(∀ob,Q (.dat .str<|Iz (f+1) n l a) ob)->Ends Pr (L1 (n:Int) (l:Int) a) Q:=by
 intro f;induction f with
 |zero=>
  intro n a r i e h b;have h0:n=0:=by rw[Nat.pow_zero]at i;omega
  subst h0;unfold Iz at b;rw[wd ⟨rfl,by omega⟩]at b;exact zj (Ak ..) (zm rfl (zm (by simp;omega)<|ze<|b _))
 |succ f o=>
  intro n a r i e h b;have q:z8 (n:Int) 10=((n % 10:Nat):Int):=by rw[yy<|yz n];rfl
  have m:zc .i64 (((n % 10:Nat):Int)+1)=((n % 10+1:Nat):Int):=by rw[wr _ ae ae];omega
  have k:zc .i64 (ye (n:Int) 10)=((n/10:Nat):Int):=by rw[Int.tdiv_eq_ediv_of_nonneg<|yz n,wr _ ae ae];rfl
  have d:=gL ⟨n % 10,Nat.mod_lt _ af⟩;have d:qz (yh (n % 10+1)<|n % 10) (List.drop (n % 10) [(48:UInt8),49,50,51,52,53,54,55,56,57])=[yq<|48+n % 10]:=d;have t:n % 10<10:=Nat.mod_lt _ af;rw[Nat.pow_succ]at i;refine zj (Ak ..) ?_;conv=>zeta
  rw[q,m,k,zh,zh,d];by_cases j:n=0/\l<=a.length
  ·obtain⟨p,z2⟩:=j;subst p;unfold Iz at b;rw[wd ⟨rfl,z2⟩]at b;exact zm rfl (zm (by simp;omega)<|ze<|b _)
  ·have g:∀ob,Q (.dat .str<|Iz (f+1) (n/10) l (yq (48+n % 10)::a)) ob:=by
    intro ob;have:=b ob;unfold Iz at this;rw[wc j]at this;exact this
   have go:Ends Pr (L1 ((n/10:Nat):Int) (l:Int)<|[yq<|48+n % 10]++a) Q:=o (n/10) (yq (48+n % 10)::a) ae ae (by rw[zn];omega) (by rw[zn];omega) g;refine zg (fun _=>?_)<|fun c=>zd ?_ ?_
   ·exact zd rfl (zd rfl (zd (by simp;omega)<|zd (by simp;omega)<|zd rfl go))
   ·have c:=w7 c;exact w4 ae
   ·exact zd rfl (zd rfl (zd (by simp;omega)<|zd (by simp;omega)<|zd rfl go))
theorem ok[Srt]:Af AY 145 RE:=by
 refine BA Fi<|fun(i:Int×Int) c=>?_;obtain⟨a,b⟩:=i;have c:(decide (0<=a)&&decide (a<9223372036854775808)&&decide (0<=b)&&decide (b<=20))=true:=c;rw[zf,zf,zf,w5,w5,w5,w5]at c;obtain⟨⟨⟨a0,a1⟩,b0⟩,b1⟩:=c;obtain⟨x,rfl⟩:=yb a0;obtain⟨y,rfl⟩:=yb b0;refine zp (Aj x y) (Au y ae 63 x [] ae ae (by show y<=0+63;omega) af<|fun ob=>zu rfl rfl ?_);show Iz 64 x y []=Iz 64 (x:Int).toNat (y:Int).toNat [];rw[zh,zh]
end T145
theorem AaH[Srt]:Cv Pc:=Aa T142.ok<|Aa T139.ok AB
namespace T80
theorem CH[Srt](neg:Bool)(n d:Int)(h0:0<=n)(b:n<1000000000)(a:∀ob,Q (.tup [.dat i64<|if neg=true then -n else n,.dat i64 d,.bl true]) ob):Ends Pc (L7 neg n d) Q:=by
 refine zj (DY ..) ?_;conv=>zeta
 cases neg with
 |true=>
  refine zd rfl (ze ?_);rw[wr _ ae ae,Int.zero_sub];exact a _
 |false=>exact zm rfl (ze<|a _)
theorem CS[Srt](s:Rd)(neg:Bool)(n:Int)(h0:0<=n)(d:n<1000000000)(o:s.length<=20)(l:(yg s).length<=9)(db:As (yg s)=true)(b:∀ob,Q (.tup [.dat i64<|if neg=true then -n else n,.dat i64<|if BR s=true then AI 0 (yg s)else 1,.bl true]) ob):Ends Pc (L5 s neg (A3 s) n 1) Q:=by
 obtain⟨m,k,j⟩:=BX s;refine zj (D0 ..) ?_;conv=>zeta
 have es:A3 s=((AJ s).length:Int):=rfl;have h:=(qd s).1;cases a:BR s with
 |true=>
  rw[a]at b;obtain⟨e,c⟩:=k a;have f:zc .i64 (A3 s+1)=(((AJ s).length+1:Nat):Int):=by rw[es,wr _ ae ae];omega
  have i:(yg s).length=s.length-((AJ s).length+1):=by rw[c,zz]
  have g:(yg s).take (yh s.length<|(AJ s).length+1)=yg s:=zy (by show _<=s.length-_;omega);rw[f,zh, <-c,g];exact zd (by simp[es];omega) (zd (by simp;omega) (zd (T138.Co db ae)<|CH neg n _ h0 d b))
 |false=>
  obtain⟨e,c⟩:=j a;rw[a]at b;exact zm (by simp[es,e])<|CH neg n 1 h0 d b
theorem Dr[Srt](s:Rd)(neg:Bool)(h:s.length<=20)(m:(AJ s).length<=9)(d:(yg s).length<=9)(a:As (AJ s)=true)(db:As (yg s)=true)(i:∀n ob,n=AI 0 (AJ s)->Q (.tup [.dat i64<|if neg=true then -n else n,.dat i64<|if BR s=true then AI 0 (yg s)else 1,.bl true]) ob):Ends Pc (L3 s neg ) Q:=by
 obtain⟨g,l,j⟩:=BX s;have es:A3 s=((AJ s).length:Int):=rfl;have f:=(qd s).1;have b:s.length-(AJ s).length<=10:=by
  cases c:BR s with
  |true=>
   obtain⟨o,k⟩:=l c;have:(yg s).length=s.length-((AJ s).length+1):=by rw[k,zz]
   omega
  |false=>rw[(j c).1];omega
 have e:qz (Int.toNat<|A3 s) s=AJ s:=by rw[es,zh];exact g.symm
 obtain⟨v0,v1⟩:=T138.CP a m;refine zj (Be ..) ?_;conv=>zeta
 rw[e];refine zd (by simp;omega) (zm (by simp[es];omega) (zm ?_<|zd (by simp[es];omega) (zd (T138.Co a ae) ?_)))
 ·rw[es,wr _ ae ae];exact w8 ae
 ·exact CS s neg (AI 0<|AJ s) v0 v1 h d db<|fun ob=>i _ ob rfl
theorem Gc[Srt](n d:Int)(a:∀ob,Q (.tup [.dat i64 n,.dat i64 d,.bl true]) ob):Ends Pc (L8 n d) Q:=by
 refine zj (HG ..) ?_;conv=>zeta
 exact ze<|a _
theorem Fk[Srt](s:Rd)(n:Int)(m:s.length<=20)(k:(yg s).length<=9)(db:As (yg s)=true)(a:∀ob,Q (.tup [.dat i64 n,.dat i64<|if BR s=true then AI 0 (yg s)else 1,.bl true]) ob):Ends Pc (L6 s (A3 s) n 1) Q:=by
 obtain⟨l,j,g⟩:=BX s;refine zj (EW ..) ?_;conv=>zeta
 have es:A3 s=((AJ s).length:Int):=rfl;have h:=(qd s).1;cases b:BR s with
 |true=>
  rw[b]at a;obtain⟨d,c⟩:=j b;have e:zc .i64 (A3 s+1)=(((AJ s).length+1:Nat):Int):=by rw[es,wr _ ae ae];omega
  have i:(yg s).length=s.length-((AJ s).length+1):=by rw[c,zz]
  have f:(yg s).take (yh s.length<|(AJ s).length+1)=yg s:=zy (by show _<=s.length-_;omega);rw[e,zh, <-c,f];exact zd (by simp[es];omega) (zd (by simp;omega) (zd (T138.Co db ae)<|Gc n _ a))
 |false=>
  obtain⟨d,c⟩:=g b;rw[b]at a;exact zm (by simp[es,d])<|Gc n 1 a
theorem Cc[Srt](s:Rd)(h:s.length<=20)(m:(AJ s).length<=9)(d:(yg s).length<=9)(a:As (AJ s)=true)(db:As (yg s)=true)(i:∀n ob,n=AI 0 (AJ s)->Q (.tup [.dat i64 n,.dat i64<|if BR s=true then AI 0 (yg s)else 1,.bl true]) ob):Ends Pc (L4 s ) Q:=by
 obtain⟨g,l,j⟩:=BX s;have es:A3 s=((AJ s).length:Int):=rfl;have f:=(qd s).1;have b:s.length-(AJ s).length<=10:=by
  cases c:BR s with
  |true=>
   obtain⟨o,k⟩:=l c;have:(yg s).length=s.length-((AJ s).length+1):=by rw[k,zz]
   omega
  |false=>rw[(j c).1];omega
 have e:qz (Int.toNat<|A3 s) s=AJ s:=by rw[es,zh];exact g.symm
 obtain⟨v0,v1⟩:=T138.CP a m;refine zj (B1 ..) ?_;conv=>zeta
 rw[e];refine zd (by simp;omega) (zm (by simp[es];omega)<|zm ?_<|zd (by simp[es];omega)<|zd (T138.Co a ae) ?_)
 ·rw[es,wr _ ae ae];exact w8 ae
 ·exact Fk s (AI 0<|AJ s) h d db<|fun ob=>i _ ob rfl
end T80
end Go.Pe
namespace Go.Sp
theorem HF(a:List Int)(i:Nat):val B9 (a.drop i)=a.getD i 0+1000000000*val B9 (a.drop<|i+1):=by
 by_cases h:i<a.length
 ·rw[Cz h];rfl
 ·rw[zw ae,zw ae,show a.getD i 0=0 by rw[z6,List.getElem?_eq_none ae];rfl];rfl
structure GC(a b:List Int)(i:Nat)(o:List Int)(c:Int):Prop where
 len:o.length=i
 d:AA B9 o
 c01:0<=c/\c<=1
 v:val B9 o+(B9:Int)^i*(c+val B9 (a.drop i)+val B9 (b.drop i))=Aq a+Aq b
 top:a.length<=i->b.length<=i->i=0\/(B9:Int)^(i-1)<=val B9 o+(B9:Int)^i*c
theorem GC.start(a b:List Int):GC a b 0 [] 0:=⟨rfl,(fun x c=>by cases c),by decide,by
 show 0+(B9:Int)^0*(0+val B9 a+val B9 b)=val B9 a+val B9 b;rw[Int.pow_zero,qi];omega,fun _ _=>.inl rfl⟩
theorem BK{a:List Int}(h:Bb a=true)(i:Nat):0<=a.getD i 0/\a.getD i 0<1000000000:=Hs (BB h).2.1 i
theorem UW{a:List Int}(h:Bb a=true){i:Nat}(b:i<a.length)(c:a.length<=i+1):1<=a.getD i 0:=by
 have:=(Go.Pe.G3 (BB h).2.1 (BB h).2.2 (k:=i) ae).1;omega
theorem GC.step{a b:List Int}{i:Nat}{o:List Int}{c:Int}(h:GC a b i o c)(n:Bb a=true)(l:Bb b=true)(g:i<a.length\/i<b.length\/0<c):
  GC a b (i+1) (o++[(a.getD i 0+b.getD i 0+c) % 1000000000]) ((a.getD i 0+b.getD i 0+c)/1000000000):=by
 obtain⟨t,s⟩:=BK n i;obtain⟨y0,y1⟩:=BK l i;obtain⟨c0,c1⟩:=h.c01;have m:=h.v;rw[HF a i,HF b i]at m;have j:1<=a.getD i 0+b.getD i 0+c\/¬(a.length<=i+1/\b.length<=i+1):=by
  by_cases k:a.length<=i+1/\b.length<=i+1
  ·refine .inl ?_;rcases g with g|g|g
   ·have:=UW n g k.1;omega
   ·have:=UW l g k.2;omega
   ·omega
  ·exact .inr k
 have u:=AH (b:=B9) af h.d;have p:=Bj (b:=B9) af i;generalize a.getD i 0=x at*;generalize b.getD i 0=y at*;have f:val B9 (o++[(x+y+c) % 1000000000])=val B9 o+(B9:Int)^i*((x+y+c) % 1000000000):=by rw[CE,h.len]
 refine⟨by rw[z7,h.len];rfl,F5 h.d ae,by omega,?_,fun q r=>.inr ?_⟩
 ·rw[f,M8,qn, <-qj, <-m];congr 2;omega
 ·rw[f,M8,qn, <-qj,zx];have e:(x+y+c) % 1000000000+1000000000*((x+y+c)/1000000000)=x+y+c:=ae
  rw[e];rcases j with j|j
  ·have:=yd j<|yi p;rw[Int.mul_one]at this;omega
  ·exact wh ⟨q,r⟩ j
theorem AgF{o:List Int}(i:AA B9 o)(h:o=[]\/(B9:Int)^(o.length-1)<=val B9 o):nz o:=by
 rcases h with rfl|h
 ·unfold nz;simp
 ·intro e;have c:o≠[]:=by rintro rfl;simp at e
  have f:o=o.dropLast++[0]:=by
   have d:=(List.dropLast_concat_getLast c).symm;rw[List.getLast?_eq_some_getLast c]at e;rw[Option.some.inj e]at d;exact d
  have g:o.length=o.dropLast.length+1:=by rw[List.length_dropLast];have:=List.length_pos_iff.2 c;omega
  have j:val B9 o=val B9 o.dropLast:=by
   conv=>lhs;rw[f]
   rw[CE,qe,qf]
  have a:AA B9 o.dropLast:=fun x k=>i x (by rw[f];exact List.mem_append_left _ k)
  have:=Bz (b:=B9) af a;rw[j,g,zx]at h;omega
theorem GC.fin{a b:List Int}{i:Nat}{o:List Int}(h:GC a b i o 0)(e:a.length<=i)(g:b.length<=i):o=Iu a b:=by
 have c:=h.v;rw[zw e,zw g]at c;have c:val B9 o+(B9:Int)^i*(0+0+0)=Aq a+Aq b:=c;rw[show(0+0+0:Int)=0 from rfl,qe,qf]at c;have f:=h.top e g;rw[qe,qf, <-h.len]at f;have j:nz o:=AgF h.d (by
  rcases f with k|k
  ·exact .inl<|yc.1 k
  ·exact .inr k)
 unfold Iu;rw[<-c];exact I5 (b:=B9) af h.d j
structure Hn(a b:List Int)(i:Nat)(o:List Int)(c:Int):Prop where
 len:o.length=i
 d:AA B9 o
 c01:0<=c/\c<=1
 v:val B9 o+(B9:Int)^i*(val B9 (a.drop i)-val B9 (b.drop i)-c)=Aq a-Aq b
theorem Hn.start(a b:List Int):Hn a b 0 [] 0:=⟨rfl,(fun x c=>by cases c),by decide,by
 show 0+(B9:Int)^0*(val B9 a-val B9 b-0)=val B9 a-val B9 b;rw[Int.pow_zero,qi];omega⟩
theorem Hn.step{a b:List Int}{i:Nat}{o:List Int}{c:Int}(h:Hn a b i o c)(g:Bb a=true)(j:Bb b=true)(d e:Int)(m:(a.getD i 0-b.getD i 0-c<0/\d=a.getD i 0-b.getD i 0-c+1000000000/\e=1)\/(¬a.getD i 0-b.getD i 0-c<0/\d=a.getD i 0-b.getD i 0-c/\e=0)):
  Hn a b (i+1) (o++[d]) e:=by
 obtain⟨k,l⟩:=BK g i;obtain⟨y0,y1⟩:=BK j i;obtain⟨c0,c1⟩:=h.c01;have f:=h.v;rw[HF a i,HF b i]at f;generalize a.getD i 0=x at*;generalize b.getD i 0=y at*;refine⟨by rw[z7,h.len];rfl,F5 h.d ae,by omega,?_⟩;rw[CE,h.len,M8,qn, <-qj, <-f];congr 2;omega
theorem Hn.fin{a b:List Int}{o:List Int}{c:Int}(h:Hn a b a.length o c)(l:Bb b=true)(g:Aq b<=Aq a):AD o=Jx a b:=by
 have e:=h.v;rw[List.drop_length]at e;have h0:=AH (b:=B9) af<|E0 (BB l).2.1 a.length;have f:=Bz (b:=B9) af h.d;rw[h.len]at f;obtain⟨m,n⟩:=h.c01;have j:=Bj (b:=B9) af a.length;have e:val B9 o+(B9:Int)^a.length*(0-val B9 (b.drop a.length)-c)=Aq a-Aq b:=e;generalize val B9 (b.drop a.length)=z at*;have i:0-z-c=0:=by
  rcases Int.lt_or_le (0-z-c) 0 with k|k
  ·have:=yd (show 0-z-c<= -1 by omega)<|yi j;rw[y8,Int.mul_one]at this;omega
  ·omega
 rw[i,qe,qf]at e;unfold Jx;rw[Fv h.d, <-e];rfl
open Go.Lib
theorem Y4(n:Int):rN n=decide (n<0):=rfl
theorem Jh(a:Bool×List Int):(a.1=true->vR a= -Aq a.2)/\(a.1=false->vR a=Aq a.2):=by
 unfold vR;exact⟨fun h=>by rw[wd h],fun h=>by rw[wc<|by rw[h];decide]⟩
theorem Lf{neg:Bool}{w:List Int}{n:Int}(c:AA B9 w)(h0:0<=Aq w)(a:neg=true->n= -Aq w)(b:neg=false->n=Aq w):(CQ neg w,AD w)=(rN n,rW n):=by
 refine oG c ?_<|fun d=>?_
 ·rw[Al];cases neg with
  |true=>have:=a rfl;omega
  |false=>have:=b rfl;omega
 ·rw[Y4];cases neg with
  |true=>have:=a rfl;symm;rw[w5];omega
  |false=>have:=b rfl;symm;rw[w9];omega
theorem EM{n:Int}(h:0<=n):Aq (BW n)=n/\AA B9 (BW n):=⟨Di (b:=B9) af h,Gj (b:=B9) af n⟩
theorem fF{a b:Bool×List Int}(e:CG a=true)(d:CG b=true)(h:a.1=b.1):(CQ a.1<|Iu a.2 b.2,AD<|Iu a.2 b.2)=(Ow a b,N8 a b):=by
 have a0:=(E2 e).2;have g:=(E2 d).2;obtain⟨f,c⟩:=Jh a;obtain⟨f1,f2⟩:=Jh b;obtain⟨hv,hd⟩:=EM (n:=Aq a.2+Aq b.2) ae;refine Lf hd (by show 0<=Aq (BW _);omega) (fun k=>?_)<|fun k=>?_
 ·rw[f k,f1<|by rw[<-h];exact k];show _= -Aq (BW _);omega
 ·rw[c k,f2<|by rw[<-h];exact k];show _=Aq (BW _);omega
theorem aU{a b:Bool×List Int}(c:CG b=true)(h:a.1≠b.1)(f:Aq b.2<=Aq a.2):(CQ a.1<|Jx a.2 b.2,AD<|Jx a.2 b.2)=(Ow a b,N8 a b):=by
 have g:=(E2 c).2;obtain⟨e,d⟩:=Jh a;obtain⟨f1,f2⟩:=Jh b;obtain⟨hv,hd⟩:=EM (n:=Aq a.2-Aq b.2) ae;refine Lf hd (by show 0<=Aq (BW _);omega) (fun k=>?_)<|fun k=>?_
 ·rw[e k,f2 (by rw[k]at h;cases c:b.1 with|true=>exact wh c.symm h|false=>rfl)];show _= -Aq (BW _);omega
 ·rw[d k,f1 (by rw[k]at h;cases c:b.1 with|true=>rfl|false=>exact wh c.symm h)];show _=Aq (BW _);omega
theorem Abe{a b:Bool×List Int}(c:CG a=true)(h:a.1≠b.1)(d:Aq a.2<=Aq b.2):(CQ b.1<|Jx b.2 a.2,AD<|Jx b.2 a.2)=(Ow a b,N8 a b):=by
 have:=aU c (fun k=>h k.symm) d;rw[this];unfold Ow N8;rw[Int.add_comm]
theorem rQ{a b:Bool×List Int}(h:CG a=true)(g:CG b=true):(CQ (a.1 !=b.1)<|BW<|Aq a.2*Aq b.2,AD<|BW<|Aq a.2*Aq b.2)=(Ir a b,Ie a b):=by
 have a0:=(E2 h).2;have i:=(E2 g).2;obtain⟨f,e⟩:=Jh a;obtain⟨f1,f2⟩:=Jh b;have p0:=ql a0 i;obtain⟨hv,hd⟩:=EM p0;refine Lf hd ae (fun k=>?_)<|fun k=>?_
 ·rw[hv];cases c:a.1<;>cases d:b.1<;>rw[c,d]at k
  ·exact wh k af
  ·rw[e c,f1 d,y8]
  ·rw[f c,f2 d,Int.neg_mul]
  ·exact wh k af
 ·rw[hv];cases c:a.1<;>cases d:b.1<;>rw[c,d]at k
  ·rw[e c,f2 d]
  ·exact wh k af
  ·exact wh k af
  ·rw[f c,f1 d,Int.neg_mul,y8,Int.neg_neg]
theorem vP{a:Bool×List Int}(b:CG a=true):(CQ (!a.1) a.2,AD a.2)=(Vw a,Ub a):=by
 have a0:=(E2 b).2;obtain⟨d,c⟩:=Jh a;refine Lf (BB (Dp b).1).2.1 a0 (fun k=>?_)<|fun k=>?_
 ·rw[c<|by simpa using k]
 ·rw[d (by simpa using k),Int.neg_neg]
theorem Np{b:Bool×List Int}(c:CG b=true)(h0:0<vR b):b.1=false/\vR b=Aq b.2:=by
 have e:=(E2 c).2;obtain⟨d,a⟩:=Jh b;cases h:b.1 with
 |true=>have:=d h;omega
 |false=>exact⟨rfl,a h⟩
theorem lG{A b:Int}(c:0<b)(hr:A % b≠0): -A/b= -(A/b+1):=by
 have d:=Int.mul_ediv_add_emod A b;have e:=Int.emod_nonneg A (show b≠0 by omega);have f:=Int.emod_lt_of_pos A c;refine((Int.ediv_emod_unique (a:= -A) (b:=b) (r:=b-A % b) (q:= -(A/b+1)) c).2 ⟨?_,by omega,by omega⟩).1;rw[y8,qj,Int.mul_one];omega
theorem YU{A b:Int}(c:0<b)(hr:A % b=0): -A/b= -(A/b):=by
 have d:=Int.mul_ediv_add_emod A b;refine((Int.ediv_emod_unique (a:= -A) (b:=b) (r:=0) (q:= -(A/b)) c).2 ⟨?_,by omega,c⟩).1;rw[y8];omega
theorem Qo{a b:Bool×List Int}(c:CG a=true)(g:CG b=true)(h0:0<vR b)(h:a.1=false\/Aq a.2 % Aq b.2=0):(CQ a.1<|BW<|Aq a.2/Aq b.2,AD<|BW<|Aq a.2/Aq b.2)=(JP a b,JT a b):=by
 have a0:=(E2 c).2;obtain⟨e,d⟩:=Jh a;obtain⟨_,f⟩:=Np g h0;rw[f]at h0;have q0:=qg a0<|yi h0;obtain⟨hv,hd⟩:=EM q0;refine Lf hd ae (fun k=>?_)<|fun k=>?_
 ·rw[hv,e k,f];rcases h with h|h
  ·rw[k]at h;cases h
  ·exact YU h0 h
 ·rw[hv,d k,f]
theorem YT{a b:Bool×List Int}(c:CG a=true)(j:CG b=true)(h0:0<vR b)(h:a.1=true)(hr:Aq a.2 % Aq b.2≠0):(CQ a.1<|Iu (BW<|Aq a.2/Aq b.2) [1],AD<|Iu (BW<|Aq a.2/Aq b.2) [1])=(JP a b,JT a b):=by
 have a0:=(E2 c).2;obtain⟨i,l⟩:=Jh a;obtain⟨_,f⟩:=Np j h0;rw[f]at h0;have q0:=qg a0<|yi h0;have e:Iu (BW<|Aq a.2/Aq b.2) [1]=BW (Aq a.2/Aq b.2+1):=by
  unfold Iu;rw[(EM q0).1];rfl
 rw[e];obtain⟨g,d⟩:=EM (n:=Aq a.2/Aq b.2+1) ae;refine Lf d ae (fun k=>?_)<|fun k=>?_
 ·rw[g,i k,f];exact lG h0 hr
 ·rw[h]at k;cases k
theorem zU{w:List Int}{i:Nat}(a:w.length=i+1):val B9 (w.drop i)=w.getD i 0:=by
 rw[HF,zw ae];show _+1000000000*0=_;omega
theorem Yq{w:List Int}(a:Bb w=true){i:Nat}(b:w.length=i+1):JD (w.getD i 0) 1=decDigits (val B9<|w.drop i).toNat/\0<val B9 (w.drop i):=by
 have g:=BK a i;have t:=UW a (i:=i) ae ae;rw[zU b];exact⟨P2 g.1 ae,by omega⟩
theorem iG{w:List Int}(a:Bb w=true)(i:Nat)(h0:0<val B9 (w.drop<|i+1)):decDigits (val B9<|w.drop<|i+1).toNat++JD (w.getD i 0) 9=decDigits (val B9<|w.drop i).toNat/\0<val B9 (w.drop i):=by
 have g:=BK a i;rw[HF w i,iD g.1 g.2];generalize val B9 (w.drop<|i+1)=V at*;generalize w.getD i 0=x at*;have h:=Us 9 V.toNat x.toNat af ae ae;refine⟨?_,by omega⟩;rw[<-h];congr 1;omega
theorem wI{a:Bool×List Int}(d:CG a=true)(c:a.2≠[]):(if a.1=true then 45::decDigits (Aq a.2).toNat else decDigits (Aq a.2).toNat)=F8 a:=by
 obtain⟨f,e⟩:=Jh a;have h0:0<Aq a.2:=Ks (b:=B9) af (BB (Dp d).1).2.1 (BB (Dp d).1).2.2 c;unfold F8 AX itoa;by_cases h:a.1=true
 ·rw[wd h,f h,wd ae,show(-Aq a.2).natAbs=(Aq a.2).toNat by omega]
 ·have h:a.1=false:=by simpa using h
  rw[wc (by rw[h];decide),e h,wc ae]
theorem lI{a:Bool×List Int}(h:a.2=[]):[48]=F8 a:=by
 have:vR a=0:=by
  unfold vR;rw[h];split<;>rfl
 unfold F8 AX itoa;rw[this,wc af,show(0:Int).toNat=0 from rfl,decDigits_one af];rfl
theorem Lo{N D:Int}(b:0<D):0<gI (Ai N) D/\Ai N/gI (Ai N) D=Ai (zl N D).num/\D/gI (Ai N) D=((zl N D).den:Int)/\(N<0↔(zl N D).num<0):=by
 have e:D.sign=1:=Int.sign_eq_one_of_pos b;have l:(zl N D).num=N/(yp N D:Int):=by rw[Rat.num_divInt,e,qi,qw]
 have f:((zl N D).den:Int)=D/(yp N D:Int):=by
  rw[Rat.den_divInt,wc<|Int.ne_of_gt b,qw,Int.natCast_ediv];rw[Int.natAbs_of_nonneg<|yi b]
 have j:gI (Ai N) D=(yp N D:Int):=by rw[GJ,Al];rfl
 have a:0<yp N D:=Int.gcd_pos_of_ne_zero_right _ ae;obtain⟨k,d⟩:(yp N D:Int)∣N:=Int.gcd_dvd_left ..;rw[j,l,f];have a:(0:Int)<(yp N D:Int):=ae
 generalize (yp N D:Int)=g at*;have c:N/g=k:=by rw[d,y9 _ ae]
 have i:Ai N/g=Ai k:=by
  rw[Al,Al,d,qm,Int.natCast_mul,show((g.natAbs:Nat):Int)=g by omega,y9 _ ae]
 refine⟨a,by rw[c,i],rfl,?_⟩;rw[c];constructor
 ·intro h;rcases Int.lt_or_le k 0 with x|x
  ·exact x
  ·have:=ql (yi a) x;omega
 ·intro h;have:=Int.mul_neg_of_pos_of_neg a h;omega
theorem pZ{N D:Int}(b:0<D){neg:Bool}(c:neg=rN N):(CQ neg<|BW<|Ai N/gI (Ai N) D,AD<|BW<|Ai N/gI (Ai N) D)=(rN (zl N D).num,rW (zl N D).num):=by
 obtain⟨_,a,_,d⟩:=Lo (N:=N) b;rw[a];have a0:=Pz (zl N D).num;obtain⟨hv,hd⟩:=EM a0;refine oG hd hv<|fun _=>?_;rw[c,Y4,Y4,decide_eq_decide];exact d
theorem zK{n:Int}(h0:0<=n):BW n=[1]↔n=1:=by
 constructor
 ·intro h;have:=(EM h0).1;rw[h]at this;exact this.symm
 ·rintro rfl;rfl
theorem Tl{N D:Int}:CT N D=if (zl N D).den=1 then AX (zl N D).num else AX (zl N D).num++47::AX ((zl N D).den:Int):=by
 unfold CT AO;split
 ·rfl
 ·rw[show AX ((zl N D).den:Int)=decDigits (zl N D).den from Lib.itoa_nonneg _];rfl
theorem VL(N D:Int):CT (-N) (-D)=CT N D:=by
 unfold CT;rw[Rat.neg_divInt_neg]
theorem Rh{s:Rd}(h:AU s=true):Bo s=Jf s/\AZ s=Uu s/\As (AJ<|A9 s)=true/\As (A1<|A9 s)=true:=by
 obtain⟨t,_⟩:=Gg h;obtain⟨c1,c2,c3⟩:=FE<|Ao s;obtain⟨p1,p2,p3,p4⟩:=TK s;obtain⟨i1,i2,i3,i4⟩:=Dy (Ao s).num;rw[t]at c1 c2 c3;have b:As (A1 s)=true:=by
  rw[c2];split
  ·rfl
  ·exact D6 _
 refine⟨?_,?_,?_,?_⟩
 ·unfold Bo Jf BU;rw[p1, <-p4];unfold A9 preB;by_cases a:(AJ s).getD 0 0=45
  ·rw[wd a,wd a,wd<|w4 a]
  ·rw[wc a,wc a,wc<|by rw[w8 a];decide]
 ·unfold AZ Uu BU;rw[p2,p3,wc<|Gq b]
 ·rw[p1,c1,i2];exact D6 _
 ·rw[p2];exact b
theorem Ha{s:Rd}(h:AU s=true)(a:EN s=true):jV s=Bo s/\Xa s=AZ s/\ -1000000000<Bo s/\Bo s<1000000000/\0<AZ s/\AZ s<1000000000:=by
 obtain⟨b,c,g,f⟩:=Rh h;have e:0<AZ s:=by
  have:=(Ea h).2.2.2.2.2.1;have:=(Ao s).den_pos;omega
 unfold jV Xa;rw[wd a,wd a];unfold EN at a;rw[zf,zf,w5,w5,w5]at a;obtain⟨⟨_,l1⟩,d⟩:=a;have j:=Bn g;have i:=Bn f;have k:(10:Int)^(AJ<|A9 s).length<=10^9:=AT af l1;have l:(10:Int)^(A1<|A9 s).length<=10^9:=AT af d;refine⟨b.symm,c.symm,?_,?_,e,?_⟩
 ·rw[b];unfold Jf;split<;>omega
 ·rw[b];unfold Jf;split<;>omega
 ·rw[c];unfold Uu;split<;>omega
theorem eK{a b:Rd}(c:AU a=true)(f:AU b=true):B0 a b=CT (Bo a*AZ b+AZ a*Bo b) (AZ a*AZ b)/\B0 a b=CT (Bo a*AZ b+Bo b*AZ a) (AZ a*AZ b):=by
 have g:AZ a≠0:=by
  have:=(Ea c).2.2.2.2.2.1;have:=(Ao a).den_pos;omega
 have d:AZ b≠0:=by
  have:=(Ea f).2.2.2.2.2.1;have:=(Ao b).den_pos;omega
 have e:B0 a b=CT (Bo a*AZ b+Bo b*AZ a) (AZ a*AZ b):=by
  unfold B0 CT Ao;rw[Rat.divInt_add_divInt _ _ g d]
 exact⟨by rw[e,Int.mul_comm (AZ a)<|Bo b],e⟩
theorem iN{a b:Rd}:DR a b=CT (Bo a*Bo b) (AZ a*AZ b):=by
 unfold DR CT Ao;rw[Rat.divInt_mul_divInt]
theorem eT{a:Rd}:Vy a=CT (AZ a) (Bo a):=by
 unfold Vy CT Ao;rw[Rat.inv_divInt]
theorem VQ:∀(f n l:Nat) (a:Rd),(Iz f n l a).length<=a.length+f
 |0,_,_,a=>ym _
 |f+1,n,l,a=>by
  unfold Iz;split
  ·omega
  ·have:=VQ f (n/10) l (yq (48+n % 10)::a);grind
theorem Wb(n l:Int):(JD n l).length<=64:=by
 have:=VQ 64 n.toNat l.toNat [];exact this
theorem Xy{v:Int}{k:Nat}(h:v<(B9:Int)^k)(a:1<=k):(zk v.toNat).length<=9*k:=by
 rw[Yf]at h;refine Ed (k:=9*k) ?_ ae;grind
end Go.Sp
namespace Go.Pe
open Sp
open Go.Det
theorem AeK{s:Sh}(b:s.sz=1){id n:Nat}{tail:Ob}{fz:Bool}{t:TypeId}{o:List s.T}(c:n=o.length):Ft ⟨0,.leaf,(id,.arr fz t s o)::tail,0⟩ (.list s) (.sl id 1 0 n none)=some (true,o):=by
 have a:AR ((id,Obj.arr fz t s o)::tail) id=some (.arr fz t s o):=by grind [AR,qy]
 unfold Ft;simp_all [Dn,PV.cells,B4,AQ.obj,OJ,Sh.OP,DM,CO,xN,EZ]
theorem AbE{s:Sh}(a:s.sz=1){id n:Nat}{tail:Ob}{fz:Bool}{t:TypeId}{o:List s.T}(b:n=o.length):KZ [.list s] (.sl id 1 0 n none) ((id,.arr fz t s o)::tail)=some (true,o):=AeK a b
theorem Pf(a:List Int)(i:Nat):I0 a (i:Int)=a.getD i 0:=by rfl
theorem Ab3[Srt]:Cv XR0:=fun g sp h=>by cases h
theorem T192.ok[Srt]:Af AY 192 X5:=by
 refine BA Ab3<|fun(i:List Int×Int) hi=>?_;obtain⟨a,i⟩:=i;have h0:0<=i:=w6 hi;have b:∀v ob,v=I0 a i->Ac X5 (a,i) (.dat i64 v) ob:=fun v ob h=>zu rfl rfl h
 refine zp (T192.Aj a i) (zg (fun c=>zd ah<|ze<|b _ _ rfl)<|fun c=>ze<|b _ _ ?_);grind [I0]
theorem aZ[Srt]:Cv XS:=Aa T192.ok<|Aa T190.ok AB
theorem SK{x y c:Int}(d:0<=x/\x<1000000000)(b:0<=y/\y<1000000000)(a:0<=c/\c<=1):
  zc .i64 (zc .i64 (x+y)+c)=x+y+c/\z8 (x+y+c) 1000000000=(x+y+c) % 1000000000/\zc .i64 (ye (x+y+c) 1000000000)=(x+y+c)/1000000000:=by
 grind [wr]
theorem nB{a b:List Int}(h:vH a b=true):Bb a=true/\Bb b=true/\a.length<=9000/\b.length<=9000:=by
 simp_all [vH]
theorem YQ{a b:List Int}(c:Bb a=true)(e:Bb b=true)(f:a.length<=9000)(d:b.length<=9000):vH a b=true:=by
 grind [vH]
namespace T150
theorem done[Srt](a b o:List Int)(i:Nat)(c:a.length<=i)(e:b.length<=i)(d:Q (.sl 0 1 0 o.length none) [(0,.arr false 3 (.int .i64) o)]):Ends XS (L2 a b o.length 0 i o) Q:=
 (by simp_all [zj,Az,w8])
set_option maxHeartbeats 1000000 in
theorem A5[Srt](a b:List Int)(f:Bb a=true)(e:Bb b=true)(v:a.length<=9000)(q:b.length<=9000)(t:Q (.sl 0 1 0 (Iu a b).length none) [(0,.arr false 3 (.int .i64)<|Iu a b)]):∀(k i:Nat) (o:List Int) (c:Int),i+k=max a.length b.length->GC a b i o c->Ends XS (L2 a b o.length c i o) Q:=by
 have g:∀(i:Nat) (o:List Int),a.length<=i->b.length<=i->GC a b i o 0->Ends XS (L2 a b o.length 0 i o) Q:=fun i o m j h=>by
  have:=h.fin m j;grind [done]
 have next:∀(i:Nat) (o:List Int) (c:Int),i<=9000->GC a b i o c->(i<a.length\/i<b.length\/0<c->Ends XS (L2 a b (o++[(a.getD i 0+b.getD i 0+c) % 1000000000]).length ((a.getD i 0+b.getD i 0+c)/1000000000) ((i+1:Nat):Int)<|o++[(a.getD i 0+b.getD i 0+c) % 1000000000]) Q)->Ends XS (L2 a b o.length c i o) Q:=fun i o c l h go=>by
  obtain⟨s1,s2,s3⟩:=SK (BK f i) (BK e i) h.c01;have y:zc .i64 ((i:Int)+1)=((i+1:Nat):Int):=by grind [wr]
  have s:=h.len;have cap:(decide ((1:Nat)<=(1:Nat))&&true&&decide (o.length=o.length)&&decide ((3*(o.length+1)+2000)*8<=562949953421312))=true:=by
   grind
  have h0:decide ((0:Int)<=(i:Int))=true:=(by rfl);rw[z7]at go;by_cases r:(i:Int)<(a.length:Int)
  ·refine zj (Az ..) ?_;conv=>zeta
   simp_all [Pf]
  ·by_cases x:(i:Int)<(b.length:Int)
   ·refine zj (Az ..) ?_;conv=>zeta
    simp_all [Pf]
   ·by_cases u:c>0
    ·refine zj (Az ..) ?_;conv=>zeta
     simp_all [Pf]
    ·obtain rfl:c=0:=by have:=h.c01;omega
     grind
 intro k;induction k with
 |zero=>
  intro i o c l h;refine next i o c ae h (fun d=>?_);have j:=h.step f e d;have w:a.getD i 0=0:=ah
  have z2:b.getD i 0=0:=ah
  have p:=h.c01;have z3:(a.getD i 0+b.getD i 0+c)/1000000000=0:=ae
  grind
 |succ k n=>
  intro i o c l h;exact next i o c ae h (fun d=>n (i+1) _ _ ae<|h.step f e d)
set_option maxHeartbeats 1000000 in
theorem ok[Srt]:Af AY 150 Zy:=by
 refine BA aZ<|fun(i:List Int×List Int) hi=>?_;obtain⟨a,b⟩:=i;obtain⟨ha,hb,la,lb⟩:=nB hi;obtain⟨s1,s2,s3⟩:=SK (BK ha 0) (BK hb 0) (c:=0) af;have h0:=GC.start a b;have go:(0<a.length\/0<b.length)->Ends XS (L2 a b 1 ((a.getD 0 0+b.getD 0 0+0)/1000000000) ((1:Nat):Int) [(a.getD 0 0+b.getD 0 0+0) % 1000000000]) (Ac Zy (a,b)):=fun g=>
  A5 a b ha hb la lb (zu (AbE rfl rfl) rfl rfl) (max a.length b.length-1) 1 _ _ ae (h0.step ha hb ae)
 refine zp (Aj a b)<|zj (Ak ..) ?_;have h:I0 a 0=a.getD 0 0:=rfl;have f:I0 b 0=b.getD 0 0:=rfl;have j:zc .i64 ((0:Int)+1)=((1:Nat):Int):=rfl;refine zg (fun c=>?_)<|fun d=>zg (fun c=>?_)<|fun e=>zm rfl (ze<|zu (y:=[]) rfl rfl ?_)
 ·exact zd rfl (zd rfl (zd rfl (zd rfl (zd rfl ah))))
 ·exact zd rfl (zd rfl (zd rfl (zd rfl (zd rfl ah))))
 ·have d:=w7 d;have e:=w7 e;exact h0.fin ae ae
end T150
namespace T152
theorem HK{x y c:Int}(d:0<=x/\x<1000000000)(b:0<=y/\y<1000000000)(a:0<=c/\c<=1):
  zc .i64 (zc .i64 (x-y)-c)=x-y-c/\zc .i64 (x-y-c+1000000000)=x-y-c+1000000000:=by
 grind [wr]
set_option maxHeartbeats 1000000 in
theorem A5[Srt](a b:List Int)(g:Bb a=true)(f:Bb b=true)(m:a.length<=9000)(e:Aq b<=Aq a)(l:∀ob,Q (.dat li<|Jx a b) ob):∀(k i:Nat) (o:List Int) (c:Int),i+k=a.length->Hn a b i o c->Ends XS (L2 a b o.length c i o) Q
 |0,i,o,c,j,h=>by
  have j:i=a.length:=ae
  subst j;have n:=h.len;refine zj (Az ..) (zm (by simp) ?_);rw[zy ae];refine zd ah<|ze ?_;rw[h.fin f e];grind
 |k+1,i,o,c,j,h=>by
  obtain⟨s1,s2⟩:=HK (BK g i) (BK f i) h.c01;have p:zc .i64 ((i:Int)+1)=((i+1:Nat):Int):=by grind [wr]
  have n:=h.len;have cap:(decide ((1:Nat)<=(1:Nat))&&true&&decide (o.length=o.length)&&decide ((3*(o.length+1)+2000)*8<=562949953421312))=true:=by
   grind
  refine zj (Az ..) ?_;conv=>zeta
  rw[Pf,zh,s1,s2,p];refine zd ah (zd ah<|zd (by rfl)<|zg (fun d=>zd cap ?_)<|fun d=>zd cap ?_)
  ·have:=A5 a b g f m e l k (i+1) _ _ ae (h.step g f _ 1 (.inl ⟨ah,rfl,rfl⟩));grind
  ·have:=A5 a b g f m e l k (i+1) _ _ ae (h.step g f _ 0 (.inr ⟨ah,rfl,rfl⟩));grind
set_option maxHeartbeats 1000000 in
theorem ok[Srt]:Af AY 152 Zp:=by
 refine BA aZ<|fun(i:List Int×List Int) e=>?_;obtain⟨a,b⟩:=i;have e:(vH a b&&decide (Aq b<=Aq a))=true:=e;rw[zf,w5]at e;obtain⟨e,hle⟩:=e;obtain⟨ha,hb,la,lb⟩:=nB e;have h0:=Hn.start a b;have f:∀ob,Ac Zp (a,b) (.dat li<|Jx a b) ob:=fun ob=>zu rfl rfl rfl
 refine zp (Aj a b)<|zj (Ak ..) ?_;obtain⟨s1,s2⟩:=HK (BK ha 0) (BK hb 0) (c:=0) af;have g:I0 b 0=b.getD 0 0:=rfl;refine zg (fun c=>?_)<|fun c=>?_
 ·have h:=w6 c;refine zd (Ab rfl c)<|zd rfl (zg (fun d=>zd rfl ?_)<|fun d=>zd rfl ?_)
  ·exact A5 a b ha hb la hle f (a.length-1) 1 _ _ ae (h0.step ha hb _ 1 ah)
  ·exact A5 a b ha hb la hle f (a.length-1) 1 _ _ ae (h0.step ha hb _ 0 ah)
 ·refine zd rfl (ze ?_);grind [Hn.fin]
end T152
theorem Pb[Srt]:Cv XR2:=Aa T149.ok (by grind [Aa,T150.ok,T151.ok,T152.ok,T153.ok,T147.ok,Md])
theorem IC{n:Int}{k:Nat}(h0:0<=n)(h:n<(yr:Int)^k):(BW n).length<=k:=O8 h0 h
theorem Kw{a:Bool×List Int}(h:CG a=true):0<=Aq a.2/\Aq a.2<(yr:Int)^3000:=by
 obtain⟨c,d,_⟩:=Dp h;refine⟨(E2 h).2,yj (Bz (b:=yr) af (BB c).2.1)<|AT af d⟩
theorem X1{x y:Int}{k:Nat}(a:x<(yr:Int)^k)(b:y<(yr:Int)^k):x+y<(yr:Int)^(k+1):=by
 grind
theorem T84.ok[Srt]:Af AY 84 pO:=by
 refine BA Pb<|fun(i:(Bool×List Int)×(Bool×List Int)) f=>?_;obtain⟨a,b⟩:=i;have f:(CG a&&CG b)=true:=f;rw[zf]at f;obtain⟨ha,hb⟩:=f;obtain⟨a1,a2,_⟩:=Dp ha;obtain⟨b1,b2,_⟩:=Dp hb;obtain⟨va,wa⟩:=Kw ha;obtain⟨vb,wb⟩:=Kw hb;have pl:=YQ a1 b1 ae ae;have h:=YQ b1 a1 ae ae;refine zp (T84.Aj a b)<|zg (fun c=>?_)<|fun c=>zd (Ab a1 b1)<|zg (fun d=>?_)<|fun d=>?_
 ·have g:(Iu a.2 b.2).length<=3001:=IC ae ah;exact zd pl (zd ah<|ze<|zu rfl rfl (fF ha hb ah))
 ·have e:Aq b.2<=Aq a.2:=by
   grind [CC]
  have g:(Jx a.2 b.2).length<=3000:=IC ae ae;exact zd ah (zd ah<|ze<|zu rfl rfl (aU hb ah e))
 ·have e:Aq a.2<=Aq b.2:=by
   grind [CC]
  have g:(Jx b.2 a.2).length<=3000:=IC ae ae;exact zd ah (zd ah<|ze (zu rfl rfl (Abe ha ah e)))
theorem T85.ok[Srt]:Af AY 85 cK:=by
 refine BA Pb<|fun(i:(Bool×List Int)×(Bool×List Int)) c=>?_;obtain⟨a,b⟩:=i;have c:(CG a&&CG b)=true:=c;rw[zf]at c;obtain⟨ha,hb⟩:=c;obtain⟨a1,a2,_⟩:=Dp ha;obtain⟨b1,b2,_⟩:=Dp hb;obtain⟨va,wa⟩:=Kw ha;obtain⟨vb,wb⟩:=Kw hb;have d:Aq a.2*Aq b.2<(yr:Int)^(3000+3000):=by
  rw[Int.pow_add];have hp:(0:Int)<(yr:Int)^3000:=ae;exact Int.lt_of_le_of_lt (yd ae va)<|Int.mul_lt_mul_of_pos_right wa hp
 have e:=IC (ql va vb) d;exact zp (T85.Aj a b) (zd (by grind [cX,BB])<|zd ah<|ze<|zu rfl rfl (rQ ha hb))
theorem T146.ok[Srt]:Af AY 146 bG:=by
 refine BA Pb<|fun(a:Bool×List Int) ha=>?_;have:=(Dp ha).2.1;exact zp (T146.Aj a) (zd ah<|ze<|zu rfl rfl (vP ha))
theorem T182.ok[Srt]:Af AY 182 dM:=by
 refine BA Pb<|fun(i:(Bool×List Int)×(Bool×List Int)) e=>?_;obtain⟨a,b⟩:=i;have e:(CG a&&CG b&&decide (0<qh b))=true:=e;rw[zf,zf,w5]at e;obtain⟨⟨ha,hb⟩,h0⟩:=e;obtain⟨a1,a2,_⟩:=Dp ha;obtain⟨b1,b2,_⟩:=Dp hb;obtain⟨va,wa⟩:=Kw ha;have l:=(Np hb h0).2;have hp:0<Aq b.2:=ae
 have q0:=qg va<|yi hp;have q1:Aq a.2/Aq b.2<(yr:Int)^3000:=Int.lt_of_le_of_lt (Int.ediv_le_self _ va) wa;have h:=Int.emod_nonneg (Aq a.2) (show Aq b.2≠0 by omega);have k:=IC q0 q1;have g:=(Gs q0 q1 af).1;have j:(BW<|Aq a.2 % Aq b.2).length=0↔Aq a.2 % Aq b.2=0:=by
  rw[yc];exact sR (b:=yr) af h
 refine zp (T182.Aj a b) (zd ah<|zg (fun c=>zg (fun d=>?_)<|fun d=>?_)<|fun c=>?_)
 ·have d:=w6 d;have hr:Aq a.2 % Aq b.2≠0:=ae;have f:(Iu (BW<|Aq a.2/Aq b.2) [1]).length<=3001:=by
   refine IC ?_ ?_
   ·rw[(EM q0).1];show 0<=_+(1:Int);omega
   ·rw[(EM q0).1];exact X1 q1 (yj (show(1:Int)<(yr:Int)^1 by decide) ah)
  exact zd (YQ g rfl ae af) (zd ah<|ze<|zu rfl rfl (YT ha hb h0 c hr))
 ·have d:=w7 d;exact zd ah (ze<|zu rfl rfl (Qo ha hb h0 ae))
 ·exact zd ah<|ze<|zu rfl rfl (Qo ha hb h0<|.inl c)
theorem AaQ[Srt]:Cv XR3:=Aa T145.ok AB
namespace T148
theorem Au[Srt](neg:Bool)(w:List Int)(d:Bb w=true)(f:w.length<=3000)(a:∀ob,Q (.dat .str (if neg=true then 45::zk (Aq w).toNat else zk (Aq w).toNat)) ob):∀(i:Nat),i<=w.length->0<Sp.val yr (w.drop i)->Ends XR3 (L1 (zk (Sp.val yr<|w.drop i).toNat) ((i:Int)-1) neg w) Q:=by
 have e:∀i,(zk (Sp.val yr<|w.drop i).toNat).length<=27000:=fun i=>by
  have j:=Bz (b:=yr) af<|E0 (BB d).2.1 i;have m:(yr:Int)^(w.drop i).length<=(yr:Int)^3000:=AT af ah;exact Xy (k:=3000) ae af
 intro i;induction i with
 |zero=>
  intro _ _;refine zj (Ak ..) (zm af<|zg (fun c=>zd ah<|ze ?_)<|fun c=>ze ?_)
  ·rw[wd c]at a;exact a _
  ·rw[wc ah]at a;exact a _
 |succ i l=>
  intro n h0;have g:=BK d i;have h:(((i+1:Nat):Int)-1)=(i:Int):=ae
  obtain⟨s1,s2⟩:=iG d i h0;rw[h];refine zj (Ak ..) ?_;conv=>zeta
  rw[zh,s1,wr ((i:Int)-1) ae ae];exact zd (by rfl) (zd ah<|zd ah<|by grind [zd])
theorem ok[Srt]:Af AY 148 PF:=by
 refine BA AaQ<|fun(a:Bool×List Int) ha=>?_;obtain⟨a1,a2,_⟩:=Dp ha;refine zp (Aj a)<|zg (fun c=>ze<|zu rfl rfl (lI ?_))<|fun c=>?_
 ·simp_all
 ·have c:(a.2.length:Int)≠0:=ah
  obtain⟨i,d⟩:∃i,a.2.length=i+1:=⟨a.2.length-1,by omega⟩;have g:=BK a1 i;obtain⟨s1,s2⟩:=Yq a1 d;have e:zc .i64 ((a.2.length:Int)-1)=(i:Int):=by grind [wr]
  have b:zc .i64 ((a.2.length:Int)-2)=(i:Int)-1:=by grind [wr]
  rw[e,b,zh,s1];refine zd ah (zd ah<|Au a.1 a.2 a1 a2 (fun ob=>zu rfl rfl ?_) i ae s2);exact wI ha ah
end T148
end Go.Pe
namespace Go.Sp
theorem vG{a k m:Nat}(h:a<10^k)(b:k<=m):a<10^m:=(by grind [Nat.lt_of_lt_of_le,yt])
theorem wB{a b k:Nat}(c:a<10^k)(d:b<10^k):a+b<10^(k+1):=ae
theorem Nz{n:Int}{k:Nat}(h:n.natAbs<10^k)(a:k<=27000):CG (rN n,rW n)=true:=(by grind [TZ,vG])
theorem Hy{m n:Int}(h:CG (rN n,rW n)=true)(a:m.natAbs<=n.natAbs):CG (rN m,rW m)=true:=by
 grind [AeU,IP,TZ]
theorem O6{n:Int}(h:Cn n=true):CG (rN n,rW n)=true:=by
 have h:=Go.Pe.Fa h;exact Nz (k:=20) ae af
theorem V0{n:Int}(h:CG (rN n,rW n)=true):Bb (rW n)=true/\(rW n).length<=3000/\Ai n<(B9:Int)^3000:=by
 obtain⟨a,b,_⟩:=Dp h;have:=(Go.Pe.Kw h).2;grind [N5]
theorem XH{n:Int}(h:CG (rN n,rW n)=true):(AX n).length<=27001:=by
 have a:=(V0 h).2.2;have b:=Xy a af;grind [Al,AX,y7]
theorem MJ(n:Int):F8 (rN n,rW n)=AX n:=by unfold F8;rw[IP]
theorem YK{N D:Int}(e:0<D):ye N (gI (Ai N) D)=(zl N D).num/\ye D (gI (Ai N) D)=((zl N D).den:Int):=by
 have a:D.sign=1:=ah;have d:gI (Ai N) D=(yp N D:Int):=by rw[GJ,Al];rfl
 have c:(yp N D:Int)∣N:=Int.gcd_dvd_left ..;have b:(yp N D:Int)∣D:=Int.gcd_dvd_right ..;rw[d,qc c,qc b];refine⟨?_,(Lo (N:=N) e).2.2.1▸?_⟩
 ·rw[Rat.num_divInt,a,qi,qw]
 grind
theorem Tu(x y:Int):Ir (rN x,rW x) (rN y,rW y)=rN (x*y):=by grind [Ir,IP]
theorem Tq(x y:Int):Ie (rN x,rW x) (rN y,rW y)=rW (x*y):=by grind [Ie,IP]
theorem wJ(x y:Int):Ow (rN x,rW x) (rN y,rW y)=rN (x+y):=by grind [Ow,IP]
theorem kQ(x y:Int):N8 (rN x,rW x) (rN y,rW y)=rW (x+y):=by grind [N8,IP]
theorem PX(x y:Int):JU (rN x,rW x) (rN y,rW y)=CT x y:=by grind [JU,IP]
theorem Wo{a b:Nat}(h:a<=b):(zk a).length<=(zk b).length:=by
 have c:=Lib.lt_pow_nDigits b;have d:1<=(zk b).length:=(by grind [TE]);rw[<-Lib.decDigits_length]at c;exact Ed ae d
theorem neg_num(x:Rat):(x.num<0↔x<0)/\(x.num>0↔0<x):=by
 simp_all [Rat.lt_iff]
theorem mS(p q:Rat):Oy (p-q).num=if p<q then -1 else if q<p then 1 else 0:=by
 grind [neg_num,Oy]
end Go.Sp
namespace Go.Pe
open Sp
open Go.Det
theorem wT[Srt]:Cv wQ:=Aa T146.ok (by grind [Aa,T141.ok,T147.ok,T149.ok,T148.ok,Md])
namespace T83
theorem Dr[Srt](n d:Int)(c:CG (zt n,zq n)=true)(a:CG (zt d,zq d)=true)(b:0<=d)(f:∀ob,Q (.dat .str (AX n++47::AX d)) ob):Ends wQ (L3 (BW d)<|AX n) Q:=by
 have l1:=XH c;have g:=XH a;have e:zq d=BW d:=by grind [zq,Al]
 have h:=(V0 a).2.1;obtain⟨i,j⟩:=EM b;have hp:(CQ false<|BW d,AD<|BW d)=(zt d,zq d):=(by grind [Lf]);refine zj (Be ..) ?_;conv=>zeta
 grind [MJ,zd,ze]
theorem A5[Srt](n d:Int)(i:CG (zt n,zq n)=true)(f:CG (zt d,zq d)=true)(k:0<d)(b:d=1->∀ob,Q (.dat .str<|AX n) ob)(g:d≠1->∀ob,Q (.dat .str (AX n++47::AX d)) ob):Ends wQ (L2 (BW d)<|AX n) Q:=by
 have j:=zK (n:=d) ae;by_cases h:d=1
 ·simp_all [zj,Az]
 ·have a:=Dr n d i f ae<|g h;refine zj (Az ..)<|zg (fun c=>zd ?_<|zg (fun e=>?_)<|fun _=>a)<|fun _=>a
  ·grind
  ·cases l:BW d with
   |nil=>grind
   |cons x r=>
    grind
theorem Au[Srt](N D:Int)(b:CG (zt N,zq N)=true)(c:CG (zt D,zq D)=true)(h0:0<D)(u:∀ob,Q (.dat .str<|CT N D) ob):Ends wQ (L1 (zt D) (zq D) (zt N)<|zq N) Q:=by
 obtain⟨n1,r,s⟩:=V0 b;obtain⟨d1,d2,d3⟩:=V0 c;obtain⟨g0,f1,f2,f3⟩:=Lo (N:=N) h0;have e:Ai D=D:=by grind [Al]
 have d:CI (zq N) (zq D)=BW (qv (Ai N) D):=by
  grind [CI,N5]
 have v:qv (Ai N) D<=D:=by
  have j:qv (Ai N) D=(yp N D:Int):=by rw[GJ,Al];rfl
  rw[j];exact Int.le_of_dvd h0<|Int.gcd_dvd_right ..
 have fn:=pZ h0 (neg:=zt N) rfl;have f:(zl N D).num.natAbs<=N.natAbs:=(by grind [Gt]);have o:(zl N D).den<=D.natAbs:=(by grind [Gt]);have Ck:=Hy (m:=(zl N D).num) b f;have a:=Hy (m:=((zl N D).den:Int)) c ae;have i:Ai (zl N D).num<(yr:Int)^3000:=(V0 Ck).2.2;have t:=Tl (N:=N) (D:=D);have p:=(zl N D).den_pos;have a0:=Pz (zl N D).num;refine zj (Ak ..) ?_;conv=>zeta
 rw[d,N5,N5,e];generalize qv (Ai N) D=g at*;have l:=Gs (n:=g) (k:=3000) ae ae af;rw[l.2.2.1,fn,f1,f2,MJ];have q:=IC a0 i;refine zd ah (zd ah (zd ah<|zd ah<|zd Ck<|A5 _ _ Ck a ae (fun h ob=>?_)<|fun h ob=>?_))
 ·grind
 grind
theorem ok[Srt]:Af AY 83 RP:=by
 refine BA wT<|fun(i:(Bool×List Int)×(Bool×List Int)) f=>?_;obtain⟨a,b⟩:=i;have f:(CG a&&CG b&&decide (qh b≠0))=true:=f;rw[zf,zf,w5]at f;obtain⟨⟨ha,hb⟩,h0⟩:=f;have j:=Acl ha;have h:=Acl hb;have k:∀ob,Ac RP (a,b) (.dat .str<|CT (qh a)<|qh b) ob:=fun ob=>zu rfl rfl rfl
 have d:=ha;have e:=hb;rw[j]at d;rw[h]at e;refine zp (Aj a b)<|zg (fun c=>zd ha<|zd hb ?_)<|fun c=>?_
 ·have g:qh b<0:=by
   have:=kY hb;rw[c]at this;exact w6 this.symm
  have:=Au (Q:=Ac RP (a,b)) (-qh a) (-qh b) (Hy d ae) (Hy e ae) ae (by grind [VL]);exact this
 grind [Au,zt]
end T83
theorem AbP[Srt]:Cv jO:=Aa T143.ok (by grind [Aa,T83.ok,T144.ok,T145.ok,Md])
namespace T81
theorem VZ{n:Int}(a: -9000000000000000000<=n)(b:n<=9000000000000000000):imax n (zc .i64<|0-n)=Ai n:=by
 grind [wr,imax,Ai]
theorem Cc[Srt](n d:Int)(v:Rd)(h:v=AX n)(f:v.length<=27001)(b:0<d)(j:d<9000000000000000000)(a:d=1->∀ob,Q (.dat .str<|AX n) ob)(g:d≠1->∀ob,Q (.dat .str (AX n++47::AX d)) ob):Ends jO (L4 d v) Q:=by
 have i:=Wb d 1;have e:JD d 1=AX d:=by
  rw[P2 ae ae];unfold AX y7;grind
 refine zj (B1 ..) (zg (fun c=>zd ah<|zd ah<|zd ah<|ze ?_)<|fun c=>ze ?_)
 ·grind
 grind
theorem Dr[Srt](n d:Int)(n1: -9000000000000000000<n)(j:n<9000000000000000000)(f:0<d)(h:d<9000000000000000000)(a:d=1->∀ob,Q (.dat .str<|AX n) ob)(g:d≠1->∀ob,Q (.dat .str (AX n++47::AX d)) ob):Ends jO (L3 n d) Q:=by
 have k:=Wb (Ai n) 1;have i:=Al n;have e:JD (Ai n) 1=zk n.natAbs:=by
  grind [P2]
 have b:=iP n;refine zj (Be ..) ?_;conv=>zeta
 rw[VZ ae ae];have hr:(decide (0<=Ai n)&&decide (Ai n<9223372036854775808)&&decide ((0:Int)<=1)&&decide ((1:Int)<=20))=true:=Ab (Ab (by grind [Ab]) rfl) rfl;refine zg (fun c=>zd hr<|zd ah<|Cc n d _ ?_ ?_ f h a g) (fun c=>zd hr (zd ah<|Cc n d _ ?_ ?_ f h a g))
 ·have c:=w6 c;rw[wd c]at b;rw[e];exact b.symm
 ·grind
 ·have c:=w7 c;rw[wc c]at b;rw[e];exact b.symm
 grind
theorem A5[Srt](n d:Int)(n1: -9000000000000000000<n)(j:n<9000000000000000000)(b:0<d)(k:d<9000000000000000000)(g:∀ob,Q (.dat .str<|CT n d) ob):Ends jO (L2 n d) Q:=by
 obtain⟨q1,c⟩:=YK (N:=n) b;obtain⟨l1,l2⟩:=Gt (n:=n) (d:=d) ae;have f:=Al n;have i:=(zl n d).den_pos;have e:=Tl (N:=n) (D:=d);refine zj (Az ..) ?_;conv=>zeta
 rw[VZ ae ae,q1,c,wr _ ae ae,wr _ ae ae];have a:decide (qv (Ai n) d≠0)=true:=ah;refine zd (Ab (by grind [Ab]) ah) (zd a<|zd a<|Dr _ _ ae ae ae ae (fun h ob=>?_)<|fun h ob=>?_)
 ·grind
 grind
theorem ok[Srt]:Af AY 81 dJ:=by
 refine BA AbP<|fun(i:Int×Int) b=>?_;obtain⟨n,d⟩:=i;have b:(Cn n&&Cn d&&decide (d≠0))=true:=b;have f:∀ob,Ac dJ (n,d) (.dat .str<|CT n d) ob:=fun ob=>zu rfl rfl rfl
 have a:(CG (zt n,zq n)&&CG (zt d,zq d)&&decide (qh (zt d,zq d)≠0))=true:=(by grind [O6,IP]);refine zp (Aj n d) ?_;conv=>zeta
 rw[PX];refine zg (by simp_all) (fun j=>zg (by simp_all) (fun h=>zg (by simp_all)<|fun e=>zg (by simp_all)<|fun g=>?_));refine zj (Ak ..)<|zg (fun c=>?_)<|fun c=>?_
 ·grind [wr,A5,VL]
 grind [A5]
end T81
namespace T80
theorem no3[Srt]{Q:PV->Ob->Prop}(s:Rd)(neg:Bool)(b:s.length<=20)(h:9<(AJ s).length\/9<(yg s).length)(a:∀ob,Q (.tup [.dat i64 0,.dat i64 0,.bl false]) ob):Ends Pc (L3 s neg) Q/\Ends Pc (L4 s) Q:=by
 obtain⟨i,g,d⟩:=BX s;have es:A3 s=((AJ s).length:Int):=rfl;have e:9<(yg s).length->(s.length:Int)-(AJ s).length>10:=fun h=>by
  cases f:BR s with
  |true=>
   grind
  |false=>grind
 refine⟨zj (Be ..) (zd ah<|zg (fun _=>ze<|a _)<|fun c=>?_),zj (B1 ..)<|zd ah<|zg (fun _=>ze<|a _)<|fun c=>?_⟩
 ·grind [zd,ze,wr]
 grind [zd,ze,wr]
theorem okG[Srt]:Af AY 80 O2:=by
 refine BA AaH<|fun(a:Rd) ha=>?_;obtain⟨_,_,k,db⟩:=Rh ha;by_cases b:EN a=true
 ·have g:∀n ob,n=Jf a->Ac O2 a (.tup [.dat i64 n,.dat i64<|if BR (A9 a)=true then AI 0 (yg<|A9 a)else 1,.bl true]) ob:=fun n ob h=>zu rfl rfl (by
   show(n,_,true)=(jV a,Xa a,EN a);unfold jV Xa;rw[wd b,wd b,b,h];rfl)
  unfold EN at b;rw[zf,zf,w5,w5,w5]at b;obtain⟨⟨e,o⟩,j⟩:=b;refine zp (Aj a) (zm ah ?_);cases a with
  |nil=>exact zm rfl (zj (Az ..)<|Cc [] e o j k db<|fun n ob h=>g n ob<|by rw[h];rfl)
  |cons c r=>
   have i:(c::r).getD 0 0=c:=rfl;rw[i];refine zd (by simp) (zd (by simp) (zj (Ak ..)<|zg (fun d=>zd (by simp) ?_)<|fun d=>?_))
   ·have f:c=45:=by
     exact yv.1 ah
    have m:A9 (c::r)=r:=by simp_all [A9]
    have p:Sp.preB (c::r)=true:=by grind [Sp.preB]
    grind [Jf,Dr]
   ·have f:c≠45:=by rintro rfl;grind
    simp_all [A9,Sp.preB,Jf,Dr]
 ·have g:∀ob,Ac O2 a (.tup [.dat i64 0,.dat i64 0,.bl false]) ob:=fun ob=>zu rfl rfl (by
   show((0:Int),(0:Int),false)=(jV a,Xa a,EN a);simp_all [jV,Xa])
  refine zp (Aj a) (zg (by simp_all)<|fun e=>?_);have e:a.length<=20:=ah
  have l:9<(AJ<|A9 a).length\/9<(yg<|A9 a).length:=by
   grind [EN]
  cases a with
  |nil=>exact zm rfl (zj (Az ..) (no3 [] false e l g).2)
  |cons c r=>
   have i:(c::r).getD 0 0=c:=rfl;rw[i];refine zd (by simp) (zd (by simp)<|zj (Ak ..)<|zg (fun d=>zd (by simp) ?_)<|fun d=>?_)
   ·have f:c=45:=by
     exact yv.1 ah
    have m:A9 (c::r)=r:=by simp_all [A9]
    grind [no3]
   ·have f:c≠45:=by rintro rfl;grind
    simp_all [A9,no3]
end T80
theorem Vp[Srt]:Cv XR6:=Aa T80.okG (by grind [Aa,T81.ok,T82.ok,T84.ok,T85.ok,T83.ok,Md])
theorem Wu{x y:Int}(a: -1000000000<x)(c:x<1000000000)(d: -1000000000<y)(b:y<1000000000): -1000000000000000000<=x*y/\x*y<=1000000000000000000:=by
 have h:(x*y).natAbs<=1000000000*1000000000:=by
  rw[qm];exact Nat.mul_le_mul ae ae
 omega
theorem T30.ok[Srt]:Af AY 30 IS:=by
 refine BA Vp<|fun(i:Rd×Rd) c=>?_;obtain⟨a,b⟩:=i;have c:(AU a&&AU b)=true:=c;rw[zf]at c;obtain⟨ha,hb⟩:=c;obtain⟨a1,a2,a3,a4,a5,a6,a7,a8,a9⟩:=Ea ha;obtain⟨b1,b2,b3,b4,b5,b6,b7,b8,b9⟩:=Ea hb;have ad:=(Ao a).den_pos;have J:=(Ao b).den_pos;have eq:=(eK ha hb).2;have v:∀ob,Ac IS (a,b) (.dat .str<|CT (Bo a*AZ b+Bo b*AZ a)<|AZ a*AZ b) ob:=fun ob=>zu rfl rfl eq.symm
 have g:Ends XR6 (T30.L1 a b) (Ac IS (a,b)):=by
  have C:BZ a=zt (Bo a):=rfl;have l:BQ a=zq (Bo a):=rfl;have j:Bv a=zt (AZ a):=rfl;have B:Bp a=zq (AZ a):=rfl;have n:BZ b=zt (Bo b):=rfl;have y:BQ b=zq (Bo b):=rfl;have s:Bv b=zt (AZ b):=rfl;have t:Bp b=zq (AZ b):=rfl;refine zj (T30.Ak ..) ?_;conv=>zeta
  simp only[C,l,j,B,n,y,s,t,Tu,Tq,wJ,kQ,PX,IP];have d:=D5 a8 b9;have e:=D5 b8 a9;have f:=D5 a9 b9;rw[<-qm]at d e f;have u:=Nat.lt_of_le_of_lt (Int.natAbs_add_le (Bo a*AZ b)<|Bo b*AZ a)<|wB (k:=4000+4000) d e;have x:=Nz d af;have z:=Nz e af;have r:=Nz f af;have m:=Nz u af;have A:AZ a*AZ b≠0:=(by grind [yw]);exact zd a7<|zd b7<|zd (Ab a1 b3)<|zd (Ab b1 a3)<|zd (Ab x z)<|zd (Ab a3 b3)<|zd (Ab (Ab m r)<|w4 A)<|ze<|v _
 refine zp (T30.Aj a b) (zd ha<|zd hb<|zg (fun w=>zg (fun o=>?_) ah) ah);obtain⟨E,F,q,p,I,h⟩:=Ha ha w;obtain⟨y1,y2,y3,y4,y5,y6⟩:=Ha hb o;have H:=Wu q p ae y6;have G:=Wu y3 y4 ae h;have D:=Wu ae h ae y6;grind [yw,wr,zd,Fo,ze]
theorem T74.ok[Srt]:Af AY 74 MW:=by
 refine BA Vp<|fun(i:Rd×Rd) c=>?_;obtain⟨a,b⟩:=i;have c:(AU a&&AU b)=true:=c;rw[zf]at c;obtain⟨ha,hb⟩:=c;obtain⟨a1,a2,a3,a4,a5,a6,a7,a8,a9⟩:=Ea ha;obtain⟨b1,b2,b3,b4,b5,b6,b7,b8,b9⟩:=Ea hb;have ad:=(Ao a).den_pos;have A:=(Ao b).den_pos;have x:∀ob,Ac MW (a,b) (.dat .str<|CT (Bo a*Bo b)<|AZ a*AZ b) ob:=fun ob=>zu rfl rfl (iN).symm
 have d:Ends XR6 (T74.L1 a b) (Ac MW (a,b)):=by
  have r:BZ a=zt (Bo a):=rfl;have f:BQ a=zq (Bo a):=rfl;have e:Bv a=zt (AZ a):=rfl;have q:Bp a=zq (AZ a):=rfl;have g:BZ b=zt (Bo b):=rfl;have p:BQ b=zq (Bo b):=rfl;have l:Bv b=zt (AZ b):=rfl;have m:Bp b=zq (AZ b):=rfl;refine zj (T74.Ak ..) ?_;conv=>zeta
  simp only[r,f,e,q,g,p,l,m,Tu,Tq,PX,IP];have z:=D5 a8 b8;have w:=D5 a9 b9;grind [Nz,yw,zd,ze]
 refine zp (T74.Aj a b) (zd ha<|zd hb<|zg (fun o=>zg (fun h=>?_) ah) ah);obtain⟨t,u,k,j,y,n⟩:=Ha ha o;obtain⟨y1,y2,y3,y4,y5,y6⟩:=Ha hb h;have v:=Wu k j y3 y4;have s:=Wu ae n ae y6;grind [yw,wr,zd,Fo,ze]
theorem T183.ok[Srt]:Af AY 183 Acf:=by
 refine BA Vp<|fun(a:Rd) hi=>?_;obtain⟨b,h0⟩:=ZE hi;obtain⟨a1,a2,a3,a4,a5,a6,a7,a8,a9⟩:=Ea (Is b).1;refine zp (T183.Aj a)<|zd a7<|zd (Ab (Ab a3 a1) ?_)<|ze<|zu rfl rfl ?_
 ·rw[a2];exact w4 fun e=>(by simp_all)
 ·unfold JU;rw[a2,a4];exact eT.symm
theorem aJ[Srt]:Cv XR7:=Aa T183.ok<|Aa T74.ok<|Aa T30.ok<|Aa T86.ok AB
theorem pJ{s:Rd}(h:C0 s=true):AU (M5 s)=true/\Ao (M5 s)= -Ao s:=by
 obtain⟨a,c⟩:=Is h;obtain⟨t,_⟩:=Gg a;have e:M5 s=AO (-Ao s):=by
  have:=qW<|Ao s;rwa [t]at this
 have r:Ao (M5 s)= -Ao s:=by rw[e,DH]
 refine⟨?_,r⟩;have b:(M5 s).length<=4000:=by
  unfold M5;split
  ·omega
  ·split
   ·rw[zz];omega
   ·rw[zn];omega
 unfold AU;rw[r, <-e,w4 rfl,w4 b];rfl
theorem T31.ok[Srt]:Af AY 31 V9:=by
 refine BA aJ<|fun(i:Rd×Rd) c=>?_;obtain⟨a,b⟩:=i;have c:(AU a&&C0 b)=true:=c;rw[zf]at c;obtain⟨ha,hb⟩:=c;obtain⟨n1,n2⟩:=pJ hb;have d:=(Is hb).2;refine zp (T31.Aj a b) (zd (w4 ae)<|zd (Ab ha n1)<|ze<|zu rfl rfl ?_);show B0 a (M5 b)=Gz a b;unfold B0 Gz;rw[n2,Rat.sub_eq_add_neg]
theorem uM{s:Rd}(h:Wf s=true):AU (Vy s)=true:=by
 obtain⟨a,h0⟩:=ZE h;obtain⟨a,h2⟩:=Is a;obtain⟨t,_⟩:=Gg a;have b:(AO<|Ao s).length<=3000:=by rw[t];exact h2
 unfold Vy;generalize Ao s=q at*;have l1:(zk q.num.natAbs).length<=(y7 q.num).length:=by
  unfold y7;split
  ·rw[zn];omega
  ·rw[show q.num.toNat=q.num.natAbs by omega];exact ym _
 have key:(AO q⁻¹).length<=(zk q.num.natAbs).length+(zk q.den).length+2:=by
  have f:=Rat.inv_def q;have g:q.num≠0:=fun e=>h0<|Rat.num_eq_zero.mp e
  have i:=q.den_pos;have m:=Gt (n:=(q.den:Int)) (d:=q.num) g;rw[<-f,Int.natAbs_natCast]at m;have k:=Wo m.1;have l:=Wo m.2;have j:(y7 q⁻¹.num).length<=(zk q⁻¹.num.natAbs).length+1:=by
   unfold y7;split
   ·rw[zn];omega
   ·rw[show q⁻¹.num.toNat=q⁻¹.num.natAbs by omega];omega
  unfold AO;split
  ·omega
  ·rw[z7,zn];omega
 have o:(zk q.num.natAbs).length+(zk q.den).length<=3001:=by
  unfold AO at b;split at b
  ·next c=>rw[c,Lib.decDigits_one (show 1<10 by decide),List.length_singleton];omega
  ·rw[z7,zn]at b;omega
 unfold AU;rw[DH,w4 rfl,w4 ae];rfl
theorem T130.ok[Srt]:Af AY 130 bM:=by
 refine BA aJ<|fun(i:Rd×Rd) c=>?_;obtain⟨a,b⟩:=i;have c:(AU a&&Wf b)=true:=c;rw[zf]at c;obtain⟨ha,hb⟩:=c;refine zp (T130.Aj a b)<|zd hb<|zd (Ab ha<|uM hb)<|ze<|zu rfl rfl ?_;show DR a (Vy b)=FF a b;unfold DR FF Vy;rw[DH,Rat.div_def]
theorem UZ[Srt]:Cv XR8:=Aa T31.ok<|Aa T87.ok<|Aa T139.ok<|Aa T33.ok<|Aa T113.ok<|Aa T114.ok AB
theorem T32.ok[Srt]:Af AY 32 Oi:=by
 refine BA UZ<|fun(i:Rd×Rd) d=>?_;obtain⟨a,b⟩:=i;have d:(AU a&&C0 b)=true:=d;have c:=d;rw[zf]at c;obtain⟨ha,hb⟩:=c;have z:=(TO ha).sub<|TO (Is hb).1;refine zp (T32.Aj a b) (zd d<|zd (w4<|WO z af)<|ze<|zu rfl rfl ?_);show F6 (Gz a b)=Eu a b;unfold Gz;rw[NN,mS];rfl
theorem T137.ok[Srt]:Af AY 137 Ur:=by
 refine BA UZ<|fun(a:Rd) ha=>?_;refine zp (T137.Aj a)<|zd ha<|ze<|zu rfl rfl ?_;show(A3 a==(a.length:Int))=Lj a;obtain⟨g,d,c⟩:=BX a;have es:A3 a=((AJ a).length:Int):=rfl;unfold Lj;cases b:BR a with
 |false=>rw[es,(c b).1];simp
 |true=>
  obtain⟨e,f⟩:=d b;rw[es];simp;omega
theorem T61.ok[Srt]:Af AY 61 TJ:=by
 refine BA UZ<|fun(a:Rd) ha=>?_;have f:a.length<=1000000:=w6 ha;have e:=(qd a).1;have b:∀v ob,v=FR a->Ac TJ a (.dat i64 v) ob:=fun v ob h=>zu rfl rfl h
 unfold FR at b;refine zp (T61.Aj a) (zd ha<|zd (w4 ae)<|zg (fun c=>ze<|b _ _ ?_)<|fun c=>zd ha<|zg (fun d=>ze<|b _ _ ?_)<|fun d=>ze<|b _ _ ?_)
 ·have c:=w6 c;rw[wd<|.inl ae]
 ·have d:=w6 d;rw[wd<|.inr ae]
 ·have c:=w7 c;have d:=w7 d;rw[wc ae]
theorem Abb[Srt]:Cv XR9:=Aa T82.ok<|Aa T182.ok<|Aa T148.ok<|Aa T137.ok AB
theorem T129.ok[Srt]:Af AY 129 UC:=by
 refine BA Abb<|fun(a:Rd) ha=>?_;obtain⟨a1,a2,a3,a4,a5,f,e,h,a9⟩:=Ea ha;obtain⟨t,hl⟩:=Gg ha;have g:=(Ao a).den_pos;refine zp (T129.Aj a) (zd (w4 ae)<|zg (fun c=>ze<|zu rfl rfl ?_)<|fun c=>zd e<|zd (Ab (Ab a1 a3)<|by rw[a4];exact w4 ae)<|zd ?_<|ze<|zu rfl rfl ?_)
 ·show a=AX (Ao a).floor;have d:(Ao a).den=1:=by
   have b:=(FE<|Ao a).2.2;rw[t]at b;unfold Lj at c;rw[b]at c;simpa using c
  rw[qo,d];have:(Ao a).num/((1:Nat):Int)=(Ao a).num:=Int.ediv_one _;rw[this];conv=>lhs;rw[<-t]
  unfold AO;rw[wd d];rfl
 ·show CG (JP _ _,JT _ _)=true;unfold JP JT;rw[a2,a4];exact Hy a1<|Int.natAbs_ediv_le_natAbs _ _
 ·show F8 (JP _ _,JT _ _)=AX (Ao a).floor;unfold JP JT;rw[a2,a4,MJ,qo,a5,f]
theorem eI{f:Ad}{q:Rat}(h:Fc f q){k:Nat}(z:C3 k q)(d:k<=4000):Bg (Gv f.1 f.2)=true/\Sp.vI (Gv f.1 f.2)=q.floor:=by
 have s:=TB z d;have a:=h.den_pos;have c:=cA h.n (by rw[h.vn];exact yj s.1<|AT af af);have b:Sp.vI (Gv f.1 f.2)=q.floor:=by rw[pQ a,h.vn,h.vd,qo]
 refine⟨cA (ZL c a) ?_,b⟩;have e:=(QZ z).1;rw[Rat.num_intCast]at e;rw[b];exact yj (U4 e) (AT af ae)
end Go.Pe
namespace Go.Sp
theorem tQ(q:Rat):YE (AO q)=max (zk q.num.natAbs).length (zk q.den).length:=by
 unfold YE;rw[(FE q).1,(Dy q.num).2.1,VH]
theorem vC{s:Rd}(h:Ap s=0):Nu (YE s) s (Ao s):=by
 obtain⟨n,_⟩:=C1 h;have e:=(Gg n).1;have a:=tQ<|Ao s;rw[e]at a;exact⟨e.symm,Cs _ (by rw[a];exact Nat.le_max_left ..),Cs _<|by rw[a];exact Nat.le_max_right ..⟩
theorem Bt(x:Int)(l:List Int):first (x::l)=if x≠0 then x else first l:=by
 by_cases h:x=0
 ·subst h;rw[wc (by simp),first];rfl
 ·rw[wd h,first];simp[h]
theorem E8(b:Bool)(e:Int):Cb b e=if b=true then e else 0:=by cases b<;>rfl
theorem Dl{α:Type}{l r:List α}{x:α}{i:Nat}(h:l.drop i=x::r):l.take (i+1)=l.take i++[x]:=by
 have a:i<l.length:=by
  rcases Nat.lt_or_ge i l.length with h1|h1
  ·exact h1
  ·rw[zw h1]at h;cases h
 have b:=List.drop_eq_getElem_cons a;rw[h]at b;simp only[List.cons.injEq]at b;rw[List.take_add_one,ya a,b.1];rfl
end Go.Sp
namespace Go.Pe
open Sp
open Go.Det
section
open List Int Prod
namespace T126
def T[Srt](l:List AW)(x:Rd):Tr:=tree XT5 false 9 126<|Ag ([zi B8,zo]) (l,x)
def L1[Srt](v0:List AW)(v1:Rd)(v5:Int):Tr:=re ((T [] []).L.L.R)<|Ax 70 [(0,.dat (zi B8) v0),(1,.dat zo v1),(5,.dat i64 v5)] [] 0
theorem Aj[Srt](l:List AW)(x:Rd):T l x=let a:=getD l 0 ([],[]);let b':=decide (0<(length l:Int));.ck b' (.ck (AU x&&C0 (fst a))<|.di (Eu x (fst a)<=0) (.ck b'<|.leaf (.dat zo<|snd a) [])<|L1 l x 1):=by kernel_rfl
theorem Ak[Srt](v0:List AW)(v1:Rd)(v5:Int):stepT XT5 (L1 v0 v1 v5)=let a:=getD v0 (toNat<|zc .i64<|v5-1) ([],[]);let b':=getD v0 (toNat v5) ([],[]);let b:=(length v0:Int);let d:=Gz v1<|fst a;let f:=decide (0<=v5)&&decide (v5<b);let e:=Gz (snd b')<|snd a;let h':=Gz (fst b')<|fst a;let c:=FF e h';.di (v5<b) (.ck f<|.ck (AU v1&&C0 (fst b'))<|.di (Eu v1 (fst b')<=0) (.ck (decide (0<=zc .i64 (v5-1))&&decide (zc .i64 (v5-1)<b))<|.ck f<|.ck (AU (snd b')&&C0 (snd a))<|.ck (AU (fst b')&&C0 (fst a))<|.ck (AU e&&Wf h')<|.ck (AU v1&&C0 (fst a))<|.ck (AU c&&AU d)<|.ck (AU (snd a)&&AU (DR c d))<|.leaf (.dat zo<|B0 (snd a)<|DR c d) [])<|L1 v0 v1<|zc .i64<|v5+1) (.ck (decide (0<=zc .i64 (b-1))&&decide (zc .i64 (b-1)<b))<|.leaf (.dat zo<|snd<|getD v0 (toNat<|zc .i64<|b-1) ([],[])) []):=by kernel_rfl
end T126
namespace T237
def T[Srt](l:List AW):Tr:=tree XT1 false 9 237<|Ag ([zi B8]) l
def L1[Srt](a:List AW)(c b:Int):Tr:=re ((T []).L.L.L.R)<|Ax 66 [(5,.nil),(23,.dat (zi B8) a),(24,.dat i64 c),(25,.dat i64 b)] [] 0
theorem Aj[Srt](l:List AW):T l=let a:=(length l:Int);.ck true (.ck true<|.ck (decide (2<=2)&&true&&decide (2<=1000000))<|.ite (Sp.first [Cb (a==0) 12,Cb (decide (a>64)) 5] !=0) (.leaf (.tup [.nil,.dat i64<|Sp.first [Cb (a==0) 12,Cb (decide (a>64)) 5]]) [])<|L1 l a 0):=by kernel_rfl
def L2[Srt](c:Nat)(a:List AW)(b d:Int)(e:List (Ad×Ad)):Tr:=re ((stepT XT1<|L1 [] 0 0).L.L.L.R.L.L.R.L)<|Ax 66 [(5,.sl 0 8 0 c none),(23,.dat (zi B8) a),(24,.dat i64 b),(25,.dat i64 d)] [(0,.arr false 300 (yn An An) e)] 1
theorem Ak[Srt](c:List AW)(d a:Int):stepT XT1 (L1 c d a)=let b:=getD c (toNat a) ([],[]);.di (a<d) (.ck (decide (0<=a)&&decide (a<(length c:Int)))<|.ck (decide (2<=2)&&true&&(decide (2<=1000)&&List.all [fst b,snd b] fun s=>decide (length s<=1000000)))<|.ite (E9 [fst b,snd b] !=0) (.leaf (.tup [.nil,.dat i64<|E9 [fst b,snd b]]) [])<|.ck (DS<|fst b)<|.ck (DS<|snd b)<|.di (a>0) .fail<|.ck (aa 128)<|L2 1 c d (zc .i64<|a+1)<|[((Cw<|fst b),(Sg<|snd b,Sf<|snd b),QD<|snd b,RV<|snd b)]) (.leaf (.tup [.nil,.dat i64 (0:Int)]) []):=by kernel_rfl
theorem Az[Srt](c:Nat)(d:List AW)(e a:Int)(f:List (Ad×Ad)):stepT XT1 (L2 c d e a f)=let b:=getD d (toNat a) ([],[]);let j:=zc .i64<|a-1;let b':=fst<|getD f (toNat j) (((0,[]),0,[]),(0,[]),0,[]);let g:=Cw<|fst b;let i:Tr:=.ck (ac c (length f) 128)<|L2 (qu c 1) d e (zc .i64<|a+1)<|f++[(g,(Sg<|snd b,Sf<|snd b),QD<|snd b,RV<|snd b)];let h:=((fst b'),fst<|snd b',snd<|snd b');.di (a<e) (.ck (decide (0<=a)&&decide (a<(length d:Int)))<|.ck (decide (2<=2)&&true&&(decide (2<=1000)&&List.all [fst b,snd b] fun s=>decide (length s<=1000000)))<|.ite (E9 [fst b,snd b] !=0) (.leaf (.tup [.nil,.dat i64<|E9 [fst b,snd b]]) [])<|.ck (DS<|fst b)<|.ck (DS<|snd b)<|.di (a>0) (.ck (decide (0<=zc .i64 (a-1))&&decide (zc .i64 (a-1)<(↑c:Int)))<|.cd (toNat j<length f)<|.ck (Sp.CA g&&Sp.CA h)<|.di (Dh g h<=0) (.leaf (.tup [.nil,.dat i64 (11:Int)]) []) i) i) (.leaf (.tup [.sl 0 8 0 c none,.dat i64 (0:Int)])<|[(0,.arr false 300 (yn An An) f)]):=by kernel_rfl
end T237
namespace T206
def T[Srt](l:List AW):Tr:=tree XT2 false 9 206<|Ag ([zi B8]) l
theorem Aj[Srt](l:List AW):T l=.ck (decide (length l<=1000)&&GY 1000000 l) (.leaf (.dat i64<|BL l) []):=by kernel_rfl
end T206
namespace T112
def T[Srt](l:List AW):Tr:=tree XT4 false 9 112<|Ag ([zi B8]) l
def L1[Srt](v0:List AW)(v3:Int):Tr:=re ((T []).R.R)<|Ax 55 [(0,.dat (zi B8) v0),(3,.dat i64 v3)] [] 0
theorem Aj[Srt](l:List AW):T l=.ite ((length l:Int)==0) (.leaf (.dat i64 (12:Int)) []) (.di ((length l:Int)>64) (.leaf (.dat i64 (5:Int)) [])<|L1 l 0):=by kernel_rfl
theorem Ak[Srt](v0:List AW)(v3:Int):stepT XT4 (L1 v0 v3)=let a:=getD v0 (toNat v3) ([],[]);let b':=L1 v0<|zc .i64<|v3+1;let f:=fst<|getD v0 (toNat<|zc .i64<|v3-1) ([],[]);let c:=(length v0:Int);let d:Tr:=.ite (Ap (snd a) !=0) (.leaf (.dat i64<|Ap<|snd a) []) b';let e:Tr:=.ite (Ap (fst a) !=0) (.leaf (.dat i64<|Ap<|fst a) []) b';let b:=decide (0<=v3)&&decide (v3<c);let i:=decide (0<=zc .i64 (v3-1))&&decide (zc .i64 (v3-1)<c);let h':Tr:=.ite true (.leaf (.dat i64 (11:Int)) []) b';let h:=decide (Eu f (fst a)>=0);let g:=AU f&&C0 (fst a);.di (v3<c) (.ck b<|.cd (length (fst a)<=1000000)<|.ite (Ap (fst a)==0) (.ck b<|.cd (length (snd a)<=1000000)<|.ite (Ap (snd a)==0) (.di (v3>0) (.ck i<|.ck b<|.ck g<|.ite h h' d) d) d)<|.ite (Ap (fst a)==0) (.di (v3>0) (.ck i<|.ck b<|.ck g<|.ite h h' e) e) e) (.leaf (.dat i64 (0:Int)) []):=by kernel_rfl
end T112
end
end Go.Pe
namespace Go.Sp
theorem MY{k:Nat}{t:List AW}(h:GY k t=true):∀p∈t,p.1.length<=k/\p.2.length<=k:=by
 unfold GY at h;rw[List.all_eq_true]at h;intro p hp;have:=h p hp;rw[zf,w5,w5]at this;exact this
theorem XL(a b:Rd):Eu a b<=0↔0<=Eu b a:=by
 unfold Eu;rw[oT (Ao a)<|Ao b];omega
theorem Ik(a b:Rd):Eu a b<=0↔¬Ao b<Ao a:=by
 unfold Eu;by_cases h:Ao a<Ao b
 ·rw[wd h];exact⟨fun _=>Rat.not_lt.2<|Rat.le_of_lt h,fun _=>by decide⟩
 ·rw[wc h];by_cases k:Ao b<Ao a
  ·rw[wd k];exact⟨fun x=>wh x af,fun x=>wh k x⟩
  ·rw[wc k];exact⟨fun _=>k,fun _=>by decide⟩
def QI(t:List AW)(i:Nat):Option AW:=if i=0 then none else some<|t.getD (i-1) ([],[])
theorem Gr(p:AW)(l:List AW):Dz none (p::l)=if OM p.1 p.2≠0 then OM p.1 p.2 else Dz (some p) l:=by
 rw[Dz]
theorem HH(q p:AW)(l:List AW):Dz (some q) (p::l)=if OM p.1 p.2≠0 then OM p.1 p.2 else if Eu p.1 q.1<=0 then 11 else Dz (some p) l:=by
 rw[Dz]
theorem Wm(o:Option AW):Dz o []=0:=by rw[Dz]
theorem YW{t:List AW}{i:Nat}{p:AW}(h:t.getD i ([],[])=p):QI t (i+1)=some p:=by
 unfold QI;rw[wc ae,zx,h]
end Go.Sp
namespace Go.Pe
open Sp
open Go.Det
theorem vL{s:Sh}{sz:Nat}(b:s.sz=sz){id n:Nat}{tail:Ob}{fz:Bool}{t:TypeId}{o:List s.T}{e:Int}(h:n=o.length):KZ [.list s,i64] (.tup [.sl id sz 0 n none,.dat i64 e]) ((id,.arr fz t s o)::tail)=some (true,(o,e)):=by
 subst h b;have a:AR ((id,Obj.arr fz t s o)::tail) id=some (.arr fz t s o):=by unfold AR;rw[qy];rfl
 have h0:Ft ⟨0,.leaf,(id,.arr fz t s o)::tail,0⟩ (.list s) (.sl id s.sz 0 o.length none)=some (true,o):=by
  unfold Ft;have f:Dn ⟨0,.leaf,(id,.arr fz t s o)::tail,0⟩ (PV.cells<|.sl id s.sz 0 o.length none)=some (true,[.dat (.list s) o]):=by
   show(match B4 ⟨0,.leaf,(id,.arr fz t s o)::tail,0⟩ (.sl id s.sz 0 o.length none),some (true,[])with|some (c,x),some (d,g)=>some (c&&d,x::g)|_,_=>none)=_;have:B4 ⟨0,.leaf,(id,.arr fz t s o)::tail,0⟩ (.sl id s.sz 0 o.length none)=some (true,.dat (.list s) o):=by
    unfold B4 AQ.obj;simp only[a,qy,we];simp
   rw[this];rfl
  simp only[OJ,Sh.OP];show(match Dn ⟨0,.leaf,(id,.arr fz t s o)::tail,0⟩ (PV.cells<|.sl id s.sz 0 o.length none)with|some (c,cs)=>_|none=>none)=_;rw[f];have:DM (.list s) [PV.dat (.list s) o]=some o:=by
   unfold DM CO xN EZ;simp
  simp only[ZH,this,Bool.true_and]
 unfold KZ IG;simp only;unfold Dq;rw[h0];rfl
theorem Aak[Srt]:Cv XT1:=Aa T202.ok<|Aa T203.ok<|Aa T270.ok<|Aa T96.ok<|Aa T73.ok AB
theorem Z8{a b:Rd}(d:Ap a=0)(c:Ap b=0):Dh (frS a) (frS b)=Eu a b:=by
 rw[Fc.cmp (Jw (C1 d).1)<|Jw (C1 c).1];rfl
theorem Ic{a:Rd}(b:Ap a=0):Sp.CA (frS a)=true/\DS a=true:=by
 obtain⟨n,z⟩:=C1 b;exact⟨(Jw n).CA (TB z af),(Ea n).2.2.2.2.2.2.1⟩
namespace T237
theorem Agq{p:AW}{k:Nat}(h:p.1.length<=k/\p.2.length<=k)(a:k<=1000000):(decide ((2:Nat)<=2)&&true&&(decide ((2:Nat)<=1000)&&List.all [p.1,p.2] fun s=>decide (List.length s<=1000000)))=true:=by
 show(decide (p.1.length<=1000000)&&(decide (p.2.length<=1000000)&&true))=true;rw[w4 ae,w4 ae];rfl
theorem eV(t:List AW)(i:Nat)(p:AW)(h:i<t.length)(hp:t.getD i ([],[])=p):(t.take i).map EF++[(Cw p.1,Cw p.2)]=(t.take<|i+1).map EF:=by
 rw[List.take_add_one,List.map_append];congr 1;rw[z6]at hp;rw[ya h]at hp ⊢;have hp:t[i]=p:=hp;rw[hp];rfl
theorem A5[Srt](t:List AW)(m:t.length<=64)(v:GY 1000000 t=true)(b:∀e ob,e≠0->Dz none t=e->Q (.tup [.nil,.dat i64 e]) ob)
  (j:Dz none t=0->Q (.tup [.sl 0 8 0 ((t.take t.length).map EF).length none,.dat i64 0]) [(0,.arr false 300 dN<|(t.take t.length).map EF)]):
  ∀(r:List AW) (i n:Nat) (q:AW),t.drop i=r->1<=i->i<=t.length->n=((t.take i).map EF).length->t.getD (i-1) ([],[])=q->Ap q.1=0->Dz none t=Dz (some q) r->Ends XT1 (L2 n t (t.length:Int) (i:Int)<|(t.take i).map EF) Q
 |[],i,n,q,h,z,y,u,g,l,a=>by
  have:=drop_nil h y;have e:i=t.length:=ae
  subst e;rw[Wm]at a;rw[u];exact zj (Az ..) (zm (w8 ae)<|ze<|j a)
 |p::r,i,n,q,h,z,y,u,g,l,a=>by
  obtain⟨w,s,E⟩:=drop_cons (d:=(([],[]):AW)) h;have D:p∈t:=yu (by rw[h];exact yk ..);have hp:=MY v p D;have I:n=i:=by rw[u,yx,yo];omega
  have J:=wn (i:=i) ae;have A:zc .i64 ((i:Int)-1)=((i-1:Nat):Int):=by rw[wr _ ae ae];omega
  have F:∀d,((t.take i).map EF).getD (i-1) d=EF q:=by
   intro d;rw[z6,List.getElem?_map,List.getElem?_take_of_lt ae];rw[z6,ya ae]at g;rw[ya ae];have g:t[i-1]=q:=g;rw[g];rfl
  have H:((t.take i).map EF).length=i:=by rw[yx,yo];omega
  rw[HH]at a;refine zj (Az ..) ?_;conv=>zeta
  rw[J,A,zh,zh,s,F];refine zd (w4 ae) (zd (ad ae ae)<|zd (Agq hp<|ym _)<|zg (fun c=>ze ?_)<|fun c=>?_)
  ·have c:E9 [p.1,p.2]≠0:=by simpa using c
   have k:OM p.1 p.2≠0:=c;rw[wd k]at a;exact b _ _ k a
  ·have c:E9 [p.1,p.2]=0:=by simpa using c
   have k:OM p.1 p.2=0:=c;rw[wc<|by rw[k];decide]at a;obtain⟨o,G⟩:=Ka k;have x:=Ic o;have C:=Ic G;have B:=Ic l;have f:Dh (Cw p.1) (EF q).1=Eu p.1 q.1:=Z8 o l;refine zd x.2 (zd C.2<|zd (w4 ae)<|zd (ad ae ae)<|zd (w4 ae)<|zd (Ab x.1 B.1)<|zg (fun d=>ze ?_)<|fun d=>?_)
   ·have d:=w6 d;have d:Dh (Cw p.1) (EF q).1<=0:=d;rw[f]at d;rw[wd d]at a;exact b 11 _ af a
   ·have d:=w7 d;have d:¬Dh (Cw p.1) (EF q).1<=0:=d;rw[f]at d;rw[wc d]at a;have go:=A5 t m v b j r (i+1) (n+1) p E ae w (by rw[yx,yo];omega) (by rw[zx];exact s) o a;rw[<-eV t i p w s]at go;refine zd (Ab (Ab (Ab rfl rfl)<|w4 ae)<|w4 ae) go
theorem ok[Srt]:Af AY 237 dY:=by
 refine BA Aak<|fun(t:List (Rd×Rd)) d=>?_;have d:(decide (t.length<=1000)&&GY 1000000 t)=true:=d;rw[zf,w5]at d;obtain⟨v,hp⟩:=d;have a:∀e ob,e≠0->BL t=e->Ac dY t (.tup [.nil,.dat i64 e]) ob:=fun e ob h k=>zu (y:=([],e)) rfl rfl (by
  show([],e)=(WT t,BL t);unfold WT;rw[wd (by rw[k];exact h),k])
 have q:Sp.first [Cb ((t.length:Int)==0) 12,Cb (decide ((t.length:Int)>64)) 5]=if t=[]then 12 else if 64<t.length then 5 else 0:=by
  rw[Km];by_cases h:t=[]
  ·rw[wd h,h];rfl
  ·have f:((t.length:Int)==0)=false:=by
    have:t.length≠0:=fun k=>h<|yc.1 k
    simp;omega
   rw[wc h,f,wc af];by_cases k:64<t.length
   ·rw[wd k,w4<|show(t.length:Int)>64 by omega];rfl
   ·rw[wc k,w8<|show ¬(t.length:Int)>64 by omega];rfl
 refine zp (Aj t) ?_;conv=>zeta
 rw[q];refine zd rfl (zd rfl (zd rfl ?_));by_cases h:t=[]
 ·rw[wd h];exact zd rfl (ze<|a 12 _ af<|by unfold BL;rw[wd h])
 ·rw[wc h];by_cases k:64<t.length
  ·rw[wd k];exact zd rfl (ze<|a 5 _ af<|by unfold BL;rw[wc h,wd k])
  ·rw[wc k];have g:BL t=Dz none t:=by unfold BL;rw[wc h,wc k]
   refine zm rfl ?_;obtain⟨p,r,rfl⟩:∃p r,t=p::r:=by
    cases t with
    |nil=>exact wh rfl h
    |cons p r=>exact⟨p,r,rfl⟩
   have s:(p::r).getD 0 ([],[])=p:=rfl;have i:=MY hp p<|yk ..;refine zj (Ak ..) ?_;conv=>zeta
   rw[show Int.toNat 0=0 from rfl,s];refine zd (w4<|by rw[zn];omega) (zd (Ab rfl (w4<|by rw[zn];omega))<|zd (Agq i<|ym _)<|zg (fun c=>ze ?_)<|fun c=>?_)
   ·have c:E9 [p.1,p.2]≠0:=by simpa using c
    have b:OM p.1 p.2≠0:=c;exact a _ _ b (by rw[g,Gr,wd b];rfl)
   ·have c:E9 [p.1,p.2]=0:=by simpa using c
    have b:OM p.1 p.2=0:=c;obtain⟨j,m⟩:=Ka b;have n:=Ic j;have l:=Ic m;have u:zc .i64 ((0:Int)+1)=((1:Nat):Int):=rfl;rw[u];have go:=A5 (Q:=Ac dY (p::r)) (p::r) ae hp (fun e ob f o=>a e ob f<|by rw[g];exact o) (fun h0=>zu (vL rfl rfl) rfl (by
     show(((p::r).take (p::r).length).map EF,(0:Int))=(WT (p::r),BL (p::r));unfold WT;rw[g,h0,wc af,List.take_length])) r 1 1 p rfl af (by rw[zn];omega) (by rw[yx,yo,zn];omega) rfl j (by rw[Gr,wc<|by rw[b];decide])
    exact zd n.2<|zd l.2<|zm rfl (zd rfl go)
end T237
theorem xM[Srt]:Cv XT2:=Aa T237.ok AB
theorem T206.ok[Srt]:Af AY 206 Ml:=by
 refine BA xM<|fun(t:List (Rd×Rd)) hi=>?_;exact zp (T206.Aj t)<|zd hi<|ze<|zu rfl rfl rfl
theorem Aa1[Srt]:Cv XT4:=Aa T78.ok<|Aa T32.ok AB
namespace T112
theorem Au[Srt](t:List AW)(j:t.length<=64)(u:GY 1000000 t=true)(e:∀ob,Q (.dat i64<|Dz none t) ob):
  ∀(r:List AW) (i:Nat),t.drop i=r->i<=t.length->(0<i->Ap (t.getD (i-1) ([],[])).1=0)->Dz none t=Dz (QI t i) r->Ends XT4 (L1 t (i:Int)) Q
 |[],i,h,v,g,b=>by
  have:=drop_nil h v;rw[Wm]at b;rw[b]at e;exact zj (Ak ..) (zm (w8 ae)<|ze<|e _)
 |p::r,i,h,v,g,b=>by
  obtain⟨B,m,z⟩:=drop_cons (d:=(([],[]):AW)) h;have y:p∈t:=yu (by rw[h];exact yk ..);obtain⟨l1,l2⟩:=MY u p y;have D:=wn (i:=i) ae;have o:=nb (i:=i) (n:=t.length) ae;have a:=aH p.1 p.2;refine zj (Ak ..) ?_;conv=>zeta
  rw[D,zh,m];refine zd (w4 ae)<|zd o<|zd (w4 l1)<|zg (fun c=>zd o<|zd (w4 l2)<|zg (fun d=>?_)<|fun d=>?_)<|fun c=>?_
  ·have c:Ap p.1=0:=by simpa using c
   have d:Ap p.2=0:=by simpa using d
   rw[wc (by rw[c];decide),d]at a;have db:(Ap p.2 !=0)=false:=by rw[d];rfl
   have n1:=LR c;have nx:∀s,s=i+1->Dz none t=Dz (some p) r->Ends XT4 (L1 t ((i+1:Nat):Int)) Q:=fun s _ C=>
    Au t j u e r (i+1) z B (fun _=>by rw[zx,m];exact c) (by rw[YW m];exact C)
   by_cases h0:i=0
   ·subst h0;refine zm rfl (zm db<|nx _ rfl ?_);rw[b];show Dz none (p::r)=_;rw[Gr,wc<|by rw[a];decide]
   ·have w:zc .i64 ((i:Int)-1)=((i-1:Nat):Int):=by rw[wr _ ae ae];omega
    have g:=g ae;have A:QI t i=some (t.getD (i-1) ([],[])):=by unfold QI;rw[wc h0]
    rw[A,HH,wc<|by rw[a];decide]at b;rw[w,zh];generalize t.getD (i-1) ([],[])=q at*;have n0:=LR g;refine zd (w4 ae) (zd (ad ae ae)<|zd o<|zd (Ab (n0.num af)<|n1.C0 af)<|zg (fun k=>zd rfl (ze ?_))<|fun k=>zm db<|nx _ rfl ?_)
    ·have k:=w6 k;rw[wd<|(XL _ _).2 k]at b;rw[b]at e;exact e _
    ·have k:=w7 k;rw[wc<|fun x=>k<|(XL _ _).1 x]at b;exact b
  ·have c:Ap p.1=0:=by simpa using c
   have l:Ap p.2≠0:=by simpa using d
   rw[wc<|by rw[c];decide]at a;refine zd (by simpa using l)<|ze ?_;have:Dz none t=Ap p.2:=by
    rw[b];cases QI t i with
    |none=>rw[Gr,wd (by rw[a];exact l),a]
    |some q=>rw[HH,wd (by rw[a];exact l),a]
   rw[<-this];exact e _
  ·have f:Ap p.1≠0:=by simpa using c
   rw[wd f]at a;have:Dz none t=Ap p.1:=by
    rw[b];cases QI t i with
    |none=>rw[Gr,wd (by rw[a];exact f),a]
    |some q=>rw[HH,wd (by rw[a];exact f),a]
   refine zm (by simpa using f) (zd (by simpa using f)<|ze ?_);rw[<-this];exact e _
theorem ok[Srt]:Af AY 112 Ml:=by
 refine BA Aa1<|fun(t:List (Rd×Rd)) b=>?_;have b:(decide (t.length<=1000)&&GY 1000000 t)=true:=b;rw[zf,w5]at b;have a:∀e ob,BL t=e->Ac Ml t (.dat i64 e) ob:=fun e ob h=>zu rfl rfl h.symm
 unfold BL at a;refine zp (Aj t)<|zg (fun c=>ze<|a _ _ ?_)<|fun c=>zg (fun d=>ze<|a _ _ ?_)<|fun d=>?_
 ·have:t=[]:=yc.1 (by have:(t.length:Int)=0:=(by simpa using c);omega);rw[wd this]
 ·have c:(t.length:Int)≠0:=by simpa using c
  have d:=w6 d;rw[wc (by rintro rfl;exact c rfl),wd ae]
 ·have c:(t.length:Int)≠0:=by simpa using c
  have d:=w7 d;rw[wc (by rintro rfl;exact c rfl),wc ae]at a;exact Au t ae b.2 (fun ob=>a _ ob rfl) t 0 rfl (Nat.zero_le _) (fun h=>wh h af) rfl
end T112
end Go.Pe
namespace Go.Sp
theorem AeB{s:Rd}(h:AU s=true){k:Nat}(b:s.length<=k)(d:1<=k):Nu k s (Ao s):=by
 obtain⟨a,_⟩:=Gg h;have e:(AO<|Ao s).length<=k:=by rw[a];exact b
 refine⟨a.symm,?_⟩;generalize Ao s=q at*;have f:(zk q.num.natAbs).length<=(y7 q.num).length:=by
  unfold y7;split
  ·rw[zn];omega
  ·rw[show q.num.toNat=q.num.natAbs by omega];exact ym _
 unfold AO at e;split at e
 ·next c=>exact⟨Cs (k:=k) _ ae,by rw[c];exact LB k ae⟩
 ·rw[z7,zn]at e;exact⟨Cs (k:=k) _ ae,Cs (k:=k) _ ae⟩
theorem HZ{s:Rd}(h:Ap s=0){k:Nat}(a:s.length<=k)(b:1<=k):Nu k s (Ao s):=AeB (C1 h).1 a b
def pt(p:AW):Rat×Rat:=(Ao p.1,Ao p.2)
theorem oV(t:List AW)(x:Rd):LY t x=O7 none (t.map pt) (Ao x):=rfl
theorem PT(p:Rat×Rat)(l:List (Rat×Rat))(x:Rat):O7 none (p::l) x=if p.1<x then O7 (some p) l x else p.2:=by rw[O7]
theorem Qg(a b:Rat×Rat)(l:List (Rat×Rat))(x:Rat):O7 (some a) (b::l) x=if b.1<x then O7 (some b) l x else a.2+(b.2-a.2)*(x-a.1)/(b.1-a.1):=by rw[O7]
theorem bT(p:Rat×Rat)(x:Rat):O7 (some p) [] x=p.2:=by rw[O7]
theorem mC(a b c d:Rat):a+b/c*d=a+b*d/c:=by
 rw[Rat.div_def,Rat.div_def,Rat.mul_assoc,Rat.mul_comm c⁻¹ d, <-Rat.mul_assoc]
theorem iZ{t:List AW}{x:Rd}(h:Y7 t x=0):BL t=0/\Ap x=0:=by
 unfold Y7 at h;split at h
 ·next k=>exact wh h k
 ·next k=>exact⟨by omega,h⟩
theorem Er{t:List AW}(h:BL t=0):t≠[]/\t.length<=64/\Dz none t=0:=by
 unfold BL at h;split at h
 ·exact wh h af
 ·next k=>
  split at h
  ·exact wh h af
  ·exact⟨k,by omega,h⟩
theorem HN{q p:AW}{l:List AW}(h:Dz (some q) (p::l)=0):Ap p.1=0/\Ap p.2=0/\Ao q.1<Ao p.1/\Dz (some p) l=0:=by
 rw[HH]at h;split at h
 ·next k=>exact wh h k
 ·next k=>
  split at h
  ·exact wh h af
  ·next d=>
   obtain⟨c,e⟩:=Ka (a:=p.1) (b:=p.2) ae;rw[Ik]at d;exact⟨c,e,Classical.not_not.1 d,h⟩
theorem Jo{p:AW}{l:List AW}(h:Dz none (p::l)=0):Ap p.1=0/\Ap p.2=0/\Dz (some p) l=0:=by
 rw[Gr]at h;split at h
 ·next k=>exact wh h k
 ·next k=>
  obtain⟨c,d⟩:=Ka (a:=p.1) (b:=p.2) ae;exact⟨c,d,h⟩
theorem Nn{p q:Rat}(h:q<p):p-q≠0:=fun e=>by
 have:=(Rat.lt_iff_sub_pos q p).1 h;rw[e]at this;exact qp this
end Go.Sp
namespace Go.Pe
open Sp
open Go.Det
theorem AaP[Srt]:Cv XT5:=Aa T32.ok<|Aa T130.ok<|Aa T31.ok<|Aa T74.ok<|Aa T30.ok AB
namespace T126
theorem Au[Srt](t:List AW)(x:Rd)(o:t.length<=64)(v:GY 100 t=true)(nx:Sp.Nu 600 x (Ao x))(g:∀ob,Q (.dat .str<|AO<|LY t x) ob):
  ∀(r:List AW) (i:Nat) (q:AW),t.drop i=r->1<=i->i<=t.length->t.getD (i-1) ([],[])=q->Sp.Nu 100 q.1 (Ao q.1)->Sp.Nu 100 q.2 (Ao q.2)->Dz (some q) r=0->LY t x=O7 (some<|Sp.pt q) (r.map Sp.pt) (Ao x)->Ends XT5 (L1 t x (i:Int)) Q
 |[],i,q,h,A,w,b,n1,f,k,a=>by
  have:=drop_nil h w;have e:i=t.length:=ae
  have m:zc .i64 ((t.length:Int)-1)=((i-1:Nat):Int):=by rw[wr _ ae ae];omega
  have a:LY t x=Ao q.2:=by rw[a];exact bT _ _
  refine zj (Ak ..) (zm (w8 ae) ?_);rw[m,zh,b];refine zd (ad ae ae)<|ze ?_;have g:=g;rw[a, <-f.t]at g;exact g _
 |p::r,i,q,h,A,w,b,n1,f,k,a=>by
  obtain⟨F,y,C⟩:=drop_cons (d:=(([],[]):AW)) h;have B:p∈t:=yu (by rw[h];exact yk ..);obtain⟨l1,l2⟩:=MY v p B;have G:=wn (i:=i) ae;have m:zc .i64 ((i:Int)-1)=((i-1:Nat):Int):=by rw[wr _ ae ae];omega
  have z:=nb (i:=i) (n:=t.length) ae;obtain⟨E,D,s,k⟩:=HN k;have l:=HZ E l1 af;have u:=HZ D l2 af;have a:LY t x=if Ao p.1<Ao x then O7 (some<|Sp.pt p) (r.map Sp.pt) (Ao x)else Ao q.2+(Ao p.2-Ao q.2)*(Ao x-Ao q.1)/(Ao p.1-Ao q.1):=by
   rw[a,List.map_cons,Qg];rfl
  have j:=Nn s;refine zj (Ak ..) ?_;conv=>zeta
  rw[G,m,zh,zh,y,b];refine zd (w4 ae) (zd z<|zd (Ab (nx.num af)<|l.C0 af)<|zg (fun c=>?_)<|fun c=>?_)
  ·have c:=(Sp.Ik _ _).1<|w6 c;rw[wc c]at a;have s1:=u.Gz f;have s2:=l.Gz n1;have s3:=s1.FF s2 j;have s4:=nx.Gz n1;have s5:=s3.DR s4;have s6:=f.B0 s5;have z2:Wf (Gz p.1 q.1)=true:=uC (s2.C0 af) (fun e=>j<|(s2.Jk af).1 e);refine zd (ad ae ae) (zd z<|zd (Ab (u.num af)<|f.C0 af) (zd (Ab (l.num af)<|n1.C0 af)<|zd (Ab (s1.num af) z2)<|zd (Ab (nx.num af)<|n1.C0 af)<|zd (Ab (s3.num af)<|s4.num af)<|zd (Ab (f.num af)<|s5.num af)<|ze ?_));rw[s6.t,mC, <-a];exact g _
  ·have c:Ao p.1<Ao x:=by
    have:=w7 c;rw[Sp.Ik]at this;exact Classical.not_not.1 this
   rw[wd c]at a;exact Au t x o v nx g r (i+1) p C ae F (by rw[zx];exact y) l u k a
end T126
structure RS(k:Nat)(f:Ad)(q:Rat):Prop where
 r:Fc f q
 z:C3 k q
theorem RS.mono{i j:Nat}{f:Ad}{q:Rat}(h:RS i f q)(k:i<=j):RS j f q:=⟨h.r,h.z.mono k⟩
theorem RS.s{k:Nat}{f:Ad}{q:Rat}(h:RS k f q)(a:k<=4000):Mn 4000 q:=TB h.z a
theorem RS.Ck{k:Nat}{f:Ad}{q:Rat}(h:RS k f q)(a:k<=4000):Sp.Ck f=true:=h.r.Ck<|h.s a
theorem RS.CA{k:Nat}{f:Ad}{q:Rat}(h:RS k f q)(a:k<=4000):Sp.CA f=true:=h.r.CA<|h.s a
theorem RS.PA{i j:Nat}{f g:Ad}{p q:Rat}(d:RS i f p)(b:RS j g q)(a:i<=4000)(c:j<=4000):(Sp.Ck f&&Sp.Ck g)=true:=Ab (d.Ck a)<|b.Ck c
theorem RS.add{i j:Nat}{f g:Ad}{p q:Rat}(b:RS i f p)(a:RS j g q)(c:i<=4000)(d:j<=4000):RS (i+j+1) (B2 f g) (p+q):=⟨Fc.add b.r a.r (b.s c)<|a.s d,b.z.add a.z⟩
theorem RS.sub{i j:Nat}{f g:Ad}{p q:Rat}(b:RS i f p)(a:RS j g q)(c:i<=4000)(d:j<=4000):RS (i+j+1) (Fu f g) (p-q):=⟨Fc.sub b.r a.r (b.s c)<|a.s d,b.z.sub a.z⟩
theorem RS.mul{i j:Nat}{f g:Ad}{p q:Rat}(b:RS i f p)(a:RS j g q)(c:i<=4000)(d:j<=4000):RS (i+j) (FV f g) (p*q):=⟨Fc.mul b.r a.r (b.s c)<|a.s d,b.z.mul a.z⟩
theorem RS.div{i j:Nat}{f g:Ad}{p q:Rat}(b:RS i f p)(a:RS j g q)(d:i<=4000)(c:j<=4000)(h0:q≠0):RS (i+j) (KJ f g) (p/q):=⟨Fc.div b.r a.r (b.s d) (a.s c) (TB (a.z.inv h0) c) h0,b.z.div a.z h0⟩
theorem RS.ok3{i j:Nat}{f g:Ad}{p q:Rat}(d:RS i f p)(a:RS j g q)(b:i<=4000)(c:j<=4000)(h0:q≠0):(Sp.Ck f&&Sp.Ck g&&decide (Sp.vI g.1≠0))=true:=Ab (d.PA a b c)<|a.r.Jj.trans<|w4 h0
theorem RS.cmp{i j:Nat}{f g:Ad}{p q:Rat}(b:RS i f p)(a:RS j g q):Dh f g=if p<q then -1 else if q<p then 1 else 0:=Fc.cmp b.r a.r
theorem RS.Ik{i j:Nat}{f g:Ad}{p q:Rat}(a:RS i f p)(b:RS j g q):Dh f g<=0↔p<=q:=by
 rw[a.cmp b];by_cases h:p<q
 ·rw[wd h];exact⟨fun _=>Rat.le_of_lt h,fun _=>by decide⟩
 ·rw[wc h];by_cases k:q<p
  ·rw[wd k];exact⟨fun x=>wh x af,fun x=>wh k<|Rat.not_lt.2 x⟩
  ·rw[wc k];exact⟨fun _=>Rat.not_lt.1 k,fun _=>by decide⟩
theorem RS.Uo{i j:Nat}{f g:Ad}{p q:Rat}(a:RS i f p)(b:RS j g q):Dh f g<0↔p<q:=by
 rw[a.cmp b];by_cases h:p<q
 ·rw[wd h];exact⟨fun _=>h,fun _=>by decide⟩
 ·rw[wc h];by_cases k:q<p
  ·rw[wd k];exact⟨fun x=>wh x af,fun x=>wh x h⟩
  ·rw[wc k];exact⟨fun x=>wh x af,fun x=>wh x h⟩
theorem RS.NU{i j:Nat}{f g:Ad}{p q:Rat}(a:RS i f p)(b:RS j g q):Dh f g>0↔q<p:=by
 have h:=a.Ik b;constructor
 ·intro k;exact Rat.not_le.1 fun x=>by have:=h.2 x;omega
 ·intro k;have:¬Dh f g<=0:=fun x=>Rat.not_le.2 k<|h.1 x
  omega
theorem RS.cmp_eq{i j:Nat}{f g:Ad}{p q:Rat}(b:RS i f p)(a:RS j g q):Dh f g=0↔p=q:=by
 rw[b.cmp a];exact WA p q
theorem RS.Oy{k:Nat}{f:Ad}{q:Rat}(h:RS k f q):(Q7 f<0↔q<0)/\(Q7 f=0↔q=0):=by
 have e:Q7 f=Sp.Oy q.num:=by unfold Q7;rw[h.r.vn]
 have n1:=Sp.neg_num q;rw[e];unfold Sp.Oy;constructor
 ·rw[<-n1.1];split
  ·next c=>exact⟨fun _=>c,fun _=>by decide⟩
  ·next c=>
   split
   ·exact⟨fun x=>wh x af,fun x=>wh x c⟩
   ·exact⟨fun x=>wh x af,fun x=>wh x c⟩
 ·split
  ·next c=>exact⟨fun x=>wh x af,fun x=>wh (n1.1.1 c)<|by rw[x];exact qp⟩
  ·next c=>
   split
   ·next d=>exact⟨fun x=>wh x af,fun x=>wh (n1.2.1 d)<|by rw[x];exact qp⟩
   ·next d=>exact⟨fun _=>Rat.num_eq_zero.1 ae,fun _=>rfl⟩
theorem RS.Ds{k:Nat}{f:Ad}{q:Rat}(h:RS k f q):Sp.Ds f.1=true:=h.r.n
theorem W8{s:Rd}(h:Ap s=0):RS (Sp.YE s) (Cw s) (Ao s):=⟨Jw (C1 h).1,(vC h).z⟩
theorem Ej{s:Rd}(h:Ap s=0){k:Nat}(a:s.length<=k)(b:1<=k):RS k (Cw s) (Ao s):=⟨Jw (C1 h).1,(HZ h a b).z⟩
theorem Hw{n:Int}{k:Nat}(h:n.natAbs<10^k)(b:1<=k)(a:k<=18):RS k ((n,BI n),(1,BI 1)) (n:Rat):=by
 have hp:10^k<=10^18:=yt af a;have c:10^1<=10^k:=yt af b;have hr:Cn n=true:=by
  unfold Cn;exact ad ae ae
 refine⟨Aga n hr,?_,?_⟩
 ·rw[Rat.num_intCast];exact h
 ·rw[Rat.den_intCast];omega
theorem IJ:RS 1 ((0,BI 0),(1,BI 1)) 0:=Hw (n:=0) af af af
theorem AfQ{k:Nat}{f:Ad}{q:Rat}(h:RS k f q){e:Int}(a:e=0):(Qr f,Q0 f)=(sM e q,pU e q):=AeO h.r a
end Go.Pe
