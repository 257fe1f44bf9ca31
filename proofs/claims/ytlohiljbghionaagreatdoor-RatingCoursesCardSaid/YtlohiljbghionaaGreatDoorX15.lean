import Derived.Test.YtlohiljbghionaaGreatDoorX13
import Derived.Test.YtlohiljbghionaaGreatDoorX10
import Derived.Test.YtlohiljbghionaaGreatDoorX12
import Derived.Test.YtlohiljbghionaaGreatDoorX14
import Derived.Test.YtlohiljbghionaaGreatDoorX09
/- A part of a proof (no law is stated here). Made by program out of texts by AI agents. -/
noncomputable section
set_option maxRecDepth 10000
open Go.IntKind renaming wrap -> zc, i64 -> zR
open Go.Pe.Ends renaming tt -> zd, leaf -> zf, ite -> zh, ff -> zj, Ah -> zk, eq -> zq
open Bool renaming and_eq_true -> ze, true_and -> z8, not_eq_true' -> yb, and_eq_false_iff -> yd, and_true -> yw
open Int renaming toNat_natCast -> zg, tmod -> zS, eq_ofNat_of_zero_le -> zT, mul_le_mul_of_nonneg_left -> zU, tdiv -> zW, tmod_eq_emod_of_nonneg -> zZ, le_of_lt -> ya, gcd -> yg, natAbs_of_nonneg -> yj, mul_ne_zero -> yn, natCast_nonneg -> yp, tdiv_eq_ediv_of_nonneg -> yq, natAbs_mul -> yr, mul_ediv_cancel_left -> yv, tdiv_eq_ediv_of_dvd -> y7, mul_zero -> qc, add_zero -> qd, sign_eq_one_of_pos -> qe, one_mul -> qi, mul_nonneg -> qj, add_assoc -> qm, zero_sub -> qo, gcd_comm -> qp, toNat -> qq
open Go.Pe.Sh renaming list -> zi, bool -> zn, str -> zp, int -> y8, pair -> y9
open List renaming getD_eq_getElem?_getD -> zl, length_cons -> zo, take_of_length_le -> zr, length_append -> zu, length_drop -> zw, length_eq_zero_iff -> zx, drop_eq_nil_of_le -> zz, getElem?_eq_getElem -> zM, getElem?_eq_none -> zX, all_eq_true -> z7, length_singleton -> yc, length_take -> ye, length_map -> yo, mem_cons_self -> yt, all_cons -> yx, take -> yz, headD_cons -> qg, drop -> qk
open Rat renaming divInt -> zm
open Go.Sp renaming rW -> zt, rN -> zy, letter -> zO, AJ -> zY, isName -> yf, mark -> yh, B9 -> yk, first -> yu, vR -> yy, gI -> qn
open Go.Pe.Ad renaming of -> zK
open Go.Lib renaming decDigits -> zL
open Nat renaming le_refl -> zN, add_sub_cancel -> zP, add -> zQ, sub -> zV, pow_le_pow_right -> z6, beq_refl -> qf
open UInt8 renaming ofNat -> yi, toNat_inj -> ym, toNat -> qh
open Go.Pe.T122 renaming Du -> ql
namespace Go.Pe
open Sp
open Go.Det
section
open List Int Prod
namespace T195
def T(a:List Int)(i:Int):Tr:=tree yK false 9 195<|Ae ([zi i64,y8 zR]) (a,i)
theorem Ap(a:List Int)(i:Int):T a i=.di (i<(length a:Int)) (.ck (decide (0<=i)&&decide (i<(length a:Int)))<|.leaf (.dat i64<|getD a (toNat i) 0) []) (.leaf (.dat i64 (0:Int)) []):=by kernel_rfl
end T195
namespace T156
def T(a b:List Int):Tr:=tree TE false 9 156<|Ae ([zi i64,zi i64]) (a,b)
def L1(v0 v1:List Int)(a b:Int):Tr:=re ((T [] []))<|Ax 42 [(0,.dat (zi i64) v0),(1,.dat (zi i64) v1),(5,.nil),(6,.dat i64 a),(7,.dat i64 b)] [] 0
theorem Ap(a b:List Int):T a b=L1 a b 0 0:=by kernel_rfl
def L2(v0 v1:List Int)(a:Nat)(b d:Int)(c:List Int):Tr:=re ((stepT TE<|L1 [] [] 0 0).L.L.L.L.L.L)<|Ax 42 [(0,.dat (zi i64) v0),(1,.dat (zi i64) v1),(5,.sl 0 1 0 a none),(6,.dat i64 b),(7,.dat i64 d)] [(0,.arr false 3 i64 c)] 1
theorem Al(v0 v1:List Int)(b a:Int):stepT TE (L1 v0 v1 b a)=.di (a<(length v0:Int)) (.cd (0<=a)<|.cd (0<=a)<|.ck true<|.ck (decide (1<=1)&&decide (0<1)&&decide ((3*1+2000)*8<=562949953421312))<|.ck true<|L2 v0 v1 1 (zc .i64<|zW (zc .i64<|zc .i64 (Hg v0 a+Hg v1 a)+b) 1000000000) (zc .i64<|a+1)<|[zS (zc .i64<|zc .i64 (Hg v0 a+Hg v1 a)+b) 1000000000]) (.di (a<(length v1:Int)) (.cd (0<=a)<|.cd (0<=a)<|.ck true<|.ck (decide (1<=1)&&decide (0<1)&&decide ((3*1+2000)*8<=562949953421312))<|.ck true<|L2 v0 v1 1 (zc .i64<|zW (zc .i64<|zc .i64 (Hg v0 a+Hg v1 a)+b) 1000000000) (zc .i64<|a+1)<|[zS (zc .i64<|zc .i64 (Hg v0 a+Hg v1 a)+b) 1000000000])<|.di (b>0) (.cd (0<=a)<|.cd (0<=a)<|.ck true<|.ck (decide (1<=1)&&decide (0<1)&&decide ((3*1+2000)*8<=562949953421312))<|.ck true<|L2 v0 v1 1 (zc .i64<|zW (zc .i64<|zc .i64 (Hg v0 a+Hg v1 a)+b) 1000000000) (zc .i64<|a+1)<|[zS (zc .i64<|zc .i64 (Hg v0 a+Hg v1 a)+b) 1000000000])<|.leaf .nil []):=by kernel_rfl
theorem AK(v0 v1:List Int)(b:Nat)(c a:Int)(d:List Int):stepT TE (L2 v0 v1 b c a d)=.di (a<(length v0:Int)) (.cd (0<=a)<|.cd (0<=a)<|.ck true<|.ck (decide (1<=1)&&true&&decide (b=length d)&&decide ((3*(b+1)+2000)*8<=562949953421312))<|.ck true<|L2 v0 v1 (zQ b 1) (zc .i64<|zW (zc .i64<|zc .i64 (Hg v0 a+Hg v1 a)+c) 1000000000) (zc .i64<|a+1)<|d++[zS (zc .i64<|zc .i64 (Hg v0 a+Hg v1 a)+c) 1000000000]) (.di (a<(length v1:Int)) (.cd (0<=a)<|.cd (0<=a)<|.ck true<|.ck (decide (1<=1)&&true&&decide (b=length d)&&decide ((3*(b+1)+2000)*8<=562949953421312))<|.ck true<|L2 v0 v1 (zQ b 1) (zc .i64<|zW (zc .i64<|zc .i64 (Hg v0 a+Hg v1 a)+c) 1000000000) (zc .i64<|a+1)<|d++[zS (zc .i64<|zc .i64 (Hg v0 a+Hg v1 a)+c) 1000000000])<|.di (c>0) (.cd (0<=a)<|.cd (0<=a)<|.ck true<|.ck (decide (1<=1)&&true&&decide (b=length d)&&decide ((3*(b+1)+2000)*8<=562949953421312))<|.ck true<|L2 v0 v1 (zQ b 1) (zc .i64<|zW (zc .i64<|zc .i64 (Hg v0 a+Hg v1 a)+c) 1000000000) (zc .i64<|a+1)<|d++[zS (zc .i64<|zc .i64 (Hg v0 a+Hg v1 a)+c) 1000000000])<|.leaf (.sl 0 1 0 b none)<|[(0,.arr false 3 i64 d)]):=by kernel_rfl
end T156
namespace T158
def T(a b:List Int):Tr:=tree TE false 9 158<|Ae ([zi i64,zi i64]) (a,b)
def L1(v0 v1:List Int)(a b:Int):Tr:=re ((T [] []))<|Ax 35 [(0,.dat (zi i64) v0),(1,.dat (zi i64) v1),(5,.nil),(6,.dat i64 a),(7,.dat i64 b)] [] 0
theorem Ap(a b:List Int):T a b=L1 a b 0 0:=by kernel_rfl
def L2(v0 v1:List Int)(a:Nat)(b d:Int)(c:List Int):Tr:=re ((stepT TE<|L1 [] [] 0 0).L.L.L.L.L)<|Ax 35 [(0,.dat (zi i64) v0),(1,.dat (zi i64) v1),(5,.sl 0 1 0 a none),(6,.dat i64 b),(7,.dat i64 d)] [(0,.arr false 3 i64 c)] 1
theorem Al(v0 v1:List Int)(b a:Int):stepT TE (L1 v0 v1 b a)=.di (a<(length v0:Int)) (.ck (decide (0<=a)&&decide (a<(length v0:Int)))<|.cd (0<=a)<|.di (zc .i64 (zc .i64 (getD v0 (toNat a) 0-Hg v1 a)-b)<0) (.ck (decide (1<=1)&&decide (0<1)&&decide ((3*1+2000)*8<=562949953421312))<|L2 v0 v1 1 1 (zc .i64<|a+1)<|[zc .i64<|zc .i64 (zc .i64 (getD v0 (toNat a) 0-Hg v1 a)-b)+1000000000])<|.ck (decide (1<=1)&&decide (0<1)&&decide ((3*1+2000)*8<=562949953421312))<|L2 v0 v1 1 0 (zc .i64<|a+1)<|[zc .i64<|zc .i64 (getD v0 (toNat a) 0-Hg v1 a)-b]) (.ck true<|.leaf (.dat (zi i64)<|At []) []):=by kernel_rfl
theorem AK(v0 v1:List Int)(a:Nat)(d b:Int)(c:List Int):stepT TE (L2 v0 v1 a d b c)=.di (b<(length v0:Int)) (.ck (decide (0<=b)&&decide (b<(length v0:Int)))<|.cd (0<=b)<|.di (zc .i64 (zc .i64 (getD v0 (toNat b) 0-Hg v1 b)-d)<0) (.ck (decide (1<=1)&&true&&decide (a=length c)&&decide ((3*(a+1)+2000)*8<=562949953421312))<|L2 v0 v1 (zQ a 1) 1 (zc .i64<|b+1)<|c++[zc .i64<|zc .i64 (zc .i64 (getD v0 (toNat b) 0-Hg v1 b)-d)+1000000000])<|.ck (decide (1<=1)&&true&&decide (a=length c)&&decide ((3*(a+1)+2000)*8<=562949953421312))<|L2 v0 v1 (zQ a 1) 0 (zc .i64<|b+1)<|c++[zc .i64<|zc .i64 (getD v0 (toNat b) 0-Hg v1 b)-d]) (.ck (decide (0+a<=length c)&&true&&decide (length (take a c)<=20000))<|.leaf (.dat (zi i64)<|At<|take a c)<|[(0,.arr true 3 i64 c)]):=by kernel_rfl
end T158
namespace T94
def T(a b:Bool×List Int):Tr:=tree vT false 9 94<|Ae ([y9 zn<|zi i64,y9 zn<|zi i64]) (a,b)
theorem Ap(a b:Bool×List Int):T a b=.ite (fst a==fst b) (.ck (eJ (snd a)<|snd b)<|.cd (length (Lf (snd a)<|snd b)<=20000)<|.leaf (PV.agg [.dat zn<|B5 (fst a)<|Lf (snd a)<|snd b,.dat (zi i64)<|At<|Lf (snd a)<|snd b])<|[(zQ (zQ 0 1) 1,.box [.dat zn<|B5 (fst a)<|Lf (snd a)<|snd b,.dat (zi i64)<|At<|Lf (snd a)<|snd b]),(zQ 0 1,.box [.dat zn<|fst b,.dat (zi i64)<|snd b]),(0,.box [.dat zn<|fst a,.dat (zi i64)<|snd a])]) (.ck (AZ (snd a)&&AZ (snd b))<|.di (BY (Ar<|snd a) (Ar<|snd b)>=0) (.ck (eJ (snd a) (snd b)&&decide (Ar (snd b)<=Ar (snd a)))<|.cd (length (F9 (snd a)<|snd b)<=20000)<|.leaf (PV.agg [.dat zn<|B5 (fst a)<|F9 (snd a)<|snd b,.dat (zi i64)<|At<|F9 (snd a)<|snd b])<|[(zQ (zQ 0 1) 1,.box [.dat zn<|B5 (fst a)<|F9 (snd a)<|snd b,.dat (zi i64)<|At<|F9 (snd a)<|snd b]),(zQ 0 1,.box [.dat zn<|fst b,.dat (zi i64)<|snd b]),(0,.box [.dat zn<|fst a,.dat (zi i64)<|snd a])])<|.ck (eJ (snd b) (snd a)&&decide (Ar (snd a)<=Ar (snd b)))<|.cd (length (F9 (snd b)<|snd a)<=20000)<|.leaf (PV.agg [.dat zn<|B5 (fst b)<|F9 (snd b)<|snd a,.dat (zi i64)<|At<|F9 (snd b)<|snd a])<|[(zQ (zQ 0 1) 1,.box [.dat zn<|B5 (fst b)<|F9 (snd b)<|snd a,.dat (zi i64)<|At<|F9 (snd b)<|snd a]),(zQ 0 1,.box [.dat zn<|fst b,.dat (zi i64)<|snd b]),(0,.box [.dat zn<|fst a,.dat (zi i64)<|snd a])]):=by kernel_rfl
end T94
namespace T95
def T(a b:Bool×List Int):Tr:=tree vT false 9 95<|Ae ([y9 zn<|zi i64,y9 zn<|zi i64]) (a,b)
theorem Ap(a b:Bool×List Int):T a b=.ck (Sp.hR (snd a)&&Sp.hR (snd b)) (.cd (length (BL<|Ar (snd a)*Ar (snd b))<=20000)<|.leaf (PV.agg [.dat zn<|B5 (!fst a==fst b)<|BL<|Ar (snd a)*Ar (snd b),.dat (zi i64)<|At<|BL<|Ar (snd a)*Ar (snd b)])<|[(zQ (zQ 0 1) 1,.box [.dat zn<|B5 (!fst a==fst b)<|BL<|Ar (snd a)*Ar (snd b),.dat (zi i64)<|At<|BL<|Ar (snd a)*Ar (snd b)]),(zQ 0 1,.box [.dat zn<|fst b,.dat (zi i64)<|snd b]),(0,.box [.dat zn<|fst a,.dat (zi i64)<|snd a])]):=by kernel_rfl
end T95
namespace T153
def T(a:Bool×List Int):Tr:=tree vT false 9 153<|Ae ([y9 zn<|zi i64]) a
theorem Ap(a:Bool×List Int):T a=.cd (length (snd a)<=20000) (.leaf (PV.agg [.dat zn<|B5 (!fst a)<|snd a,.dat (zi i64)<|At<|snd a])<|[(zQ 0 1,.box [.dat zn<|B5 (!fst a)<|snd a,.dat (zi i64)<|At<|snd a]),(0,.box [.dat zn<|fst a,.dat (zi i64)<|snd a])]):=by kernel_rfl
end T153
namespace T96
def T(a:Bool×List Int):Tr:=tree vQ false 9 96<|Ae ([y9 zn<|zi i64]) a
def L1(v3:Z)(v4:Int)(b:Bool)(a:List Int):Tr:=re ((T (false,[])).R.L.L)<|Ax 39 [(1,.ptr 0 0),(3,.dat zp v3),(4,.dat i64 v4)] [(0,.box [.dat zn b,.dat (zi i64) a])] 1
theorem Ap(a:Bool×List Int):T a=.ite ((↑(length<|snd a):Int)==0) (.leaf (.dat zp [(48:UInt8)])<|[(0,.box [.dat zn<|fst a,.dat (zi i64)<|snd a])]) (.ck (decide (0<=zc .i64 ((↑(length<|snd a):Int)-1))&&decide (zc .i64 ((↑(length<|snd a):Int)-1)<(↑(length<|snd a):Int)))<|.ck (decide (0<=getD (snd a) (toNat<|zc .i64<|(↑(length<|snd a):Int)-1) 0)&&decide (getD (snd a) (toNat<|zc .i64<|(↑(length<|snd a):Int)-1) 0<9223372036854775808)&&decide (0<=1)&&decide (1<=20))<|L1 (Hs (getD (snd a) (toNat<|zc .i64<|(↑(length<|snd a):Int)-1) 0) 1) (zc .i64<|(↑(length<|snd a):Int)-2) (fst a)<|snd a):=by kernel_rfl
theorem Al(v3:Z)(v4:Int)(b:Bool)(a:List Int):stepT vQ (L1 v3 v4 b a)=.di (v4>=0) (.ck (decide (0<=v4)&&decide (v4<(length a:Int)))<|.ck (decide (0<=getD a (toNat v4) 0)&&decide (getD a (toNat v4) 0<9223372036854775808)&&decide (0<=9)&&decide (9<=20))<|.cd (length v3+length (Hs (getD a (toNat v4) 0) 9)<=4611686018427387904)<|L1 (v3++Hs (getD a (toNat v4) 0) 9) (zc .i64<|v4-1) b a) (.ite b (.cd (1+length v3<=4611686018427387904)<|.leaf (.dat zp<|[(45:UInt8)]++v3)<|[(0,.box [.dat zn b,.dat (zi i64) a])])<|.leaf (.dat zp v3)<|[(0,.box [.dat zn b,.dat (zi i64) a])]):=by kernel_rfl
end T96
namespace T93
def T(a b:Bool×List Int):Tr:=tree eG false 9 93<|Ae ([y9 zn<|zi i64,y9 zn<|zi i64]) (a,b)
def L1(o1:Bool)(b:List Int)(c:Bool)(a:List Int):Tr:=re ((T (false,[]) (false,[])).L.L.L)<|Ax 57 [(2,.ptr 0 0),(3,.ptr 1 0)] [(1,.box [.dat zn o1,.dat (zi i64) b]),(0,.box [.dat zn c,.dat (zi i64) a])] 2
theorem Ap(a b:Bool×List Int):T a b=.ite (fst b) (.ck (CB (fst a,snd a))<|.ck (CB (fst b,snd b))<|L1 (QW (fst b,snd b)) (QR (fst b,snd b)) (QW (fst a,snd a))<|QR (fst a,snd a)) (L1 (fst b) (snd b) (fst a)<|snd a):=by kernel_rfl
def L2(b:List Int)(a:Z):Tr:=re ((stepT eG<|L1 false [] false []).L.L.L.L.L)<|Ax 57 [(8,.dat (zi i64) b),(10,.dat zp a)] [] 0
theorem Al(o1:Bool)(b:List Int)(c:Bool)(a:List Int):stepT eG (L1 o1 b c a)=.ck (AZ a&&AZ b&&decide (length a<=9000)&&decide (length b<=9000)) (.ck (AZ a&&AZ (Cd a b)&&decide (length a<=9000)&&decide (length (Cd a b)<=9000)&&decide (0<Ar (Cd a b)))<|.ck (AZ b&&AZ (Cd a b)&&decide (length b<=9000)&&decide (length (Cd a b)<=9000)&&decide (0<Ar (Cd a b)))<|.cd (length (BL<|Ar a/Ar (Cd a b))<=20000)<|.ck (CB (B5 c<|BL<|Ar a/Ar (Cd a b),At<|BL<|Ar a/Ar (Cd a b)))<|L2 (BL<|Ar b/Ar (Cd a b))<|Gd (B5 c<|BL<|Ar a/Ar (Cd a b),At<|BL<|Ar a/Ar (Cd a b))):=by kernel_rfl
def L3(b:List Int)(a:Z):Tr:=re ((stepT eG<|L2 [] []).L.L.R)<|Ax 57 [(8,.dat (zi i64) b),(10,.dat zp a)] [] 0
theorem AK(b:List Int)(a:Z):stepT eG (L2 b a)=.ite ((length b:Int)==1) (.cd (0<(length b:Int))<|.ite (getD b 0 0==1) (.leaf (.dat zp a) [])<|L3 b a) (L3 b a):=by kernel_rfl
theorem BE(b:List Int)(a:Z):stepT eG (L3 b a)=.cd (length a+1<=4611686018427387904) (.cd (length b<=20000)<|.ck (CB (B5 false b,At b))<|.cd (length (a++[(47:UInt8)])+length (Gd (B5 false b,At b))<=4611686018427387904)<|.leaf (.dat zp<|a++[(47:UInt8)]++Gd (B5 false b,At b)) []):=by kernel_rfl
end T93
namespace T40
def T(n d:Int):Tr:=tree Yp false 9 40<|Ae ([y8 zR,y8 zR]) (n,d)
def L1(v0 v1:Int):Tr:=re ((T 0 0).R.R.R.R)<|Ax 61 [(0,.dat i64 v0),(1,.dat i64 v1)] [] 0
theorem Ap(n d:Int):T n d=.di (n<(-4000000000000000000)) (.ck (CC n)<|.ck (CC d)<|.ck (CB (zy n,zt n)&&CB (zy d,zt d)&&decide (yy (zy d,zt d)≠0))<|.leaf (.dat zp<|Ho (zy n,zt n) (zy d,zt d)) []) (.di (n>4000000000000000000) (.ck (CC n)<|.ck (CC d)<|.ck (CB (zy n,zt n)&&CB (zy d,zt d)&&decide (yy (zy d,zt d)≠0))<|.leaf (.dat zp<|Ho (zy n,zt n) (zy d,zt d)) [])<|.di (d<(-4000000000000000000)) (.ck (CC n)<|.ck (CC d)<|.ck (CB (zy n,zt n)&&CB (zy d,zt d)&&decide (yy (zy d,zt d)≠0))<|.leaf (.dat zp<|Ho (zy n,zt n) (zy d,zt d)) [])<|.di (d>4000000000000000000) (.ck (CC n)<|.ck (CC d)<|.ck (CB (zy n,zt n)&&CB (zy d,zt d)&&decide (yy (zy d,zt d)≠0))<|.leaf (.dat zp<|Ho (zy n,zt n) (zy d,zt d)) [])<|L1 n d):=by kernel_rfl
def L2(v0 v1:Int):Tr:=re ((stepT Yp<|L1 0 0).L)<|Ax 61 [(0,.dat i64 v0),(1,.dat i64 v1)] [] 0
theorem Al(v0 v1:Int):stepT Yp (L1 v0 v1)=.di (v1<0) (L2 (zc .i64<|0-v0)<|zc .i64<|0-v1) (L2 v0 v1):=by kernel_rfl
def L3(v0 v1:Int):Tr:=re ((stepT Yp<|L2 0 0).L.L.L)<|Ax 61 [(0,.dat i64 v0),(1,.dat i64 v1)] [] 0
theorem AK(v0 v1:Int):stepT Yp (L2 v0 v1)=.ck (sI (imax v0<|zc .i64<|0-v0) v1) (.cd (qn (imax v0<|zc .i64<|0-v0) v1≠0)<|.cd (qn (imax v0<|zc .i64<|0-v0) v1≠0)<|L3 (zc .i64<|zW v0<|qn (imax v0<|zc .i64<|0-v0) v1)<|zc .i64<|zW v1<|qn (imax v0<|zc .i64<|0-v0) v1):=by kernel_rfl
def L4(v1:Int)(a:Z):Tr:=re ((stepT Yp<|L3 0 0).L.L.L)<|Ax 61 [(1,.dat i64 v1),(6,.dat zp a)] [] 0
theorem BE(v0 v1:Int):stepT Yp (L3 v0 v1)=.di (v0<0) (.ck (decide (0<=imax v0 (zc .i64<|0-v0))&&decide (imax v0 (zc .i64<|0-v0)<9223372036854775808)&&decide (0<=1)&&decide (1<=20))<|.cd (1+length (Hs (imax v0<|zc .i64<|0-v0) 1)<=4611686018427387904)<|L4 v1<|[(45:UInt8)]++Hs (imax v0<|zc .i64<|0-v0) 1) (.ck (decide (0<=imax v0 (zc .i64<|0-v0))&&decide (imax v0 (zc .i64<|0-v0)<9223372036854775808)&&decide (0<=1)&&decide (1<=20))<|.cd (0+length (Hs (imax v0<|zc .i64<|0-v0) 1)<=4611686018427387904)<|L4 v1<|[]++Hs (imax v0<|zc .i64<|0-v0) 1):=by kernel_rfl
theorem Cf(v1:Int)(a:Z):stepT Yp (L4 v1 a)=.di (v1>1) (.cd (length a+1<=4611686018427387904)<|.ck (decide (0<=v1)&&decide (v1<9223372036854775808)&&decide (0<=1)&&decide (1<=20))<|.cd (length (a++[(47:UInt8)])+length (Hs v1 1)<=4611686018427387904)<|.leaf (.dat zp<|a++[(47:UInt8)]++Hs v1 1) []) (.leaf (.dat zp a) []):=by kernel_rfl
end T40
namespace T98
def T(a b:Int):Tr:=tree Mj false 9 98<|Ae ([y8 zR,y8 zR]) (a,b)
def L1(v0 v1:Int):Tr:=re ((T 0 0))<|Ax 12 [(0,.dat i64 v0),(1,.dat i64 v1)] [] 0
theorem Ap(a b:Int):T a b=L1 a b:=by kernel_rfl
theorem Al(v0 v1:Int):stepT Mj (L1 v0 v1)=.di (v1>0) (.cd (v1≠0)<|L1 v1<|zS v0 v1) (.leaf (.dat i64 v0) []):=by kernel_rfl
end T98
namespace T38
def T(s:Z):Tr:=tree Mj false 9 38<|Ae ([zp]) s
theorem Ap(s:Z):T s=let a:Tr:=.leaf (.dat i64 (1:Int)) [];.ite (s==[(48:UInt8)]) (.leaf (.dat i64 (0:Int)) []) (.di ((length s:Int)>0) (.cd (0<(length s:Int))<|.ite ((↑(qh<|getD s 0 (0:UInt8)):Int)==45) (.leaf (.dat i64 (-1:Int)) []) a) a):=by kernel_rfl
end T38
namespace T84
def T(s:Z):Tr:=tree xW false 9 84<|Ae ([zp]) s
theorem Ap(s:Z):T s=let a:=decide (length s<=1000000);.ck a (.di (EP s<0) (.ck (decide (1<=length s)&&decide (length s<=length s))<|.leaf (.dat zp<|take (zV (length s) 1)<|drop 1 s) [])<|.ck a<|.ite (EP s==0) (.leaf (.dat zp s) [])<|.cd (1+length s<=4611686018427387904)<|.leaf (.dat zp<|[(45:UInt8)]++s) []):=by kernel_rfl
end T84
namespace T99
def T(n l:Int):Tr:=tree Mj false 9 99<|Ae ([y8 zR,y8 zR]) (n,l)
def L1(v0 v1:Int)(v5:Z):Tr:=re ((T 0 0))<|Ax 25 [(0,.dat i64 v0),(1,.dat i64 v1),(5,.dat zp v5)] [] 0
theorem Ap(n l:Int):T n l=L1 n l []:=by kernel_rfl
theorem Al(v0 v1:Int)(v5:Z):stepT Mj (L1 v0 v1 v5)=let a:=zc .i64<|zS v0 10+1;let b:=toNat<|zS v0 10;let b':=drop b [(48:UInt8),49,50,51,52,53,54,55,56,57];let c:Tr:=.ck true<|.ck true<|.ck (decide (0<=zS v0 10)&&decide (0<=zc .i64 (zS v0 10+1))&&decide (toNat (zS v0 10)<=toNat a)&&decide (toNat a<=10))<|.cd (length (take (zV (toNat a) b) b')+length v5<=4611686018427387904)<|.ck true<|L1 (zc .i64<|zW v0 10) v1<|take (zV (toNat a) b) b'++v5;.di (v0>0) c (.di ((length v5:Int)<v1) c<|.leaf (.dat zp v5) []):=by kernel_rfl
end T99
namespace T91
def T(s:Z):Tr:=tree Mu false 9 91<|Ae ([zp]) s
def L1(v5:Z)(a:Bool):Tr:=re ((T []).R.L.L)<|Ax 54 [(5,.dat zp v5),(6,.dat zn a)] [] 0
def L2(v5:Z):Tr:=re ((T []).R.R)<|Ax 54 [(5,.dat zp v5),(6,.bl false)] [] 0
theorem Ap(s:Z):T s=let a:=(length s:Int);.di (a>20) (.leaf (.tup [.dat i64 (0:Int),.dat i64 (0:Int),.bl false]) []) (.di (a>0) (.cd (0<a)<|L1 s<|(↑(qh<|getD s 0 (0:UInt8)):Int)==45)<|L2 s):=by kernel_rfl
def L3(v5:Z)(a:Bool):Tr:=re ((stepT Mu<|L1 [] false).L.L)<|Ax 54 [(5,.dat zp v5),(6,.dat zn a)] [] 0
theorem Al(v5:Z)(a:Bool):stepT Mu (L1 v5 a)=.ite a (.ck (decide (1<=length v5)&&decide (length v5<=length v5))<|L3 (take (zV (length v5) 1)<|drop 1 v5) a) (L3 v5 a):=by kernel_rfl
def L4(v5:Z):Tr:=re ((stepT Mu<|L2 []))<|Ax 54 [(5,.dat zp v5),(6,.bl false)] [] 0
theorem AK(v5:Z):stepT Mu (L2 v5)=L4 v5:=by kernel_rfl
def L5(v5:Z)(b:Bool)(c a v9:Int):Tr:=re ((stepT Mu<|L3 [] false).L.R.R.L.L)<|Ax 54 [(5,.dat zp v5),(6,.dat zn b),(7,.dat i64 c),(8,.dat i64 a),(9,.dat i64 v9)] [] 0
theorem BE(v5:Z)(a:Bool):stepT Mu (L3 v5 a)=let b:Tr:=.leaf (.tup [.dat i64 (0:Int),.dat i64 (0:Int),.bl false]) [];let b':=AT v5;.cd (length v5<=1000000) (.di (AT v5>9) b<|.di (zc .i64 ((length v5:Int)-AT v5)>10) b<|.ck (decide (0<=AT v5)&&decide (0<=toNat b')&&decide (toNat b'<=length v5))<|.ck (Dz<|take (toNat b') v5)<|L5 v5 a b' (Bq<|take (toNat b') v5) 1):=by kernel_rfl
def L6(v5:Z)(a b v9:Int):Tr:=re ((stepT Mu<|L4 []).L.R.R.L.L)<|Ax 54 [(5,.dat zp v5),(6,.bl false),(7,.dat i64 a),(8,.dat i64 b),(9,.dat i64 v9)] [] 0
theorem Cf(v5:Z):stepT Mu (L4 v5)=let a:Tr:=.leaf (.tup [.dat i64 (0:Int),.dat i64 (0:Int),.bl false]) [];let b':=AT v5;.cd (length v5<=1000000) (.di (AT v5>9) a<|.di (zc .i64 ((length v5:Int)-AT v5)>10) a<|.ck (decide (0<=AT v5)&&decide (0<=toNat b')&&decide (toNat b'<=length v5))<|.ck (Dz<|take (toNat b') v5)<|L6 v5 b' (Bq<|take (toNat b') v5) 1):=by kernel_rfl
def L7(b:Bool)(a v9:Int):Tr:=re ((stepT Mu<|L5 [] false 0 0 0).L.L.L)<|Ax 54 [(6,.dat zn b),(8,.dat i64 a),(9,.dat i64 v9)] [] 0
theorem DU(v5:Z)(c:Bool)(a b v9:Int):stepT Mu (L5 v5 c a b v9)=let b':=zc .i64<|a+1;let d:=take (zV (length v5)<|toNat b')<|drop (toNat b') v5;.di (a<(length v5:Int)) (.ck (decide (0<=zc .i64 (a+1))&&true&&decide (toNat b'<=length v5)&&decide (length v5<=length v5))<|.ck (Dz d)<|L7 c b<|Bq d) (L7 c b v9):=by kernel_rfl
def L8(a v9:Int):Tr:=re ((stepT Mu<|L6 [] 0 0 0).L.L.L)<|Ax 54 [(6,.bl false),(8,.dat i64 a),(9,.dat i64 v9)] [] 0
theorem Fj(v5:Z)(a b v9:Int):stepT Mu (L6 v5 a b v9)=let b':=zc .i64<|a+1;let c:=take (zV (length v5)<|toNat b')<|drop (toNat b') v5;.di (a<(length v5:Int)) (.ck (decide (0<=zc .i64 (a+1))&&true&&decide (toNat b'<=length v5)&&decide (length v5<=length v5))<|.ck (Dz c)<|L8 b<|Bq c) (L8 b v9):=by kernel_rfl
theorem Dm(b:Bool)(a v9:Int):stepT Mu (L7 b a v9)=.ite b (.leaf (.tup [.dat i64<|zc .i64<|0-a,.dat i64 v9,.bl true]) []) (.leaf (.tup [.dat i64 a,.dat i64 v9,.bl true]) []):=by kernel_rfl
theorem Jb(a v9:Int):stepT Mu (L8 a v9)=.leaf (.tup [.dat i64 a,.dat i64 v9,.bl true]) []:=by kernel_rfl
end T91
namespace T144
def T(a:Z):Tr:=tree Mj false 9 144<|Ae ([zp]) a
theorem Ap(a:Z):T a=let b:Tr:=.ck (decide (1<=length a)&&decide (length a<=length a))<|.leaf (.dat zp<|take (zV (length a) 1)<|drop 1 a) [];let b':Tr:=.ite false b<|.leaf (.dat zp a) [];.ite (a==[(48:UInt8)]) b' (.di ((length a:Int)>0) (.cd (0<(length a:Int))<|.ite ((↑(qh<|getD a 0 (0:UInt8)):Int)==45) (.ite true b<|.leaf (.dat zp a) []) b') b'):=by kernel_rfl
end T144
namespace T145
def T(a:Z):Tr:=tree vX false 9 145<|Ae ([zp]) a
theorem Ap(a:Z):T a=.cd (length a<=1000000) (.ck (decide (0<=AT a)&&decide (0<=toNat (AT a))&&decide (toNat (AT a)<=length a))<|.leaf (.dat zp<|take (toNat<|AT a) a) []):=by kernel_rfl
end T145
namespace T146
def T(a:Z):Tr:=tree vX false 9 146<|Ae ([zp]) a
theorem Ap(a:Z):T a=let b:=zc .i64<|AT a+1;.cd (length a<=1000000) (.ite (AT a==(length a:Int)) (.leaf (.dat zp [(49:UInt8)]) [])<|.ck (decide (0<=zc .i64 (AT a+1))&&true&&decide (toNat b<=length a)&&decide (length a<=length a))<|.leaf (.dat zp<|take (zV (length a)<|toNat b)<|drop (toNat b) a) []):=by kernel_rfl
end T146
end
theorem V5:D3 vX:=Ac T128.ok AP
theorem T144.ok:Ag Bm 144 aO:=by
 refine Cj Er<|fun(a:Z) i=>?_;have i:a.length<=1000000:=w6 i;have b:∀s ob,s=A3 a->Ad aO a (.dat .str s) ob:=fun s ob h=>zK rfl rfl h
 refine zq (T144.Ap a)<|zh (fun c=>zj rfl (zf<|b _ _ ?_))<|fun c=>?_
 ·have c:a=[48]:=by simpa using c
  subst c;rfl
 ·cases a with
  |nil=>exact zj rfl (zj rfl (zf<|b _ _ rfl))
  |cons x r=>
   have f:(x::r).getD 0 0=x:=rfl;have e:(qk 1 (x::r)).take (zV (x::r).length 1)=r:=by show r.take ((r.length+1)-1)=r;rw[zP];exact List.take_length
   rw[f,e];refine zd (by simp) (zd (by simp)<|zh (fun d=>zd rfl (zd (by simp)<|zf<|b _ _ ?_))<|fun d=>zj rfl (zf<|b _ _ ?_))
   ·have g:x=45:=by
     have:(x.toNat:Int)=45:=by simpa using d
     exact ym.1 (by show _=45;omega)
    unfold A3;rw[f,wd g];rfl
   ·have g:x≠45:=by rintro rfl;exact wh d (by decide)
    unfold A3;rw[f,wc g]
theorem T145.ok:Ag Bm 145 mS:=by
 refine Cj V5<|fun(a:Z) hl=>?_;have b:=(ql a).1;refine zq (T145.Ap a)<|zd hl ?_;rw[show AT a=((Ay a).length:Int)from rfl,zg];exact zd (by simp;omega)<|zf<|zK rfl rfl (BC a).1.symm
theorem T146.ok:Ag Bm 146 Yr:=by
 refine Cj V5<|fun(a:Z) hl=>?_;have e:a.length<=1000000:=w6 hl;obtain⟨l,i,f⟩:=BC a;have c:∀s ob,s=UU a->Ad Yr a (.dat .str s) ob:=fun s ob h=>zK rfl rfl h
 have g:=(ql a).1;have es:AT a=((Ay a).length:Int):=rfl;refine zq (T146.Ap a)<|zd hl ?_;rw[es];cases b:Bh a with
 |false=>
  refine zd (by rw[(f b).1];simp)<|zf<|c _ _ ?_;unfold UU;rw[b];rfl
 |true=>
  obtain⟨m,k⟩:=i b;have j:zc .i64 (((Ay a).length:Int)+1)=(((Ay a).length+1:Nat):Int):=by rw[wr _ (by omega)<|by omega];omega
  have d:(a.drop<|(Ay a).length+1).take (zV a.length<|(Ay a).length+1)=a.drop ((Ay a).length+1):=zr (by rw[zw];exact zN _);rw[j,zg,d];refine zj (by simp;omega) (zd (by simp;omega)<|zf<|c _ _ ?_);unfold UU;rw[b,k];rfl
namespace T98
variable {Q:PV->Ob->Prop}
theorem An(g:Nat)(b:∀ob,Q (.dat i64 (g:Int)) ob):∀(f x y:Nat),y<f->Nat.gcd x y=g->Ends Mj (L1 (x:Int) (y:Int)) Q
 |0,x,y,h,_=>by omega
 |f+1,x,y,d,a=>by
  refine zk (Al ..) ?_;conv=>zeta
  by_cases h0:y=0
  ·subst h0;rw[Nat.gcd_zero_right]at a;subst a;exact zj rfl (zf<|b _)
  ·have e:zS (x:Int) (y:Int)=((x % y:Nat):Int):=by rw[zZ<|yp x];rfl
   rw[e];have c:x % y<y:=Nat.mod_lt _ (by omega);exact zd (by simp;omega) (zd (by simp;omega)<|An g b f y (x % y) (by omega)<|by rw[Nat.gcd_comm, <-Nat.gcd_rec,Nat.gcd_comm];exact a)
theorem ok:Ag Bm 98 mK:=by
 refine Cj Er<|fun(i:Int×Int) c=>?_;obtain⟨a,b⟩:=i;have c:(decide (0<=a)&&decide (a<9223372036854775808)&&decide (0<=b)&&decide (b<9223372036854775808))=true:=c;rw[ze,ze,ze,w5,w5,w5,w5]at c;obtain⟨⟨⟨a0,_⟩,b0⟩,_⟩:=c;obtain⟨x,rfl⟩:=zT a0;obtain⟨y,rfl⟩:=zT b0;refine zq (Ap x y)<|An (Nat.gcd x y) (fun ob=>zK rfl rfl ?_) (y+1) x y (Nat.lt_succ_self _) rfl;show((Nat.gcd x y:Nat):Int)=qn (x:Int) (y:Int);rw[HU];rfl
end T98
namespace T38
theorem ok:Ag Bm 38 NJ:=by
 refine Cj Er<|fun(s:Z) hl=>?_;have a:∀v ob,v=EP s->Ad NJ s (.dat i64 v) ob:=fun v ob f=>zK rfl rfl f
 refine zq (Ap s)<|zh (fun c=>zf<|a _ _ ?_)<|fun c=>?_
 ·have c:s=[48]:=by simpa using c
  unfold EP;rw[wd c]
 ·have c:¬s=[48]:=by simpa using c
  cases s with
  |nil=>exact zj rfl (zf<|a _ _ rfl)
  |cons x r=>
   have b:(x::r).getD 0 0=x:=rfl;rw[b];refine zd (by simp) (zd (by simp)<|zh (fun d=>zf<|a _ _ ?_)<|fun d=>zf<|a _ _ ?_)
   ·have e:x=45:=by
     have:(x.toNat:Int)=45:=by simpa using d
     exact ym.1 (by show _=45;omega)
    unfold EP;rw[wc c,b,wd e]
   ·have e:x≠45:=by rintro rfl;exact wh d (by decide)
    unfold EP;rw[wc c,b,wc e]
end T38
theorem kQ:D3 xW:=Ac T38.ok AP
theorem T84.ok:Ag Bm 84 YZ:=by
 refine Cj kQ<|fun(s:Z) b=>?_;have b:s.length<=1000000:=w6 b;have a:∀v ob,v=J4 s->Ad YZ s (.dat .str v) ob:=fun v ob e=>zK rfl rfl e
 refine zq (T84.Ap s)<|zd (w4 b) ?_;unfold J4 at a;unfold EP;by_cases c:s=[48]
 ·rw[wd c];rw[wd c]at a;exact zj rfl (zd (w4 b)<|zd rfl (zf<|a _ _ rfl))
 ·rw[wc c];rw[wc c]at a;by_cases d:s.getD 0 0=45
  ·rw[wd d];rw[wd d]at a;have f:s≠[]:=by rintro rfl;exact wh d (by decide)
   have g:1<=s.length:=List.length_pos_iff.2 f;refine zd rfl (zd (by simp;omega)<|zf<|a _ _ ?_);exact zr (by rw[zw];exact zN _)
  ·rw[wc d];rw[wc d]at a;exact zj rfl (zd (w4 b)<|zj rfl (zd (by simp;omega)<|zf<|a _ _ rfl))
namespace T99
theorem Xs:∀k:Fin 10,yz (zV (k.1+1) k.1) (qk k.1 [(48:UInt8),49,50,51,52,53,54,55,56,57])=[yi<|48+k.1]:=by decide
theorem An{Q:PV->Ob->Prop}(l:Nat)(t:l<=20):∀(f n:Nat) (a:Z),n<9223372036854775808->n<10^f->l<=a.length+f->a.length+f<=64->(∀ob,Q (.dat .str<|He (f+1) n l a) ob)->Ends Mj (L1 (n:Int) (l:Int) a) Q:=by
 intro f;induction f with
 |zero=>
  intro n a q d i h b;have h0:n=0:=by rw[Nat.pow_zero]at d;omega
  subst h0;unfold He at b;rw[wd ⟨rfl,by omega⟩]at b;exact zk (Al ..) (zj rfl (zj (by simp;omega)<|zf<|b _))
 |succ f o=>
  intro n a q d i h b;have m:zS (n:Int) 10=((n % 10:Nat):Int):=by rw[zZ<|yp n];rfl
  have p:zc .i64 (((n % 10:Nat):Int)+1)=((n % 10+1:Nat):Int):=by rw[wr _ (by omega)<|by omega];omega
  have k:zc .i64 (zW (n:Int) 10)=((n/10:Nat):Int):=by rw[yq<|yp n,wr _ (by omega)<|by omega];rfl
  have e:=Xs ⟨n % 10,Nat.mod_lt _<|by decide⟩;have e:yz (zV (n % 10+1)<|n % 10) (qk (n % 10) [(48:UInt8),49,50,51,52,53,54,55,56,57])=[yi<|48+n % 10]:=e;have s:n % 10<10:=Nat.mod_lt _ (by decide);rw[Nat.pow_succ]at d;refine zk (Al ..) ?_;conv=>zeta
  rw[m,p,k,zg,zg,e];by_cases j:n=0/\l<=a.length
  ·obtain⟨r,z2⟩:=j;subst r;unfold He at b;rw[wd ⟨rfl,z2⟩]at b;exact zj rfl (zj (by simp;omega)<|zf<|b _)
  ·have g:∀ob,Q (.dat .str<|He (f+1) (n/10) l (yi (48+n % 10)::a)) ob:=by
    intro ob;have:=b ob;unfold He at this;rw[wc j]at this;exact this
   have go:Ends Mj (L1 ((n/10:Nat):Int) (l:Int)<|[yi<|48+n % 10]++a) Q:=o (n/10) (yi (48+n % 10)::a) (by omega) (by omega) (by rw[zo];omega) (by rw[zo];omega) g;refine zh (fun _=>?_)<|fun c=>zd ?_ ?_
   ·exact zd rfl (zd rfl (zd (by simp;omega)<|zd (by simp;omega)<|zd rfl go))
   ·have c:=w7 c;exact w4 (by omega)
   ·exact zd rfl (zd rfl (zd (by simp;omega)<|zd (by simp;omega)<|zd rfl go))
theorem ok:Ag Bm 99 ON:=by
 refine Cj Er<|fun(i:Int×Int) c=>?_;obtain⟨a,b⟩:=i;have c:(decide (0<=a)&&decide (a<9223372036854775808)&&decide (0<=b)&&decide (b<=20))=true:=c;rw[ze,ze,ze,w5,w5,w5,w5]at c;obtain⟨⟨⟨a0,a1⟩,b0⟩,b1⟩:=c;obtain⟨x,rfl⟩:=zT a0;obtain⟨y,rfl⟩:=zT b0;refine zq (Ap x y) (An y (by omega) 63 x [] (by omega) (by omega) (by show y<=0+63;omega) (by decide)<|fun ob=>zK rfl rfl ?_);show He 64 x y []=He 64 (x:Int).toNat (y:Int).toNat [];rw[zg,zg]
end T99
theorem hH:D3 Mu:=Ac T152.ok<|Ac T128.ok AP
namespace T91
variable {Q:PV->Ob->Prop}
theorem Cc(neg:Bool)(n d:Int)(h0:0<=n)(b:n<1000000000)(a:∀ob,Q (.tup [.dat i64<|if neg=true then -n else n,.dat i64 d,.bl true]) ob):Ends Mu (L7 neg n d) Q:=by
 refine zk (Dm ..) ?_;conv=>zeta
 cases neg with
 |true=>
  refine zd rfl (zf ?_);rw[wr _ (by omega) (by omega),qo];exact a _
 |false=>exact zj rfl (zf<|a _)
theorem Co(s:Z)(neg:Bool)(n:Int)(h0:0<=n)(d:n<1000000000)(m:s.length<=20)(l:(zY s).length<=9)(db:Ai (zY s)=true)(a:∀ob,Q (.tup [.dat i64<|if neg=true then -n else n,.dat i64<|if Bh s=true then AA 0 (zY s)else 1,.bl true]) ob):Ends Mu (L5 s neg (AT s) n 1) Q:=by
 obtain⟨o,k,h⟩:=BC s;refine zk (DU ..) ?_;conv=>zeta
 have es:AT s=((Ay s).length:Int):=rfl;have j:=(ql s).1;cases b:Bh s with
 |true=>
  rw[b]at a;obtain⟨e,c⟩:=k b;have f:zc .i64 (AT s+1)=(((Ay s).length+1:Nat):Int):=by rw[es,wr _ (by omega)<|by omega];omega
  have g:(zY s).length=s.length-((Ay s).length+1):=by rw[c,zw]
  have i:(zY s).take (zV s.length<|(Ay s).length+1)=zY s:=zr (by show _<=s.length-_;omega);rw[f,zg, <-c,i];exact zd (by simp[es];omega) (zd (by simp;omega)<|zd (T149.BT db<|by omega)<|Cc neg n _ h0 d a)
 |false=>
  obtain⟨e,c⟩:=h b;rw[b]at a;exact zj (by simp[es,e])<|Cc neg n 1 h0 d a
theorem CT(s:Z)(neg:Bool)(j:s.length<=20)(d:(Ay s).length<=9)(h:(zY s).length<=9)(b:Ai (Ay s)=true)(db:Ai (zY s)=true)(i:∀n ob,n=AA 0 (Ay s)->Q (.tup [.dat i64<|if neg=true then -n else n,.dat i64<|if Bh s=true then AA 0 (zY s)else 1,.bl true]) ob):Ends Mu (L3 s neg ) Q:=by
 obtain⟨m,l,f⟩:=BC s;have es:AT s=((Ay s).length:Int):=rfl;have k:=(ql s).1;have a:s.length-(Ay s).length<=10:=by
  cases c:Bh s with
  |true=>
   obtain⟨o,e⟩:=l c;have:(zY s).length=s.length-((Ay s).length+1):=by rw[e,zw]
   omega
  |false=>rw[(f c).1];omega
 have g:yz (qq<|AT s) s=Ay s:=by rw[es,zg];exact m.symm
 obtain⟨v0,v1⟩:=T149.Ci b d;refine zk (BE ..) ?_;conv=>zeta
 rw[g];refine zd (by simp;omega) (zj (by simp[es];omega) (zj ?_<|zd (by simp[es];omega)<|zd (T149.BT b<|by omega) ?_))
 ·rw[es,wr _ (by omega)<|by omega];exact w8 (by omega)
 ·exact Co s neg (AA 0<|Ay s) v0 v1 j h db<|fun ob=>i _ ob rfl
theorem GP(n d:Int)(a:∀ob,Q (.tup [.dat i64 n,.dat i64 d,.bl true]) ob):Ends Mu (L8 n d) Q:=by
 refine zk (Jb ..) ?_;conv=>zeta
 exact zf<|a _
theorem Iw(s:Z)(n:Int)(l:s.length<=20)(k:(zY s).length<=9)(db:Ai (zY s)=true)(a:∀ob,Q (.tup [.dat i64 n,.dat i64<|if Bh s=true then AA 0 (zY s)else 1,.bl true]) ob):Ends Mu (L6 s (AT s) n 1) Q:=by
 obtain⟨m,h,e⟩:=BC s;refine zk (Fj ..) ?_;conv=>zeta
 have es:AT s=((Ay s).length:Int):=rfl;have g:=(ql s).1;cases b:Bh s with
 |true=>
  rw[b]at a;obtain⟨d,c⟩:=h b;have i:zc .i64 (AT s+1)=(((Ay s).length+1:Nat):Int):=by rw[es,wr _ (by omega)<|by omega];omega
  have j:(zY s).length=s.length-((Ay s).length+1):=by rw[c,zw]
  have f:(zY s).take (zV s.length<|(Ay s).length+1)=zY s:=zr (by show _<=s.length-_;omega);rw[i,zg, <-c,f];exact zd (by simp[es];omega) (zd (by simp;omega)<|zd (T149.BT db<|by omega)<|GP n _ a)
 |false=>
  obtain⟨d,c⟩:=e b;rw[b]at a;exact zj (by simp[es,d])<|GP n 1 a
theorem BP(s:Z)(j:s.length<=20)(d:(Ay s).length<=9)(h:(zY s).length<=9)(b:Ai (Ay s)=true)(db:Ai (zY s)=true)(i:∀n ob,n=AA 0 (Ay s)->Q (.tup [.dat i64 n,.dat i64<|if Bh s=true then AA 0 (zY s)else 1,.bl true]) ob):Ends Mu (L4 s ) Q:=by
 obtain⟨m,l,f⟩:=BC s;have es:AT s=((Ay s).length:Int):=rfl;have k:=(ql s).1;have a:s.length-(Ay s).length<=10:=by
  cases c:Bh s with
  |true=>
   obtain⟨o,e⟩:=l c;have:(zY s).length=s.length-((Ay s).length+1):=by rw[e,zw]
   omega
  |false=>rw[(f c).1];omega
 have g:yz (qq<|AT s) s=Ay s:=by rw[es,zg];exact m.symm
 obtain⟨v0,v1⟩:=T149.Ci b d;refine zk (Cf ..) ?_;conv=>zeta
 rw[g];refine zd (by simp;omega) (zj (by simp[es];omega)<|zj ?_<|zd (by simp[es];omega)<|zd (T149.BT b<|by omega) ?_)
 ·rw[es,wr _ (by omega)<|by omega];exact w8 (by omega)
 ·exact Iw s (AA 0<|Ay s) j h db<|fun ob=>i _ ob rfl
end T91
end Go.Pe
namespace Go.Sp
theorem Gg(a:List Int)(i:Nat):val B9 (a.drop i)=a.getD i 0+1000000000*val B9 (a.drop<|i+1):=by
 by_cases h:i<a.length
 ·rw[Cm h];rfl
 ·rw[zz (by omega),zz (by omega),show a.getD i 0=0 by rw[zl,zX<|by omega];rfl];rfl
structure E6(a b:List Int)(i:Nat)(o:List Int)(c:Int):Prop where
 len:o.length=i
 d:Av B9 o
 c01:0<=c/\c<=1
 v:val B9 o+(B9:Int)^i*(c+val B9 (a.drop i)+val B9 (b.drop i))=Ar a+Ar b
 top:a.length<=i->b.length<=i->i=0\/(B9:Int)^(i-1)<=val B9 o+(B9:Int)^i*c
theorem E6.start(a b:List Int):E6 a b 0 [] 0:=⟨rfl,(fun x c=>by cases c),by decide,by
 show 0+(B9:Int)^0*(0+val B9 a+val B9 b)=val B9 a+val B9 b;rw[Int.pow_zero,qi];omega,fun _ _=>.inl rfl⟩
theorem Bs{a:List Int}(h:AZ a=true)(i:Nat):0<=a.getD i 0/\a.getD i 0<1000000000:=F6 (Bd h).2.1 i
theorem Rj{a:List Int}(h:AZ a=true){i:Nat}(b:i<a.length)(c:a.length<=i+1):1<=a.getD i 0:=by
 have:=(Go.Pe.Fx (Bd h).2.1 (Bd h).2.2 (k:=i)<|by omega).1;omega
theorem E6.step{a b:List Int}{i:Nat}{o:List Int}{c:Int}(h:E6 a b i o c)(l:AZ a=true)(n:AZ b=true)(g:i<a.length\/i<b.length\/0<c):
  E6 a b (i+1) (o++[(a.getD i 0+b.getD i 0+c) % 1000000000]) ((a.getD i 0+b.getD i 0+c)/1000000000):=by
 obtain⟨s,t⟩:=Bs l i;obtain⟨y0,y1⟩:=Bs n i;obtain⟨c0,c1⟩:=h.c01;have m:=h.v;rw[Gg a i,Gg b i]at m;have j:1<=a.getD i 0+b.getD i 0+c\/¬(a.length<=i+1/\b.length<=i+1):=by
  by_cases k:a.length<=i+1/\b.length<=i+1
  ·refine .inl ?_;rcases g with g|g|g
   ·have:=Rj l g k.1;omega
   ·have:=Rj n g k.2;omega
   ·omega
  ·exact .inr k
 have u:=Az (b:=B9) (by decide) h.d;have r:=AN (b:=B9) (by decide) i;generalize a.getD i 0=x at*;generalize b.getD i 0=y at*;have f:val B9 (o++[(x+y+c) % 1000000000])=val B9 o+(B9:Int)^i*((x+y+c) % 1000000000):=by rw[B4,h.len]
 refine⟨by rw[zu,h.len];rfl,EO h.d (by omega),by omega,?_,fun q p=>.inr ?_⟩
 ·rw[f,I9,qm, <-Int.mul_add, <-m];congr 2;omega
 ·rw[f,I9,qm, <-Int.mul_add,zP];have e:(x+y+c) % 1000000000+1000000000*((x+y+c)/1000000000)=x+y+c:=by omega
  rw[e];rcases j with j|j
  ·have:=zU j<|ya r;rw[Int.mul_one]at this;omega
  ·exact wh ⟨q,p⟩ j
theorem sK{o:List Int}(j:Av B9 o)(h:o=[]\/(B9:Int)^(o.length-1)<=val B9 o):nz o:=by
 rcases h with rfl|h
 ·unfold nz;simp
 ·intro e;have a:o≠[]:=by rintro rfl;simp at e
  have d:o=o.dropLast++[0]:=by
   have f:=(List.dropLast_concat_getLast a).symm;rw[List.getLast?_eq_some_getLast a]at e;rw[Option.some.inj e]at f;exact f
  have i:o.length=o.dropLast.length+1:=by rw[List.length_dropLast];have:=List.length_pos_iff.2 a;omega
  have k:val B9 o=val B9 o.dropLast:=by
   conv=>lhs;rw[d]
   rw[B4,qc,qd]
  have c:Av B9 o.dropLast:=fun x g=>j x (by rw[d];exact List.mem_append_left _ g)
  have:=Bl (b:=B9) (by decide) c;rw[k,i,zP]at h;omega
theorem E6.fin{a b:List Int}{i:Nat}{o:List Int}(h:E6 a b i o 0)(f:a.length<=i)(g:b.length<=i):o=Lf a b:=by
 have c:=h.v;rw[zz f,zz g]at c;have c:val B9 o+(B9:Int)^i*(0+0+0)=Ar a+Ar b:=c;rw[show(0+0+0:Int)=0 from rfl,qc,qd]at c;have e:=h.top f g;rw[qc,qd, <-h.len]at e;have j:nz o:=sK h.d (by
  rcases e with k|k
  ·exact .inl<|zx.1 k
  ·exact .inr k)
 unfold Lf;rw[<-c];exact I3 (b:=B9) (by decide) h.d j
structure FR(a b:List Int)(i:Nat)(o:List Int)(c:Int):Prop where
 len:o.length=i
 d:Av B9 o
 c01:0<=c/\c<=1
 v:val B9 o+(B9:Int)^i*(val B9 (a.drop i)-val B9 (b.drop i)-c)=Ar a-Ar b
theorem FR.start(a b:List Int):FR a b 0 [] 0:=⟨rfl,(fun x c=>by cases c),by decide,by
 show 0+(B9:Int)^0*(val B9 a-val B9 b-0)=val B9 a-val B9 b;rw[Int.pow_zero,qi];omega⟩
theorem FR.step{a b:List Int}{i:Nat}{o:List Int}{c:Int}(h:FR a b i o c)(g:AZ a=true)(j:AZ b=true)(d e:Int)(l:(a.getD i 0-b.getD i 0-c<0/\d=a.getD i 0-b.getD i 0-c+1000000000/\e=1)\/(¬a.getD i 0-b.getD i 0-c<0/\d=a.getD i 0-b.getD i 0-c/\e=0)):
  FR a b (i+1) (o++[d]) e:=by
 obtain⟨k,m⟩:=Bs g i;obtain⟨y0,y1⟩:=Bs j i;obtain⟨c0,c1⟩:=h.c01;have f:=h.v;rw[Gg a i,Gg b i]at f;generalize a.getD i 0=x at*;generalize b.getD i 0=y at*;refine⟨by rw[zu,h.len];rfl,EO h.d (by omega),by omega,?_⟩;rw[B4,h.len,I9,qm, <-Int.mul_add, <-f];congr 2;omega
theorem FR.fin{a b:List Int}{o:List Int}{c:Int}(h:FR a b a.length o c)(l:AZ b=true)(g:Ar b<=Ar a):At o=F9 a b:=by
 have e:=h.v;rw[List.drop_length]at e;have h0:=Az (b:=B9) (by decide)<|Eb (Bd l).2.1 a.length;have f:=Bl (b:=B9) (by decide) h.d;rw[h.len]at f;obtain⟨m,n⟩:=h.c01;have j:=AN (b:=B9) (by decide) a.length;have e:val B9 o+(B9:Int)^a.length*(0-val B9 (b.drop a.length)-c)=Ar a-Ar b:=e;generalize val B9 (b.drop a.length)=z at*;have i:0-z-c=0:=by
  rcases Int.lt_or_le (0-z-c) 0 with k|k
  ·have:=zU (show 0-z-c<= -1 by omega)<|ya j;rw[Int.mul_neg,Int.mul_one]at this;omega
  ·omega
 rw[i,qc,qd]at e;unfold F9;rw[E4 h.d, <-e];rfl
open Go.Lib
theorem TS(n:Int):rN n=decide (n<0):=rfl
theorem Lv(a:Bool×List Int):(a.1=true->vR a= -Ar a.2)/\(a.1=false->vR a=Ar a.2):=by
 unfold vR;exact⟨fun h=>by rw[wd h],fun h=>by rw[wc<|by rw[h];decide]⟩
theorem Oc{neg:Bool}{w:List Int}{n:Int}(c:Av B9 w)(h0:0<=Ar w)(a:neg=true->n= -Ar w)(b:neg=false->n=Ar w):(B5 neg w,At w)=(rN n,rW n):=by
 refine Zl c ?_<|fun d=>?_
 ·rw[Aj];cases neg with
  |true=>have:=a rfl;omega
  |false=>have:=b rfl;omega
 ·rw[TS];cases neg with
  |true=>have:=a rfl;symm;rw[w5];omega
  |false=>have:=b rfl;symm;rw[w9];omega
theorem IC{n:Int}(h:0<=n):Ar (BL n)=n/\Av B9 (BL n):=⟨C1 (b:=B9) (by decide) h,G9 (b:=B9) (by decide) n⟩
theorem XD{a b:Bool×List Int}(d:CB a=true)(e:CB b=true)(h:a.1=b.1):(B5 a.1<|Lf a.2 b.2,At<|Lf a.2 b.2)=(LZ a b,LU a b):=by
 have a0:=(FU d).2;have g:=(FU e).2;obtain⟨f,c⟩:=Lv a;obtain⟨f1,f2⟩:=Lv b;obtain⟨hv,hd⟩:=IC (n:=Ar a.2+Ar b.2) (by omega);refine Oc hd (by show 0<=Ar (BL _);omega) (fun k=>?_)<|fun k=>?_
 ·rw[f k,f1<|by rw[<-h];exact k];show _= -Ar (BL _);omega
 ·rw[c k,f2<|by rw[<-h];exact k];show _=Ar (BL _);omega
theorem VP{a b:Bool×List Int}(c:CB b=true)(h:a.1≠b.1)(f:Ar b.2<=Ar a.2):(B5 a.1<|F9 a.2 b.2,At<|F9 a.2 b.2)=(LZ a b,LU a b):=by
 have g:=(FU c).2;obtain⟨e,d⟩:=Lv a;obtain⟨f1,f2⟩:=Lv b;obtain⟨hv,hd⟩:=IC (n:=Ar a.2-Ar b.2) (by omega);refine Oc hd (by show 0<=Ar (BL _);omega) (fun k=>?_)<|fun k=>?_
 ·rw[e k,f2 (by rw[k]at h;cases c:b.1 with|true=>exact wh c.symm h|false=>rfl)];show _= -Ar (BL _);omega
 ·rw[d k,f1 (by rw[k]at h;cases c:b.1 with|true=>rfl|false=>exact wh c.symm h)];show _=Ar (BL _);omega
theorem kL{a b:Bool×List Int}(d:CB a=true)(h:a.1≠b.1)(c:Ar a.2<=Ar b.2):(B5 b.1<|F9 b.2 a.2,At<|F9 b.2 a.2)=(LZ a b,LU a b):=by
 have:=VP d (fun k=>h k.symm) c;rw[this];unfold LZ LU;rw[Int.add_comm]
theorem Zz{a b:Bool×List Int}(g:CB a=true)(i:CB b=true):(B5 (a.1 !=b.1)<|BL<|Ar a.2*Ar b.2,At<|BL<|Ar a.2*Ar b.2)=(GL a b,Hf a b):=by
 have a0:=(FU g).2;have h:=(FU i).2;obtain⟨f,e⟩:=Lv a;obtain⟨f1,f2⟩:=Lv b;have p0:=qj a0 h;obtain⟨hv,hd⟩:=IC p0;refine Oc hd (by omega) (fun k=>?_)<|fun k=>?_
 ·rw[hv];cases c:a.1<;>cases d:b.1<;>rw[c,d]at k
  ·exact wh k (by decide)
  ·rw[e c,f1 d,Int.mul_neg]
  ·rw[f c,f2 d,Int.neg_mul]
  ·exact wh k (by decide)
 ·rw[hv];cases c:a.1<;>cases d:b.1<;>rw[c,d]at k
  ·rw[e c,f2 d]
  ·exact wh k (by decide)
  ·exact wh k (by decide)
  ·rw[f c,f1 d,Int.neg_mul,Int.mul_neg,Int.neg_neg]
theorem dK{a:Bool×List Int}(b:CB a=true):(B5 (!a.1) a.2,At a.2)=(QW a,QR a):=by
 have a0:=(FU b).2;obtain⟨d,c⟩:=Lv a;refine Oc (Bd (Dd b).1).2.1 a0 (fun k=>?_)<|fun k=>?_
 ·rw[c<|by simpa using k]
 ·rw[d (by simpa using k),Int.neg_neg]
theorem eT{w:List Int}{i:Nat}(a:w.length=i+1):val B9 (w.drop i)=w.getD i 0:=by
 rw[Gg,zz<|by omega];show _+1000000000*0=_;omega
theorem UP{w:List Int}(a:AZ w=true){i:Nat}(b:w.length=i+1):Hs (w.getD i 0) 1=decDigits (val B9<|w.drop i).toNat/\0<val B9 (w.drop i):=by
 have g:=Bs a i;have t:=Rj a (i:=i) (by omega) (by omega);rw[eT b];exact⟨Ny g.1 (by omega),by omega⟩
theorem XE{w:List Int}(a:AZ w=true)(i:Nat)(h0:0<val B9 (w.drop<|i+1)):decDigits (val B9<|w.drop<|i+1).toNat++Hs (w.getD i 0) 9=decDigits (val B9<|w.drop i).toNat/\0<val B9 (w.drop i):=by
 have g:=Bs a i;rw[Gg w i,WU g.1 g.2];generalize val B9 (w.drop<|i+1)=V at*;generalize w.getD i 0=x at*;have h:=Wh 9 V.toNat x.toNat (by decide) (by omega) (by omega);refine⟨?_,by omega⟩;rw[<-h];congr 1;omega
theorem bL{a:Bool×List Int}(d:CB a=true)(c:a.2≠[]):(if a.1=true then 45::decDigits (Ar a.2).toNat else decDigits (Ar a.2).toNat)=Gd a:=by
 obtain⟨f,e⟩:=Lv a;have h0:0<Ar a.2:=Ik (b:=B9) (by decide) (Bd (Dd d).1).2.1 (Bd (Dd d).1).2.2 c;unfold Gd Cu itoa;by_cases h:a.1=true
 ·rw[wd h,f h,wd (by omega),show(-Ar a.2).natAbs=(Ar a.2).toNat by omega]
 ·have h:a.1=false:=by simpa using h
  rw[wc (by rw[h];decide),e h,wc<|by omega]
theorem cU{a:Bool×List Int}(h:a.2=[]):[48]=Gd a:=by
 have:vR a=0:=by
  unfold vR;rw[h];split<;>rfl
 unfold Gd Cu itoa;rw[this,wc (by decide),show(0:Int).toNat=0 from rfl,decDigits_one<|by decide];rfl
theorem G1{N D:Int}(b:0<D):0<gI (Af N) D/\Af N/gI (Af N) D=Af (zm N D).num/\D/gI (Af N) D=((zm N D).den:Int)/\(N<0↔(zm N D).num<0):=by
 have i:D.sign=1:=qe b;have l:(zm N D).num=N/(yg N D:Int):=by rw[Rat.num_divInt,i,qi,qp]
 have e:((zm N D).den:Int)=D/(yg N D:Int):=by
  rw[Rat.den_divInt,wc<|Int.ne_of_gt b,qp,Int.natCast_ediv];rw[yj<|ya b]
 have f:gI (Af N) D=(yg N D:Int):=by rw[HU,Aj];rfl
 have a:0<yg N D:=Int.gcd_pos_of_ne_zero_right _ (by omega);obtain⟨k,d⟩:(yg N D:Int)∣N:=Int.gcd_dvd_left ..;rw[f,l,e];have a:(0:Int)<(yg N D:Int):=by omega
 generalize (yg N D:Int)=g at*;have c:N/g=k:=by rw[d,yv _<|by omega]
 have j:Af N/g=Af k:=by
  rw[Aj,Aj,d,yr,Int.natCast_mul,show((g.natAbs:Nat):Int)=g by omega,yv _<|by omega]
 refine⟨a,by rw[c,j],rfl,?_⟩;rw[c];constructor
 ·intro h;rcases Int.lt_or_le k 0 with x|x
  ·exact x
  ·have:=qj (ya a) x;omega
 ·intro h;have:=Int.mul_neg_of_pos_of_neg a h;omega
theorem dN{N D:Int}(d:0<D){neg:Bool}(b:neg=rN N):(B5 neg<|BL<|Af N/gI (Af N) D,At<|BL<|Af N/gI (Af N) D)=(rN (zm N D).num,rW (zm N D).num):=by
 obtain⟨_,a,_,c⟩:=G1 (N:=N) d;rw[a];have a0:=Mp (zm N D).num;obtain⟨hv,hd⟩:=IC a0;refine Zl hd hv<|fun _=>?_;rw[b,TS,TS,decide_eq_decide];exact c
theorem fF{n:Int}(h0:0<=n):BL n=[1]↔n=1:=by
 constructor
 ·intro h;have:=(IC h0).1;rw[h]at this;exact this.symm
 ·rintro rfl;rfl
theorem Pv{N D:Int}:CS N D=if (zm N D).den=1 then Cu (zm N D).num else Cu (zm N D).num++47::Cu ((zm N D).den:Int):=by
 unfold CS Bi;split
 ·rfl
 ·rw[show Cu ((zm N D).den:Int)=decDigits (zm N D).den from Lib.itoa_nonneg _];rfl
theorem Tn(N D:Int):CS (-N) (-D)=CS N D:=by
 unfold CS;rw[Rat.neg_divInt_neg]
theorem Nb{s:Z}(h:CA s=true):A0 s=Hz s/\AE s=Ql s/\Ai (Ay<|A3 s)=true/\Ai (AJ<|A3 s)=true:=by
 obtain⟨t,_⟩:=JJ h;obtain⟨c1,c2,c3⟩:=HO<|A2 s;obtain⟨p1,p2,p3,p4⟩:=VH s;obtain⟨i1,i2,i3,i4⟩:=Fi (A2 s).num;rw[t]at c1 c2 c3;have b:Ai (AJ s)=true:=by
  rw[c2];split
  ·rfl
  ·exact DS _
 refine⟨?_,?_,?_,?_⟩
 ·unfold A0 Hz Cb;rw[p1, <-p4];unfold A3 preB;by_cases a:(Ay s).getD 0 0=45
  ·rw[wd a,wd a,wd<|w4 a]
  ·rw[wc a,wc a,wc<|by rw[w8 a];decide]
 ·unfold AE Ql Cb;rw[p2,p3,wc<|EZ b]
 ·rw[p1,c1,i2];exact DS _
 ·rw[p2];exact b
theorem FE{s:Z}(h:CA s=true)(a:DA s=true):YN s=A0 s/\S1 s=AE s/\ -1000000000<A0 s/\A0 s<1000000000/\0<AE s/\AE s<1000000000:=by
 obtain⟨b,c,f,e⟩:=Nb h;have g:0<AE s:=by
  have:=(Em h).2.2.2.2.2.1;have:=(A2 s).den_pos;omega
 unfold YN S1;rw[wd a,wd a];unfold DA at a;rw[ze,ze,w5,w5,w5]at a;obtain⟨⟨_,i⟩,d⟩:=a;have j:=A6 f;have l:=A6 e;have m:(10:Int)^(Ay<|A3 s).length<=10^9:=AM (by decide) i;have k:(10:Int)^(AJ<|A3 s).length<=10^9:=AM (by decide) d;refine⟨b.symm,c.symm,?_,?_,g,?_⟩
 ·rw[b];unfold Hz;split<;>omega
 ·rw[b];unfold Hz;split<;>omega
 ·rw[c];unfold Ql;split<;>omega
theorem Yg{a b:Z}(d:CA a=true)(g:CA b=true):Ta a b=CS (A0 a*AE b+AE a*A0 b) (AE a*AE b)/\Ta a b=CS (A0 a*AE b+A0 b*AE a) (AE a*AE b):=by
 have f:AE a≠0:=by
  have:=(Em d).2.2.2.2.2.1;have:=(A2 a).den_pos;omega
 have c:AE b≠0:=by
  have:=(Em g).2.2.2.2.2.1;have:=(A2 b).den_pos;omega
 have e:Ta a b=CS (A0 a*AE b+A0 b*AE a) (AE a*AE b):=by
  unfold Ta CS A2;rw[Rat.divInt_add_divInt _ _ f c]
 exact⟨by rw[e,Int.mul_comm (AE a)<|A0 b],e⟩
theorem Xc{a b:Z}:nU a b=CS (A0 a*A0 b) (AE a*AE b):=by
 unfold nU CS A2;rw[Rat.divInt_mul_divInt]
theorem XW{a:Z}:fR a=CS (AE a) (A0 a):=by
 unfold fR CS A2;rw[Rat.inv_divInt]
end Go.Sp
namespace Go.Sp
theorem Sq:∀(f n l:Nat) (a:Z),(He f n l a).length<=a.length+f
 |0,_,_,a=>zN _
 |f+1,n,l,a=>by
  unfold He;split
  ·omega
  ·have:=Sq f (n/10) l (yi (48+n % 10)::a);rw[zo]at this;omega
theorem Oj(n l:Int):(Hs n l).length<=64:=by
 have:=Sq 64 n.toNat l.toNat [];rw[List.length_nil,Nat.zero_add]at this;exact this
theorem Tv{v:Int}{k:Nat}(h:v<(B9:Int)^k)(b:1<=k):(zL v.toNat).length<=9*k:=by
 rw[U2]at h;have a:((10^(9*k):Nat):Int)=(10:Int)^(9*k):=Int.natCast_pow ..;rw[<-a]at h;refine Jy (k:=9*k) ?_ (by omega);have c:0<10^(9*k):=Nat.pow_pos (by decide);generalize 10^(9*k)=P at*;omega
end Go.Sp
namespace Go.Pe
open Sp
open Go.Det
theorem pP{s:Sh}(f:s.sz=1){id n:Nat}{tail:Ob}{fz:Bool}{t:TypeId}{o:List s.T}(e:n=o.length):E7 ⟨0,.leaf,(id,.arr fz t s o)::tail,0⟩ (.list s) (.sl id 1 0 n none)=some (true,o):=by
 subst e;have a:AH ((id,Obj.arr fz t s o)::tail) id=some (.arr fz t s o):=by unfold AH;rw[qf];rfl
 unfold E7;have b:Dv ⟨0,.leaf,(id,.arr fz t s o)::tail,0⟩ (PV.cells<|.sl id 1 0 o.length none)=some (true,[.dat (.list s) o]):=by
  show(match BM ⟨0,.leaf,(id,.arr fz t s o)::tail,0⟩ (.sl id 1 0 o.length none),some (true,[])with|some (c,x),some (d,xs)=>some (c&&d,x::xs)|_,_=>none)=_;have:BM ⟨0,.leaf,(id,.arr fz t s o)::tail,0⟩ (.sl id 1 0 o.length none)=some (true,.dat (.list s) o):=by
   unfold BM AG.obj;simp only[a,f,qf,we];simp
  rw[this];rfl
 simp only[Kk,Sh.O5];show(match Dv ⟨0,.leaf,(id,.arr fz t s o)::tail,0⟩ (PV.cells<|.sl id 1 0 o.length none)with|some (c,cs)=>_|none=>none)=_;rw[b];have:CP (.list s) [PV.dat (.list s) o]=some o:=by
  unfold CP B7 lN Dr;simp
 simp only[Ot,this,z8]
theorem gB{s:Sh}(b:s.sz=1){id n:Nat}{tail:Ob}{fz:Bool}{t:TypeId}{o:List s.T}(a:n=o.length):NP [.list s] (.sl id 1 0 n none) ((id,.arr fz t s o)::tail)=some (true,o):=pP b a
theorem GM(a:List Int)(i:Nat):Hg a (i:Int)=a.getD i 0:=by unfold Hg;rw[zg]
theorem gU:D3 yK:=fun g sp h=>by cases h
theorem T195.ok:Ag Bm 195 U3:=by
 refine Cj gU<|fun(i:List Int×Int) hi=>?_;obtain⟨a,i⟩:=i;have h0:0<=i:=w6 hi;have b:∀v ob,v=Hg a i->Ad U3 (a,i) (.dat i64 v) ob:=fun v ob h=>zK rfl rfl h
 refine zq (T195.Ap a i)<|zh (fun c=>zd (Aa (w4 h0) c)<|zf<|b _ _ rfl)<|fun c=>zf<|b _ _ ?_;have c:=w7 c;unfold Hg;rw[zl,zX<|by omega];rfl
theorem Wc:D3 TE:=Ac T195.ok<|Ac T193.ok AP
theorem PJ{x y c:Int}(b:0<=x/\x<1000000000)(d:0<=y/\y<1000000000)(a:0<=c/\c<=1):
  zc .i64 (zc .i64 (x+y)+c)=x+y+c/\zS (x+y+c) 1000000000=(x+y+c) % 1000000000/\zc .i64 (zW (x+y+c) 1000000000)=(x+y+c)/1000000000:=by
 refine⟨?_,zZ (by omega),?_⟩
 ·rw[wr (x+y) (by omega)<|by omega];exact wr _ (by omega) (by omega)
 ·rw[yq<|by omega];exact wr _ (by omega) (by omega)
theorem Zu{a b:List Int}(h:eJ a b=true):AZ a=true/\AZ b=true/\a.length<=9000/\b.length<=9000:=by
 unfold eJ at h;rw[ze,ze,ze,w5,w5]at h;exact⟨h.1.1.1,h.1.1.2,h.1.2,h.2⟩
theorem Ys{a b:List Int}(c:AZ a=true)(f:AZ b=true)(e:a.length<=9000)(d:b.length<=9000):eJ a b=true:=by
 unfold eJ;rw[c,f,w4 e,w4 d];rfl
namespace T156
variable {Q:PV->Ob->Prop}
theorem done(a b o:List Int)(i:Nat)(d:a.length<=i)(e:b.length<=i)(c:Q (.sl 0 1 0 o.length none) [(0,.arr false 3 (.int .i64) o)]):Ends TE (L2 a b o.length 0 i o) Q:=
 zk (AK ..) (zj (w8<|by omega)<|zj (w8<|by omega)<|zj (by decide)<|zf c)
theorem AV(a b:List Int)(f:AZ a=true)(j:AZ b=true)(x:a.length<=9000)(y:b.length<=9000)(v:Q (.sl 0 1 0 (Lf a b).length none) [(0,.arr false 3 (.int .i64)<|Lf a b)]):∀(k i:Nat) (o:List Int) (c:Int),i+k=max a.length b.length->E6 a b i o c->Ends TE (L2 a b o.length c i o) Q:=by
 have d:∀(i:Nat) (o:List Int),a.length<=i->b.length<=i->E6 a b i o 0->Ends TE (L2 a b o.length 0 i o) Q:=fun i o n e h=>by
  have:=h.fin n e;exact done a b o i n e (by rw[this];exact v)
 have next:∀(i:Nat) (o:List Int) (c:Int),i<=9000->E6 a b i o c->(i<a.length\/i<b.length\/0<c->Ends TE (L2 a b (o++[(a.getD i 0+b.getD i 0+c) % 1000000000]).length ((a.getD i 0+b.getD i 0+c)/1000000000) ((i+1:Nat):Int)<|o++[(a.getD i 0+b.getD i 0+c) % 1000000000]) Q)->Ends TE (L2 a b o.length c i o) Q:=fun i o c s h go=>by
  obtain⟨s1,s2,s3⟩:=PJ (Bs f i) (Bs j i) h.c01;have g:zc .i64 ((i:Int)+1)=((i+1:Nat):Int):=by rw[wr _ (by omega)<|by omega];omega
  have z:=h.len;have cap:(decide ((1:Nat)<=(1:Nat))&&true&&decide (o.length=o.length)&&decide ((3*(o.length+1)+2000)*8<=562949953421312))=true:=by
   rw[w4<|zN 1,w4 (p:=o.length=o.length) rfl,yw,z8];exact w4 (by omega)
  have h0:decide ((0:Int)<=(i:Int))=true:=w4 (by omega);rw[zu]at go;by_cases m:(i:Int)<(a.length:Int)
  ·refine zk (AK ..) ?_;conv=>zeta
   rw[GM,GM,s1,s2,s3,g];exact zd (w4 m) (zd h0<|zd h0<|zd rfl (zd cap<|zd rfl (go<|.inl<|by omega)))
  ·by_cases r:(i:Int)<(b.length:Int)
   ·refine zk (AK ..) ?_;conv=>zeta
    rw[GM,GM,s1,s2,s3,g];exact zj (w8 m) (zd (w4 r) (zd h0<|zd h0<|zd rfl (zd cap<|zd rfl (go<|.inr<|.inl<|by omega))))
   ·by_cases q:c>0
    ·refine zk (AK ..) ?_;conv=>zeta
     rw[GM,GM,s1,s2,s3,g];exact zj (w8 m)<|zj (w8 r)<|zd (w4 q)<|zd h0<|zd h0<|zd rfl (zd cap<|zd rfl (go<|.inr<|.inr q))
    ·obtain rfl:c=0:=by have:=h.c01;omega
     exact d i o (by omega) (by omega) h
 intro k;induction k with
 |zero=>
  intro i o c s h;refine next i o c (by omega) h (fun l=>?_);have e:=h.step f j l;have w:a.getD i 0=0:=by rw[zl,zX<|by omega];rfl
  have z2:b.getD i 0=0:=by rw[zl,zX<|by omega];rfl
  have t:=h.c01;have z3:(a.getD i 0+b.getD i 0+c)/1000000000=0:=by rw[w,z2];omega
  rw[z3]at e ⊢;exact d (i+1) _ (by omega) (by omega) e
 |succ k u=>
  intro i o c s h;exact next i o c (by omega) h (fun l=>u (i+1) _ _ (by omega)<|h.step f j l)
theorem ok:Ag Bm 156 UG:=by
 refine Cj Wc<|fun(i:List Int×List Int) hi=>?_;obtain⟨a,b⟩:=i;obtain⟨ha,hb,la,lb⟩:=Zu hi;obtain⟨s1,s2,s3⟩:=PJ (Bs ha 0) (Bs hb 0) (c:=0) (by decide);have h0:=E6.start a b;have l:(0:Int)=((0:Nat):Int):=rfl;have go:(0<a.length\/0<b.length)->Ends TE (L2 a b 1 ((a.getD 0 0+b.getD 0 0+0)/1000000000) ((1:Nat):Int) [(a.getD 0 0+b.getD 0 0+0) % 1000000000]) (Ad UG (a,b)):=fun g=>
  AV a b ha hb la lb (zK (gB rfl rfl) rfl rfl) (max a.length b.length-1) 1 _ _ (by omega) (h0.step ha hb<|by rcases g with h|h<;>omega)
 refine zq (Ap a b)<|zk (Al ..) ?_;have j:Hg a 0=a.getD 0 0:=rfl;have f:Hg b 0=b.getD 0 0:=rfl;have k:zc .i64 ((0:Int)+1)=((1:Nat):Int):=rfl;rw[j,f,s1,s2,s3,k];refine zh (fun c=>?_)<|fun e=>zh (fun c=>?_)<|fun d=>zj rfl (zf<|zK (y:=[]) rfl rfl ?_)
 ·exact zd rfl (zd rfl (zd rfl (zd rfl (zd rfl (go<|.inl (by have:=w6 c;omega))))))
 ·exact zd rfl (zd rfl (zd rfl (zd rfl (zd rfl (go<|.inr (by have:=w6 c;omega))))))
 ·have e:=w7 e;have d:=w7 d;exact h0.fin (by omega) (by omega)
end T156
namespace T158
variable {Q:PV->Ob->Prop}
theorem Gu{x y c:Int}(b:0<=x/\x<1000000000)(d:0<=y/\y<1000000000)(a:0<=c/\c<=1):
  zc .i64 (zc .i64 (x-y)-c)=x-y-c/\zc .i64 (x-y-c+1000000000)=x-y-c+1000000000:=by
 refine⟨?_,wr _ (by omega)<|by omega⟩;rw[wr (x-y) (by omega)<|by omega];exact wr _ (by omega) (by omega)
theorem AV(a b:List Int)(g:AZ a=true)(f:AZ b=true)(m:a.length<=9000)(e:Ar b<=Ar a)(j:∀ob,Q (.dat li<|F9 a b) ob):∀(k i:Nat) (o:List Int) (c:Int),i+k=a.length->FR a b i o c->Ends TE (L2 a b o.length c i o) Q
 |0,i,o,c,l,h=>by
  have l:i=a.length:=by omega
  subst l;have q:=h.len;refine zk (AK ..) (zj (w8<|by omega) ?_);rw[zr<|zN _];refine zd (Aa (Aa (w4<|by omega) rfl)<|w4<|by omega)<|zf ?_;rw[h.fin f e];exact j _
 |k+1,i,o,c,l,h=>by
  obtain⟨s1,s2⟩:=Gu (Bs g i) (Bs f i) h.c01;have n:zc .i64 ((i:Int)+1)=((i+1:Nat):Int):=by rw[wr _ (by omega)<|by omega];omega
  have q:=h.len;have cap:(decide ((1:Nat)<=(1:Nat))&&true&&decide (o.length=o.length)&&decide ((3*(o.length+1)+2000)*8<=562949953421312))=true:=by
   rw[w4<|zN 1,w4 (p:=o.length=o.length) rfl,yw,z8];exact w4 (by omega)
  refine zk (AK ..) ?_;conv=>zeta
  rw[GM,zg,s1,s2,n];refine zd (w4<|by omega) (zd (Aa (w4<|by omega)<|w4<|by omega)<|zd (w4<|by omega)<|zh (fun d=>zd cap ?_)<|fun d=>zd cap ?_)
  ·have:=AV a b g f m e j k (i+1) _ _ (by omega)<|h.step g f _ 1<|.inl ⟨w6 d,rfl,rfl⟩;rw[zu]at this;exact this
  ·have:=AV a b g f m e j k (i+1) _ _ (by omega)<|h.step g f _ 0<|.inr ⟨w7 d,rfl,rfl⟩;rw[zu]at this;exact this
theorem ok:Ag Bm 158 U9:=by
 refine Cj Wc<|fun(i:List Int×List Int) e=>?_;obtain⟨a,b⟩:=i;have e:(eJ a b&&decide (Ar b<=Ar a))=true:=e;rw[ze,w5]at e;obtain⟨e,hle⟩:=e;obtain⟨ha,hb,la,lb⟩:=Zu e;have h0:=FR.start a b;have f:∀ob,Ad U9 (a,b) (.dat li<|F9 a b) ob:=fun ob=>zK rfl rfl rfl
 refine zq (Ap a b)<|zk (Al ..) ?_;obtain⟨s1,s2⟩:=Gu (Bs ha 0) (Bs hb 0) (c:=0) (by decide);have h:Hg b 0=b.getD 0 0:=rfl;have j:zc .i64 ((0:Int)+1)=((1:Nat):Int):=rfl;rw[h,show qq 0=0 from rfl,s1,s2,j];refine zh (fun c=>?_)<|fun c=>?_
 ·have k:=w6 c;refine zd (Aa rfl c)<|zd rfl (zh (fun d=>zd rfl ?_)<|fun d=>zd rfl ?_)
  ·exact AV a b ha hb la hle f (a.length-1) 1 _ _ (by omega)<|h0.step ha hb _ 1<|.inl ⟨w6 d,rfl,rfl⟩
  ·exact AV a b ha hb la hle f (a.length-1) 1 _ _ (by omega)<|h0.step ha hb _ 0<|.inr ⟨w7 d,rfl,rfl⟩
 ·have c:=w7 c;have g:a=[]:=zx.1 (by omega);subst g;refine zd rfl (zf ?_);rw[FR.fin h0 hb hle];exact f _
end T158
theorem Q4:D3 vT:=Ac T155.ok<|Ac T156.ok<|Ac T157.ok<|Ac T158.ok<|Ac T159.ok<|Ac T154.ok AP
theorem JK{n:Int}{k:Nat}(h0:0<=n)(h:n<(yk:Int)^k):(BL n).length<=k:=My h0 h
theorem KK{a:Bool×List Int}(h:CB a=true):0<=Ar a.2/\Ar a.2<(yk:Int)^3000:=by
 obtain⟨c,d,_⟩:=Dd h;refine⟨(FU h).2,Int.lt_of_lt_of_le (Bl (b:=yk) (by decide) (Bd c).2.1)<|AM (by decide) d⟩
theorem Ud{x y:Int}{k:Nat}(a:x<(yk:Int)^k)(d:y<(yk:Int)^k):x+y<(yk:Int)^(k+1):=by
 have:(yk:Int)^(k+1)=(yk:Int)^k*1000000000:=Int.pow_succ ..;have c:=AN (b:=(yk:Int)) (by decide) k;rw[this];omega
theorem T94.ok:Ag Bm 94 Z2:=by
 refine Cj Q4<|fun(i:(Bool×List Int)×(Bool×List Int)) f=>?_;obtain⟨a,b⟩:=i;have f:(CB a&&CB b)=true:=f;rw[ze]at f;obtain⟨ha,hb⟩:=f;obtain⟨a1,a2,_⟩:=Dd ha;obtain⟨b1,b2,_⟩:=Dd hb;obtain⟨va,wa⟩:=KK ha;obtain⟨vb,wb⟩:=KK hb;have pl:=Ys a1 b1 (by omega) (by omega);have g:=Ys b1 a1 (by omega) (by omega);refine zq (T94.Ap a b)<|zh (fun c=>?_)<|fun c=>zd (Aa a1 b1)<|zh (fun d=>?_)<|fun d=>?_
 ·have h:(Lf a.2 b.2).length<=3001:=JK (by omega)<|Ud wa wb;exact zd pl (zd (w4<|by omega)<|zf<|zK rfl rfl (XD ha hb<|by simpa using c))
 ·have e:Ar b.2<=Ar a.2:=by
   have d:=w6 d;unfold BY at d;split at d
   ·omega
   ·omega
  have h:(F9 a.2 b.2).length<=3000:=JK (by omega) (by omega);exact zd (Aa pl<|w4 e) (zd (w4<|by omega)<|zf (zK rfl rfl (VP hb (by simpa using c) e)))
 ·have e:Ar a.2<=Ar b.2:=by
   have d:=w7 d;unfold BY at d;split at d
   ·omega
   ·split at d<;>omega
  have h:(F9 b.2 a.2).length<=3000:=JK (by omega) (by omega);exact zd (Aa g<|w4 e) (zd (w4<|by omega)<|zf<|zK rfl rfl (kL ha (by simpa using c) e))
theorem T95.ok:Ag Bm 95 Vz:=by
 refine Cj Q4<|fun(i:(Bool×List Int)×(Bool×List Int)) c=>?_;obtain⟨a,b⟩:=i;have c:(CB a&&CB b)=true:=c;rw[ze]at c;obtain⟨ha,hb⟩:=c;obtain⟨a1,a2,_⟩:=Dd ha;obtain⟨b1,b2,_⟩:=Dd hb;obtain⟨va,wa⟩:=KK ha;obtain⟨vb,wb⟩:=KK hb;have d:Ar a.2*Ar b.2<(yk:Int)^(3000+3000):=by
  rw[Int.pow_add];have e:(0:Int)<(yk:Int)^3000:=AN (by decide) 3000;exact Int.lt_of_le_of_lt (zU (ya wb) va)<|Int.mul_lt_mul_of_pos_right wa e
 have f:=JK (qj va vb) d;exact zq (T95.Ap a b) (zd (Aa (Qc (by omega) (Bd a1).2.1)<|Qc (by omega) (Bd b1).2.1) (zd (w4<|by omega)<|zf<|zK rfl rfl (Zz ha hb)))
theorem T153.ok:Ag Bm 153 Wo:=by
 refine Cj Q4<|fun(a:Bool×List Int) b=>?_;have b:CB a=true:=b;have:=(Dd b).2.1;exact zq (T153.Ap a) (zd (w4<|by omega)<|zf<|zK rfl rfl (dK b))
theorem eW:D3 vQ:=Ac T99.ok AP
namespace T96
variable {Q:PV->Ob->Prop}
theorem An(neg:Bool)(w:List Int)(f:AZ w=true)(n:w.length<=3000)(d:∀ob,Q (.dat .str (if neg=true then 45::zL (Ar w).toNat else zL (Ar w).toNat)) ob):∀(i:Nat),i<=w.length->0<Sp.val yk (w.drop i)->Ends vQ (L1 (zL (Sp.val yk<|w.drop i).toNat) ((i:Int)-1) neg w) Q:=by
 have a:∀i,(zL (Sp.val yk<|w.drop i).toNat).length<=27000:=fun i=>by
  have h:=Bl (b:=yk) (by decide)<|Eb (Bd f).2.1 i;have j:(yk:Int)^(w.drop i).length<=(yk:Int)^3000:=AM (by decide) (by rw[zw];omega);exact Tv (k:=3000) (Int.lt_of_lt_of_le h j) (by decide)
 intro i;induction i with
 |zero=>
  intro _ _;have e:=a 0;rw[List.drop_zero]at e ⊢;have e:(zL (Ar w).toNat).length<=27000:=e;refine zk (Al ..) (zj (by decide) (zh (fun c=>zd (w4<|by show 1+(zL (Ar w).toNat).length<=_;omega)<|zf ?_)<|fun c=>zf ?_))
  ·rw[wd c]at d;exact d _
  ·rw[wc<|by rw[c];decide]at d;exact d _
 |succ i m=>
  intro p h0;have g:=Bs f i;have l:(((i+1:Nat):Int)-1)=(i:Int):=by omega
  have e:=a<|i+1;have o:(Hs (w.getD i 0) 9).length<=64:=by
   have:=Oj (w.getD i 0) 9;exact this
  obtain⟨s1,s2⟩:=XE f i h0;rw[l];refine zk (Al ..) ?_;conv=>zeta
  rw[zg,s1,wr ((i:Int)-1) (by omega)<|by omega];exact zd (w4<|by omega) (zd (Aa (w4<|by omega)<|w4<|by omega) (zd (Aa (Aa (Aa (w4 g.1)<|w4<|by omega) rfl) rfl)<|zd (w4<|by omega)<|m (by omega) s2))
theorem ok:Ag Bm 96 Vb:=by
 refine Cj eW<|fun(a:Bool×List Int) b=>?_;have b:CB a=true:=b;obtain⟨a1,a2,_⟩:=Dd b;refine zq (Ap a)<|zh (fun c=>zf<|zK rfl rfl (cU ?_))<|fun c=>?_
 ·exact zx.1 (by have:(a.2.length:Int)=0:=(by simpa using c);omega)
 ·have c:(a.2.length:Int)≠0:=by simpa using c
  obtain⟨i,d⟩:∃i,a.2.length=i+1:=⟨a.2.length-1,by omega⟩;have g:=Bs a1 i;obtain⟨s1,s2⟩:=UP a1 d;have f:zc .i64 ((a.2.length:Int)-1)=(i:Int):=by rw[wr _ (by omega)<|by omega];omega
  have e:zc .i64 ((a.2.length:Int)-2)=(i:Int)-1:=by rw[wr _ (by omega)<|by omega];omega
  rw[f,e,zg,s1];refine zd (Aa (w4<|by omega)<|w4<|by omega) (zd (Aa (Aa (Aa (w4 g.1)<|w4<|by omega) rfl) rfl)<|An a.1 a.2 a1 a2 (fun ob=>zK rfl rfl ?_) i (by omega) s2);exact bL b (by intro h;rw[h]at d;cases d)
end T96
end Go.Pe
namespace Go.Sp
theorem dT{a k m:Nat}(h:a<10^k)(b:k<=m):a<10^m:=Nat.lt_of_lt_of_le h (z6 (by decide) b)
theorem Z6{a b k:Nat}(c:a<10^k)(d:b<10^k):a+b<10^(k+1):=by rw[Nat.pow_succ];omega
theorem Jn{n:Int}{k:Nat}(h:n.natAbs<10^k)(a:k<=27000):CB (rN n,rW n)=true:=RK<|dT (m:=27000) h a
theorem IJ{m n:Int}(h:CB (rN n,rW n)=true)(a:m.natAbs<=n.natAbs):CB (rN m,rW m)=true:=by
 have:=pL h;rw[Eu]at this;exact RK<|Nat.lt_of_le_of_lt a this
theorem ML{n:Int}(h:CC n=true):CB (rN n,rW n)=true:=by
 have h:=Go.Pe.El h;exact Jn (k:=20) (by have:10^20=100000000000000000000:=rfl;omega) (by decide)
theorem SX{n:Int}(h:CB (rN n,rW n)=true):AZ (rW n)=true/\(rW n).length<=3000/\Af n<(B9:Int)^3000:=by
 obtain⟨a,b,_⟩:=Dd h;refine⟨a,b,?_⟩;have:=(Go.Pe.KK h).2;rwa [show Ar (rN n,rW n).2=Af n from JB n]at this
theorem R2{n:Int}(h:CB (rN n,rW n)=true):(Cu n).length<=27001:=by
 have a:=(SX h).2.2;have b:=Tv a (by decide);have e:(Af n).toNat=n.natAbs:=by rw[Aj];omega
 rw[e]at b;unfold Cu Lib.itoa;split
 ·rw[zo];omega
 ·rw[show n.toNat=n.natAbs by omega];omega
theorem Ow(n:Int):Gd (rN n,rW n)=Cu n:=by unfold Gd;rw[Eu]
theorem UW{N D:Int}(b:0<D):zW N (gI (Af N) D)=(zm N D).num/\zW D (gI (Af N) D)=((zm N D).den:Int):=by
 have e:D.sign=1:=qe b;have a:gI (Af N) D=(yg N D:Int):=by rw[HU,Aj];rfl
 have d:(yg N D:Int)∣N:=Int.gcd_dvd_left ..;have c:(yg N D:Int)∣D:=Int.gcd_dvd_right ..;rw[a,y7 d,y7 c];refine⟨?_,(G1 (N:=N) b).2.2.1▸?_⟩
 ·rw[Rat.num_divInt,e,qi,qp]
 ·rw[a]
theorem Pt(x y:Int):GL (rN x,rW x) (rN y,rW y)=rN (x*y):=by unfold GL;rw[Eu,Eu]
theorem P1(x y:Int):Hf (rN x,rW x) (rN y,rW y)=rW (x*y):=by unfold Hf;rw[Eu,Eu]
theorem aE(x y:Int):LZ (rN x,rW x) (rN y,rW y)=rN (x+y):=by unfold LZ;rw[Eu,Eu]
theorem ZP(x y:Int):LU (rN x,rW x) (rN y,rW y)=rW (x+y):=by unfold LU;rw[Eu,Eu]
theorem OV(x y:Int):Ho (rN x,rW x) (rN y,rW y)=CS x y:=by unfold Ho;rw[Eu,Eu]
theorem neg_num(x:Rat):(x.num<0↔x<0)/\(x.num>0↔0<x):=by
 rw[Rat.lt_iff,Rat.lt_iff];have:(0:Rat).num=0:=rfl;have a:((0:Rat).den:Int)=1:=rfl;rw[this,a];omega
theorem bK(p q:Rat):OW (p-q).num=if p<q then -1 else if q<p then 1 else 0:=by
 obtain⟨a,d⟩:=neg_num<|p-q;have c:p-q<0↔p<q:=by rw[Rat.sub_lt_iff,Rat.zero_add]
 have b:0<p-q↔q<p:=(Rat.lt_iff_sub_pos q p).symm;unfold OW;simp only[a,d,c,b]
end Go.Sp
namespace Go.Pe
open Sp
open Go.Det
theorem gO:D3 eG:=Ac T153.ok<|Ac T130.ok<|Ac T154.ok<|Ac T155.ok<|Ac T96.ok AP
namespace T93
variable {Q:PV->Ob->Prop}
theorem CT(n d:Int)(f:CB (zy n,zt n)=true)(a:CB (zy d,zt d)=true)(b:0<=d)(j:∀ob,Q (.dat .str (Cu n++47::Cu d)) ob):Ends eG (L3 (BL d)<|Cu n) Q:=by
 have m:=R2 f;have l:=R2 a;have e:zt d=BL d:=by unfold zt;rw[Aj,yj b]
 have g:=(SX a).2.1;rw[e]at g;obtain⟨i,c⟩:=IC b;have h:(B5 false<|BL d,At<|BL d)=(zy d,zt d):=Oc c (by omega) (fun k=>(by cases k))<|fun _=>i.symm;refine zk (BE ..) ?_;conv=>zeta
 rw[h,Ow];refine zd (w4<|by omega) (zd (w4<|by omega)<|zd a<|zd (w4<|by rw[zu,yc];omega)<|zf ?_);rw[List.append_assoc];exact j _
theorem AV(n d:Int)(l:CB (zy n,zt n)=true)(i:CB (zy d,zt d)=true)(m:0<d)(a:d=1->∀ob,Q (.dat .str<|Cu n) ob)(j:d≠1->∀ob,Q (.dat .str (Cu n++47::Cu d)) ob):Ends eG (L2 (BL d)<|Cu n) Q:=by
 have b:=fF (n:=d) (by omega);by_cases h:d=1
 ·rw[b.2 h];exact zk (AK ..)<|zd rfl (zd rfl (zd rfl (zf<|a h _)))
 ·have g:=CT n d l i (by omega)<|j h;refine zk (AK ..)<|zh (fun c=>zd ?_<|zh (fun e=>?_)<|fun _=>g)<|fun _=>g
  ·have c:((BL d).length:Int)=1:=by simpa using c
   exact w4 (by omega)
  ·exfalso;have c:((BL d).length:Int)=1:=by simpa using c
   have e:(BL d).getD 0 0=1:=by simpa using e
   refine h<|b.1 ?_;cases f:BL d with
   |nil=>rw[f]at c;cases c
   |cons x r=>
    rw[f]at c e;have k:r=[]:=zx.1 (by have:((r.length+1:Nat):Int)=1:=c;omega);have e:x=1:=e;rw[k,e]
theorem An(N D:Int)(i:CB (zy N,zt N)=true)(f:CB (zy D,zt D)=true)(h0:0<D)(j:∀ob,Q (.dat .str<|CS N D) ob):Ends eG (L1 (zy D) (zt D) (zy N)<|zt N) Q:=by
 obtain⟨n1,s,v⟩:=SX i;obtain⟨d1,d2,d3⟩:=SX f;obtain⟨g0,f1,f2,f3⟩:=G1 (N:=N) h0;have a:Af D=D:=by rw[Aj,yj<|ya h0]
 have r:Cd (zt N) (zt D)=BL (qn (Af N) D):=by
  unfold Cd;rw[JB,JB,a]
 have w:qn (Af N) D<=D:=by
  have l:qn (Af N) D=(yg N D:Int):=by rw[HU,Aj];rfl
  rw[l];exact Int.le_of_dvd h0<|Int.gcd_dvd_right ..
 have fn:=dN h0 (neg:=zy N) rfl;have p:(zm N D).num.natAbs<=N.natAbs:=(Gc (n:=N) (d:=D)<|by omega).1;have o:(zm N D).den<=D.natAbs:=(Gc (n:=N) (d:=D)<|by omega).2;have gZ:=IJ (m:=(zm N D).num) i p;have b:=IJ (m:=((zm N D).den:Int)) f (by rw[Int.natAbs_natCast];exact o);have q:Af (zm N D).num<(yk:Int)^3000:=(SX gZ).2.2;have e:=Pv (N:=N) (D:=D);have t:=(zm N D).den_pos;have a0:=Mp (zm N D).num;rw[a]at d3;refine zk (Al ..) ?_;conv=>zeta
 rw[r,JB,JB,a];generalize qn (Af N) D=g at*;have c:=Gw (n:=g) (k:=3000) (by omega) (by omega) (by decide);rw[c.2.2.1,fn,f1,f2,Ow];have u:=JK a0 q;refine zd (Aa (Aa (Aa n1 d1)<|w4<|by omega)<|w4<|by omega) (zd (Aa (Aa (Aa (Aa n1 c.1)<|w4<|by omega)<|w4<|by omega)<|w4 g0)<|zd (Aa (Aa (Aa (Aa d1 c.1)<|w4<|by omega)<|w4<|by omega)<|w4 g0) (zd (w4<|by omega)<|zd gZ<|AV _ _ gZ b (by omega) (fun h ob=>?_)<|fun h ob=>?_))
 ·have:=j ob;rw[e,wd<|by omega]at this;exact this
 ·have:=j ob;rw[e,wc<|by omega]at this;exact this
theorem ok:Ag Bm 93 KX:=by
 refine Cj gO<|fun(i:(Bool×List Int)×(Bool×List Int)) g=>?_;obtain⟨a,b⟩:=i;have g:(CB a&&CB b&&decide (yy b≠0))=true:=g;rw[ze,ze,w5]at g;obtain⟨⟨ha,hb⟩,h0⟩:=g;have k:=lS ha;have l:=lS hb;have h:∀ob,Ad KX (a,b) (.dat .str<|CS (yy a)<|yy b) ob:=fun ob=>zK rfl rfl rfl
 have d:=ha;have e:=hb;rw[k]at d;rw[l]at e;refine zq (Ap a b)<|zh (fun c=>zd ha<|zd hb ?_)<|fun c=>?_
 ·have j:yy b<0:=by
   have:=Nn hb;rw[c]at this;exact w6 this.symm
  have:=An (Q:=Ad KX (a,b)) (-yy a) (-yy b) (IJ d<|by rw[Int.natAbs_neg];exact zN _) (IJ e<|by rw[Int.natAbs_neg];exact zN _) (by omega) (fun ob=>by rw[Tn];exact h ob);exact this
 ·have f:0<yy b:=by
   have:=Nn hb;rw[c]at this;have:=w7 this.symm;omega
  have:=An (Q:=Ad KX (a,b)) (yy a) (yy b) d e f h;rw[<-Nn ha, <-pA ha, <-Nn hb, <-pA hb]at this;exact this
end T93
theorem gR:D3 Yp:=Ac T97.ok<|Ac T93.ok<|Ac T98.ok<|Ac T99.ok AP
namespace T40
variable {Q:PV->Ob->Prop}
theorem Te{n:Int}(a: -9000000000000000000<=n)(b:n<=9000000000000000000):imax n (zc .i64<|0-n)=Af n:=by
 rw[wr _ (by omega)<|by omega];unfold imax Af;split<;>split<;>omega
theorem BP(n d:Int)(v:Z)(b:v=Cu n)(h:v.length<=27001)(g:0<d)(j:d<9000000000000000000)(a:d=1->∀ob,Q (.dat .str<|Cu n) ob)(f:d≠1->∀ob,Q (.dat .str (Cu n++47::Cu d)) ob):Ends Yp (L4 d v) Q:=by
 have i:=Oj d 1;have e:Hs d 1=Cu d:=by
  rw[Ny (by omega)<|by omega];unfold Cu Lib.itoa;rw[wc<|by omega]
 refine zk (Cf ..) (zh (fun c=>zd (w4<|by omega)<|zd (Aa (Aa (Aa (w4<|by omega)<|w4<|by omega) rfl) rfl)<|zd (w4<|by rw[zu,yc];omega)<|zf ?_)<|fun c=>zf ?_)
 ·have c:=w6 c;rw[b,e,List.append_assoc];exact f (by omega) _
 ·have c:=w7 c;rw[b];exact a (by omega) _
theorem CT(n d:Int)(n1: -9000000000000000000<n)(l:n<9000000000000000000)(f:0<d)(h:d<9000000000000000000)(a:d=1->∀ob,Q (.dat .str<|Cu n) ob)(i:d≠1->∀ob,Q (.dat .str (Cu n++47::Cu d)) ob):Ends Yp (L3 n d) Q:=by
 have k:=Oj (Af n) 1;have j:=Aj n;have e:Hs (Af n) 1=zL n.natAbs:=by
  rw[Ny (by omega)<|by omega];congr 1;omega
 have b:=W1 n;refine zk (BE ..) ?_;conv=>zeta
 rw[Te (by omega)<|by omega];have g:(decide (0<=Af n)&&decide (Af n<9223372036854775808)&&decide ((0:Int)<=1)&&decide ((1:Int)<=20))=true:=Aa (Aa (Aa (w4<|by omega)<|w4<|by omega) rfl) rfl;refine zh (fun c=>zd g<|zd (w4<|by omega)<|BP n d _ ?_ ?_ f h a i) (fun c=>zd g<|zd (w4<|by omega)<|BP n d _ ?_ ?_ f h a i)
 ·have c:=w6 c;rw[wd c]at b;rw[e];exact b.symm
 ·rw[zu,yc];omega
 ·have c:=w7 c;rw[wc c]at b;rw[e];exact b.symm
 ·rw[List.nil_append];omega
theorem AV(n d:Int)(n1: -9000000000000000000<n)(k:n<9000000000000000000)(a:0<d)(j:d<9000000000000000000)(e:∀ob,Q (.dat .str<|CS n d) ob):Ends Yp (L2 n d) Q:=by
 obtain⟨f,_⟩:=G1 (N:=n) a;obtain⟨q1,q2⟩:=UW (N:=n) a;obtain⟨l1,l2⟩:=Gc (n:=n) (d:=d) (by omega);have g:=Aj n;have i:=(zm n d).den_pos;have c:=Pv (N:=n) (D:=d);refine zk (AK ..) ?_;conv=>zeta
 rw[Te (by omega) (by omega),q1,q2,wr _ (by omega) (by omega),wr _ (by omega)<|by omega];have b:decide (qn (Af n) d≠0)=true:=w4 (by omega);refine zd (Aa (Aa (Aa (w4<|by omega)<|w4<|by omega)<|w4<|by omega)<|w4<|by omega) (zd b<|zd b<|CT _ _ (by omega) (by omega) (by omega) (by omega) (fun h ob=>?_)<|fun h ob=>?_)
 ·have:=e ob;rw[c,wd<|by omega]at this;exact this
 ·have:=e ob;rw[c,wc<|by omega]at this;exact this
theorem ok:Ag Bm 40 Z4:=by
 refine Cj gR<|fun(i:Int×Int) e=>?_;obtain⟨n,d⟩:=i;have e:(CC n&&CC d&&decide (d≠0))=true:=e;rw[ze,ze,w5]at e;obtain⟨⟨hn,hd⟩,h0⟩:=e;have b:∀ob,Ad Z4 (n,d) (.dat .str<|CS n d) ob:=fun ob=>zK rfl rfl rfl
 have a:(CB (zy n,zt n)&&CB (zy d,zt d)&&decide (yy (zy d,zt d)≠0))=true:=Aa (Aa (ML hn)<|ML hd) (by rw[Eu];exact w4 h0);refine zq (Ap n d) ?_;conv=>zeta
 rw[OV];refine zh (fun _=>zd hn<|zd hd<|zd a<|zf<|b _)<|fun j=>zh (fun _=>zd hn<|zd hd<|zd a<|zf<|b _)<|fun h=>zh (fun _=>zd hn<|zd hd<|zd a<|zf<|b _)<|fun g=>zh (fun _=>zd hn<|zd hd<|zd a<|zf<|b _)<|fun f=>?_;have j:=w7 j;have h:=w7 h;have g:=w7 g;have f:=w7 f;refine zk (Al ..)<|zh (fun c=>?_)<|fun c=>?_
 ·have c:=w6 c;rw[wr (0-n) (by omega) (by omega),wr (0-d) (by omega) (by omega),qo,qo];exact AV (-n) (-d) (by omega) (by omega) (by omega) (by omega) (fun ob=>by rw[Tn];exact b ob)
 ·have c:=w7 c;exact AV n d (by omega) (by omega) (by omega) (by omega) b
end T40
namespace T91
theorem vV{Q:PV->Ob->Prop}(s:Z)(neg:Bool)(k:s.length<=20)(h:9<(Ay s).length\/9<(zY s).length)(a:∀ob,Q (.tup [.dat i64 0,.dat i64 0,.bl false]) ob):Ends Mu (L3 s neg) Q/\Ends Mu (L4 s) Q:=by
 obtain⟨l,i,f⟩:=BC s;have es:AT s=((Ay s).length:Int):=rfl;have g:=(ql s).1;have d:9<(zY s).length->(s.length:Int)-(Ay s).length>10:=fun h=>by
  cases e:Bh s with
  |true=>
   have j:=wi List.length (i e).2;rw[zw]at j;omega
  |false=>rw[(f e).2]at h;cases h
 refine⟨zk (BE ..) (zd (w4<|by omega)<|zh (fun _=>zf<|a _)<|fun c=>?_),zk (Cf ..)<|zd (w4<|by omega)<|zh (fun _=>zf<|a _)<|fun c=>?_⟩
 ·have c:=w7 c;rw[es]at c;have b:=d (by omega);refine zd ?_<|zf<|a _;rw[es,wr _ (by omega)<|by omega];exact w4 b
 ·have c:=w7 c;rw[es]at c;have b:=d (by omega);refine zd ?_<|zf<|a _;rw[es,wr _ (by omega)<|by omega];exact w4 b
theorem yX:Ag Bm 91 Mh:=by
 refine Cj hH<|fun(a:Z) ha=>?_;obtain⟨_,_,o,db⟩:=Nb ha;by_cases b:DA a=true
 ·have e:∀n ob,n=Hz a->Ad Mh a (.tup [.dat i64 n,.dat i64<|if Bh (A3 a)=true then AA 0 (zY<|A3 a)else 1,.bl true]) ob:=fun n ob h=>zK rfl rfl (by
   show(n,_,true)=(YN a,S1 a,DA a);unfold YN S1;rw[wd b,wd b,b,h];rfl)
  unfold DA at b;rw[ze,ze,w5,w5,w5]at b;obtain⟨⟨f,k⟩,m⟩:=b;clear ha;refine zq (Ap a) (zj (by simp;omega) ?_);cases a with
  |nil=>exact zj rfl (zk (AK ..)<|BP [] f k m o db<|fun n ob h=>e n ob<|by rw[h];rfl)
  |cons c r=>
   have g:(c::r).getD 0 0=c:=rfl;rw[g];refine zd (by simp) (zd (by simp) (zk (Al ..)<|zh (fun d=>zd (by simp) ?_)<|fun d=>?_))
   ·have i:c=45:=by
     have:(c.toNat:Int)=45:=by simpa using d
     exact ym.1 (by show _=45;omega)
    have j:A3 (c::r)=r:=by unfold A3;rw[g,wd i];rfl
    have p:Sp.preB (c::r)=true:=by unfold Sp.preB;rw[g];exact w4 i
    have q:yz (zV (c::r).length 1) (qk 1 (c::r))=r:=zr<|zN _;unfold Hz at e;rw[j]at k m o db e;rw[p]at e;rw[q,d];exact CT r true (by rw[zo]at f;omega) k m o db (fun n ob h=>e _ ob (by rw[h];try rfl))
   ·have i:c≠45:=by rintro rfl;exact wh d (by decide)
    have j:A3 (c::r)=c::r:=by unfold A3;rw[g,wc i]
    have p:Sp.preB (c::r)=false:=by unfold Sp.preB;rw[g];exact w8 i
    unfold Hz at e;rw[j]at k m o db e;rw[p]at e;rw[d];exact CT (c::r) false f k m o db (fun n ob h=>e _ ob<|by rw[h];try rfl)
 ·have t:DA a=false:=by simpa using b
  have e:∀ob,Ad Mh a (.tup [.dat i64 0,.dat i64 0,.bl false]) ob:=fun ob=>zK rfl rfl (by
   show((0:Int),(0:Int),false)=(YN a,S1 a,DA a);unfold YN S1;rw[wc b,wc b,t])
  refine zq (Ap a)<|zh (fun _=>zf<|e _)<|fun f=>?_;have f:a.length<=20:=by have:=w7 f;omega
  have l:9<(Ay<|A3 a).length\/9<(zY<|A3 a).length:=by
   by_cases s:(Ay<|A3 a).length<=9
   ·by_cases u:(zY<|A3 a).length<=9
    ·exact wh (by unfold DA;rw[w4 f,w4 s,w4 u];rfl) b
    ·exact .inr (by omega)
   ·exact .inl (by omega)
  cases a with
  |nil=>exact zj rfl (zk (AK ..) (vV [] false f l e).2)
  |cons c r=>
   have g:(c::r).getD 0 0=c:=rfl;rw[g];refine zd (by simp) (zd (by simp)<|zk (Al ..) (zh (fun d=>zd (by simp) ?_)<|fun d=>?_))
   ·have i:c=45:=by
     have:(c.toNat:Int)=45:=by simpa using d
     exact ym.1 (by show _=45;omega)
    have j:A3 (c::r)=r:=by unfold A3;rw[g,wd i];rfl
    have q:yz (zV (c::r).length 1) (qk 1 (c::r))=r:=zr<|zN _;rw[j]at l;rw[q];exact(vV r _ (by rw[zo]at f;omega) l e).1
   ·have i:c≠45:=by rintro rfl;exact wh d (by decide)
    have j:A3 (c::r)=c::r:=by unfold A3;rw[g,wc i]
    rw[j]at l;exact(vV (c::r) _ f l e).1
end T91
theorem Q7:D3 lX:=Ac T91.yX<|Ac T40.ok<|Ac (T92.ok)<|Ac T94.ok<|Ac T95.ok<|Ac T93.ok AP
theorem SM{x y:Int}(a: -1000000000<x)(d:x<1000000000)(b: -1000000000<y)(c:y<1000000000): -1000000000000000000<=x*y/\x*y<=1000000000000000000:=by
 have h:(x*y).natAbs<=1000000000*1000000000:=by
  rw[yr];exact Nat.mul_le_mul (by omega) (by omega)
 omega
theorem T33.ok:Ag Bm 33 Wn:=by
 refine Cj Q7<|fun(i:Z×Z) d=>?_;obtain⟨a,b⟩:=i;have d:(CA a&&CA b)=true:=d;rw[ze]at d;obtain⟨ha,hb⟩:=d;obtain⟨a1,a2,a3,a4,a5,a6,a7,a8,a9⟩:=Em ha;obtain⟨b1,b2,b3,b4,b5,b6,b7,b8,b9⟩:=Em hb;have I:=(A2 a).den_pos;have K:=(A2 b).den_pos;have eq:=(Yg ha hb).2;have p:∀ob,Ad Wn (a,b) (.dat .str<|CS (A0 a*AE b+A0 b*AE a)<|AE a*AE b) ob:=fun ob=>zK rfl rfl eq.symm
 have c:Ends lX (T33.L1 a b) (Ad Wn (a,b)):=by
  have m:Bu a=zy (A0 a):=rfl;have n:Bn a=zt (A0 a):=rfl;have l:Bb a=zy (AE a):=rfl;have q:A4 a=zt (AE a):=rfl;have s:Bu b=zy (A0 b):=rfl;have j:Bn b=zt (A0 b):=rfl;have r:Bb b=zy (AE b):=rfl;have h:A4 b=zt (AE b):=rfl;rw[m,n]at a1;rw[l,q]at a3;rw[s,j]at b1;rw[r,h]at b3;refine zk (T33.Al ..) ?_;conv=>zeta
  simp only[m,n,l,q,s,j,r,h,Pt,P1,aE,ZP,OV,Eu];have f:=Ew a8 b9;have e:=Ew b8 a9;have g:=Ew a9 b9;rw[<-yr]at f e g;have u:=Nat.lt_of_le_of_lt (Int.natAbs_add_le (A0 a*AE b)<|A0 b*AE a)<|Z6 (k:=4000+4000) f e;have C:=Jn f (by decide);have B:=Jn e (by decide);have w:=Jn g (by decide);have F:=Jn u (by decide);have t:AE a*AE b≠0:=yn (by omega) (by omega);exact zd a7<|zd b7<|zd (Aa a1 b3)<|zd (Aa b1 a3)<|zd (Aa C B)<|zd (Aa a3 b3)<|zd (Aa (Aa F w)<|w4 t)<|zf<|p _
 refine zq (T33.Ap a b)<|zd ha<|zd hb<|zh (fun x=>zh (fun A=>?_)<|fun _=>c)<|fun _=>c;obtain⟨z,D,E,y,H,o⟩:=FE ha x;obtain⟨y1,y2,y3,y4,y5,y6⟩:=FE hb A;have J:=SM E y (by omega) y6;have L:=SM y3 y4 (by omega) o;have G:=SM (by omega) o (by omega) y6;have v:AE a*AE b≠0:=yn (by omega) (by omega);rw[z,D,y1,y2,wr (A0 a*AE b) (by omega) (by omega),wr (A0 b*AE a) (by omega) (by omega),wr (A0 a*AE b+A0 b*AE a) (by omega) (by omega),wr (AE a*AE b) (by omega)<|by omega];exact zd (Aa (Aa (DT (by omega)<|by omega)<|DT (by omega)<|by omega)<|w4 v)<|zf<|p _
theorem T34.ok:Ag Bm 34 WB:=by
 refine Cj Q7<|fun(i:Z×Z) d=>?_;obtain⟨a,b⟩:=i;have d:(CA a&&CA b)=true:=d;rw[ze]at d;obtain⟨ha,hb⟩:=d;obtain⟨a1,a2,a3,a4,a5,a6,a7,a8,a9⟩:=Em ha;obtain⟨b1,b2,b3,b4,b5,b6,b7,b8,b9⟩:=Em hb;have D:=(A2 a).den_pos;have F:=(A2 b).den_pos;have m:∀ob,Ad WB (a,b) (.dat .str<|CS (A0 a*A0 b)<|AE a*AE b) ob:=fun ob=>zK rfl rfl (Xc).symm
 have c:Ends lX (T34.L1 a b) (Ad WB (a,b)):=by
  have j:Bu a=zy (A0 a):=rfl;have k:Bn a=zt (A0 a):=rfl;have h:Bb a=zy (AE a):=rfl;have n:A4 a=zt (AE a):=rfl;have p:Bu b=zy (A0 b):=rfl;have g:Bn b=zt (A0 b):=rfl;have o:Bb b=zy (AE b):=rfl;have f:A4 b=zt (AE b):=rfl;rw[j,k]at a1;rw[h,n]at a3;rw[p,g]at b1;rw[o,f]at b3;refine zk (T34.Al ..) ?_;conv=>zeta
  simp only[j,k,h,n,p,g,o,f,Pt,P1,OV,Eu];have l:=Ew a8 b8;have e:=Ew a9 b9;rw[<-yr]at l e;have x:=Jn l (by decide);have s:=Jn e (by decide);have q:AE a*AE b≠0:=yn (by omega) (by omega);exact zd a7<|zd b7<|zd (Aa a1 b1)<|zd (Aa a3 b3)<|zd (Aa (Aa x s)<|w4 q)<|zf<|m _
 refine zq (T34.Ap a b)<|zd ha<|zd hb<|zh (fun t=>zh (fun w=>?_)<|fun _=>c)<|fun _=>c;obtain⟨v,z,A,u,C,y⟩:=FE ha t;obtain⟨y1,y2,y3,y4,y5,y6⟩:=FE hb w;have E:=SM A u y3 y4;have B:=SM (by omega) y (by omega) y6;have r:AE a*AE b≠0:=yn (by omega) (by omega);rw[v,z,y1,y2,wr _ (by omega) (by omega),wr (AE a*AE b) (by omega)<|by omega];exact zd (Aa (Aa (DT (by omega)<|by omega)<|DT (by omega)<|by omega)<|w4 r)<|zf<|m _
theorem T147.ok:Ag Bm 147 lV:=by
 refine Cj Q7<|fun(a:Z) hi=>?_;obtain⟨b,h0⟩:=oR hi;obtain⟨a1,a2,a3,a4,a5,a6,a7,a8,a9⟩:=Em (Ml b).1;refine zq (T147.Ap a)<|zd a7<|zd (Aa (Aa a3 a1) ?_)<|zf<|zK rfl rfl ?_
 ·rw[a2];exact w4 fun e=>h0 (Rat.num_eq_zero.mp (by rw[a5,e]))
 ·show Ho _ _=fR a;unfold Ho;rw[a2,a4];exact XW.symm
theorem jL:D3 yD:=Ac T147.ok<|Ac T34.ok<|Ac T33.ok<|Ac T84.ok AP
theorem ZU{s:Z}(h:FV s=true):CA (J4 s)=true/\A2 (J4 s)= -A2 s:=by
 obtain⟨a,c⟩:=Ml h;obtain⟨t,_⟩:=JJ a;have e:J4 s=Bi (-A2 s):=by
  have:=YM<|A2 s;rwa [t]at this
 have r:A2 (J4 s)= -A2 s:=by rw[e,Gt]
 refine⟨?_,r⟩;have b:(J4 s).length<=4000:=by
  unfold J4;split
  ·omega
  ·split
   ·rw[zw];omega
   ·rw[zo];omega
 unfold CA;rw[r, <-e,w4 rfl,w4 b];rfl
theorem T37.ok:Ag Bm 37 mP:=by
 refine Cj jL<|fun(i:Z×Z) c=>?_;obtain⟨a,b⟩:=i;have c:(CA a&&FV b)=true:=c;rw[ze]at c;obtain⟨ha,hb⟩:=c;obtain⟨n1,n2⟩:=ZU hb;have d:=(Ml hb).2;refine zq (T37.Ap a b) (zd (w4<|by omega)<|zd (Aa ha n1)<|zf<|zK rfl rfl ?_);show Ta a (J4 b)=UX a b;unfold Ta UX;rw[n2,Rat.sub_eq_add_neg]
theorem jT:D3 yJ:=Ac T37.ok<|Ac T38.ok<|Ac T128.ok<|Ac T144.ok<|Ac T145.ok<|Ac T146.ok AP
theorem T36.ok:Ag Bm 36 Wa:=by
 refine Cj jT<|fun(i:Z×Z) d=>?_;obtain⟨a,b⟩:=i;have d:(CA a&&FV b)=true:=d;have c:=d;rw[ze]at c;obtain⟨ha,hb⟩:=c;have z:=(QD ha).sub<|QD (Ml hb).1;refine zq (T36.Ap a b) (zd d (zd (w4<|ZA z<|by decide)<|zf<|zK rfl rfl ?_));show EP (UX a b)=GF a b;unfold UX;rw[KR,bK];rfl
end Go.Pe
namespace Go.Sp
theorem QC{k:Nat}{t:List Cs}(h:IX k t=true):∀p∈t,p.1.length<=k/\p.2.length<=k:=by
 unfold IX at h;rw[z7]at h;intro p a;have:=h p a;rw[ze,w5,w5]at this;exact this
theorem RV(a b:Z):GF a b<=0↔0<=GF b a:=by
 unfold GF;rw[ZH (A2 a)<|A2 b];omega
theorem TH(a b:Z):GF a b<=0↔¬A2 b<A2 a:=by
 unfold GF;by_cases h:A2 a<A2 b
 ·rw[wd h];exact⟨fun _=>Rat.not_lt.2<|Rat.le_of_lt h,fun _=>by decide⟩
 ·rw[wc h];by_cases k:A2 b<A2 a
  ·rw[wd k];exact⟨fun x=>wh x (by decide),fun x=>wh k x⟩
  ·rw[wc k];exact⟨fun _=>k,fun _=>by decide⟩
def NZ(t:List Cs)(i:Nat):Option Cs:=if i=0 then none else some<|t.getD (i-1) ([],[])
theorem EY(p:Cs)(l:List Cs):DK none (p::l)=if Ma p.1 p.2≠0 then Ma p.1 p.2 else DK (some p) l:=by
 rw[DK]
theorem GA(q p:Cs)(l:List Cs):DK (some q) (p::l)=if Ma p.1 p.2≠0 then Ma p.1 p.2 else if GF p.1 q.1<=0 then 11 else DK (some p) l:=by
 rw[DK]
theorem Tf(o:Option Cs):DK o []=0:=by rw[DK]
theorem Uc{t:List Cs}{i:Nat}{p:Cs}(h:t.getD i ([],[])=p):NZ t (i+1)=some p:=by
 unfold NZ;rw[wc (by omega),zP,h]
end Go.Sp
namespace Go.Pe
open Sp
open Go.Det
theorem cM{s:Sh}{sz:Nat}(g:s.sz=sz){id n:Nat}{tail:Ob}{fz:Bool}{t:TypeId}{o:List s.T}{e:Int}(f:n=o.length):NP [.list s,i64] (.tup [.sl id sz 0 n none,.dat i64 e]) ((id,.arr fz t s o)::tail)=some (true,(o,e)):=by
 subst f g;have a:AH ((id,Obj.arr fz t s o)::tail) id=some (.arr fz t s o):=by unfold AH;rw[qf];rfl
 have h0:E7 ⟨0,.leaf,(id,.arr fz t s o)::tail,0⟩ (.list s) (.sl id s.sz 0 o.length none)=some (true,o):=by
  unfold E7;have b:Dv ⟨0,.leaf,(id,.arr fz t s o)::tail,0⟩ (PV.cells<|.sl id s.sz 0 o.length none)=some (true,[.dat (.list s) o]):=by
   show(match BM ⟨0,.leaf,(id,.arr fz t s o)::tail,0⟩ (.sl id s.sz 0 o.length none),some (true,[])with|some (c,x),some (d,xs)=>some (c&&d,x::xs)|_,_=>none)=_;have:BM ⟨0,.leaf,(id,.arr fz t s o)::tail,0⟩ (.sl id s.sz 0 o.length none)=some (true,.dat (.list s) o):=by
    unfold BM AG.obj;simp only[a,qf,we];simp
   rw[this];rfl
  simp only[Kk,Sh.O5];show(match Dv ⟨0,.leaf,(id,.arr fz t s o)::tail,0⟩ (PV.cells<|.sl id s.sz 0 o.length none)with|some (c,cs)=>_|none=>none)=_;rw[b];have:CP (.list s) [PV.dat (.list s) o]=some o:=by
   unfold CP B7 lN Dr;simp
  simp only[Ot,this,z8]
 unfold NP ID;simp only;unfold D6;rw[h0];rfl
theorem eS:D3 rL:=Ac T168.ok<|Ac T169.ok<|Ac T171.ok<|Ac T55.ok<|Ac T56.ok AP
theorem Wf{a b:Z}(d:As a=0)(c:As b=0):GK (mO a) (mO b)=GF a b:=by
 rw[Wu.cmp (Kh (Dy d).1)<|Kh (Dy c).1];rfl
theorem GZ{a:Z}(b:As a=0):Sp.FZ (mO a)=true/\FN a=true:=by
 obtain⟨n,z⟩:=Dy b;exact⟨(Kh n).FZ (ZX z (by decide)),(Em n).2.2.2.2.2.2.1⟩
namespace T123
variable {Q:PV->Ob->Prop}
theorem tB{p:Cs}{k:Nat}(h:p.1.length<=k/\p.2.length<=k)(a:k<=1000000):(decide ((2:Nat)<=2)&&true&&(decide ((2:Nat)<=1000)&&List.all [p.1,p.2] fun s=>decide (List.length s<=1000000)))=true:=by
 show(decide (p.1.length<=1000000)&&(decide (p.2.length<=1000000)&&true))=true;rw[w4 (by omega),w4<|by omega];rfl
theorem Xf(t:List Cs)(i:Nat)(p:Cs)(h:i<t.length)(a:t.getD i ([],[])=p):(t.take i).map DQ++[(Zc p.1,Zc p.2)]=(t.take<|i+1).map DQ:=by
 rw[List.take_add_one,List.map_append];congr 1;rw[zl]at a;rw[zM h]at a ⊢;have a:t[i]=p:=a;rw[a];rfl
theorem AV(t:List Cs)(o:t.length<=64)(w:IX 1000000 t=true)(a:∀e ob,e≠0->DK none t=e->Q (.tup [.nil,.dat i64 e]) ob)
  (g:DK none t=0->Q (.tup [.sl 0 8 0 ((t.take t.length).map DQ).length none,.dat i64 0]) [(0,.arr false 209 V0<|(t.take t.length).map DQ)]):
  ∀(r:List Cs) (i n:Nat) (q:Cs),t.drop i=r->1<=i->i<=t.length->n=((t.take i).map DQ).length->t.getD (i-1) ([],[])=q->As q.1=0->DK none t=DK (some q) r->Ends rL (L2 n t (t.length:Int) (i:Int)<|(t.take i).map DQ) Q
 |[],i,n,q,h,A,y,u,j,s,b=>by
  have:=drop_nil h y;have e:i=t.length:=by omega
  subst e;rw[Tf]at b;rw[u];exact zk (AK ..) (zj (w8<|by omega)<|zf<|g b)
 |p::r,i,n,q,h,A,y,u,j,s,b=>by
  obtain⟨v,l,K⟩:=drop_cons (d:=(([],[]):Cs)) h;have G:p∈t:=List.mem_of_mem_drop (by rw[h];exact yt ..);have B:=QC w p G;have F:n=i:=by rw[u,yo,ye];omega
  have C:zc .i64 ((i:Int)+1)=((i+1:Nat):Int):=by rw[wr _ (by omega)<|by omega];omega
  have E:zc .i64 ((i:Int)-1)=((i-1:Nat):Int):=by rw[wr _ (by omega)<|by omega];omega
  have H:∀d,((t.take i).map DQ).getD (i-1) d=DQ q:=by
   intro d;rw[zl,List.getElem?_map,List.getElem?_take_of_lt<|by omega];rw[zl,zM<|by omega]at j;rw[zM<|by omega];have j:t[i-1]=q:=j;rw[j];rfl
  have z:((t.take i).map DQ).length=i:=by rw[yo,ye];omega
  rw[GA]at b;refine zk (AK ..) ?_;conv=>zeta
  rw[C,E,zg,zg,l,H];refine zd (w4<|by omega) (zd (Aa (w4<|by omega)<|w4<|by omega)<|zd (tB B<|zN _)<|zh (fun c=>zf ?_)<|fun c=>?_)
  ·have c:D9 [p.1,p.2]≠0:=by simpa using c
   have k:Ma p.1 p.2≠0:=c;rw[wd k]at b;exact a _ _ k b
  ·have c:D9 [p.1,p.2]=0:=by simpa using c
   have k:Ma p.1 p.2=0:=c;rw[wc<|by rw[k];decide]at b;obtain⟨m,D⟩:=It k;have x:=GZ m;have J:=GZ D;have I:=GZ s;have f:GK (Zc p.1) (DQ q).1=GF p.1 q.1:=Wf m s;refine zd x.2 (zd J.2<|zd (w4<|by omega)<|zd (Aa (w4<|by omega)<|w4<|by omega)<|zd (w4<|by omega)<|zd (Aa x.1 I.1)<|zh (fun d=>zf ?_)<|fun d=>?_)
   ·have d:=w6 d;have d:GK (Zc p.1) (DQ q).1<=0:=d;rw[f]at d;rw[wd d]at b;exact a 11 _ (by decide) b
   ·have d:=w7 d;have d:¬GK (Zc p.1) (DQ q).1<=0:=d;rw[f]at d;rw[wc d]at b;have go:=AV t o w a g r (i+1) (n+1) p K (by omega) v (by rw[yo,ye];omega) (by rw[zP];exact l) m b;rw[<-Xf t i p v l]at go;refine zd (Aa (Aa (Aa rfl rfl)<|w4<|by omega)<|w4<|by omega) go
theorem ok:Ag Bm 123 V7:=by
 refine Cj eS<|fun(t:List (Z×Z)) d=>?_;have d:(decide (t.length<=1000)&&IX 1000000 t)=true:=d;rw[ze,w5]at d;obtain⟨w,j⟩:=d;have a:∀e ob,e≠0->BF t=e->Ad V7 t (.tup [.nil,.dat i64 e]) ob:=fun e ob h k=>zK (y:=([],e)) rfl rfl (by
  show([],e)=(Tl t,BF t);unfold Tl;rw[wd (by rw[k];exact h),k])
 have q:yu [BJ ((t.length:Int)==0) 12,BJ (decide ((t.length:Int)>64)) 5]=if t=[]then 12 else if 64<t.length then 5 else 0:=by
  rw[IQ];by_cases h:t=[]
  ·rw[wd h,h];rfl
  ·have f:((t.length:Int)==0)=false:=by
    have:t.length≠0:=fun k=>h<|zx.1 k
    simp;omega
   rw[wc h,f,wc<|by decide];by_cases k:64<t.length
   ·rw[wd k,w4<|show(t.length:Int)>64 by omega];rfl
   ·rw[wc k,w8<|show ¬(t.length:Int)>64 by omega];rfl
 refine zq (Ap t) ?_;conv=>zeta
 rw[q];refine zd rfl (zd rfl (zd rfl ?_));by_cases h:t=[]
 ·rw[wd h];exact zd rfl (zf<|a 12 _ (by decide)<|by unfold BF;rw[wd h])
 ·rw[wc h];by_cases k:64<t.length
  ·rw[wd k];exact zd rfl (zf<|a 5 _ (by decide)<|by unfold BF;rw[wc h,wd k])
  ·rw[wc k];have i:BF t=DK none t:=by unfold BF;rw[wc h,wc k]
   refine zj rfl ?_;obtain⟨p,r,rfl⟩:∃p r,t=p::r:=by
    cases t with
    |nil=>exact wh rfl h
    |cons p r=>exact⟨p,r,rfl⟩
   have n:(p::r).getD 0 ([],[])=p:=rfl;have g:=QC j p<|yt ..;refine zk (Al ..) ?_;conv=>zeta
   rw[show qq 0=0 from rfl,n];refine zd (w4<|by rw[zo];omega) (zd (Aa rfl (w4<|by rw[zo];omega))<|zd (tB g<|zN _)<|zh (fun c=>zf ?_)<|fun c=>?_)
   ·have c:D9 [p.1,p.2]≠0:=by simpa using c
    have b:Ma p.1 p.2≠0:=c;exact a _ _ b (by rw[i,EY,wd b];rfl)
   ·have c:D9 [p.1,p.2]=0:=by simpa using c
    have b:Ma p.1 p.2=0:=c;obtain⟨l,s⟩:=It b;have v:=GZ l;have u:=GZ s;have o:zc .i64 ((0:Int)+1)=((1:Nat):Int):=rfl;rw[o];have go:=AV (Q:=Ad V7 (p::r)) (p::r) (by omega) j (fun e ob f m=>a e ob f<|by rw[i];exact m) (fun h0=>zK (cM rfl rfl) rfl (by
     show(((p::r).take (p::r).length).map DQ,(0:Int))=(Tl (p::r),BF (p::r));unfold Tl;rw[i,h0,wc (by decide),List.take_length])) r 1 1 p rfl (by decide) (by rw[zo];omega) (by rw[yo,ye,zo];omega) rfl l (by rw[EY,wc<|by rw[b];decide])
    exact zd v.2<|zd u.2<|zj rfl (zd rfl go)
end T123
theorem fJ:D3 xJ:=Ac T123.ok AP
theorem T54.ok:Ag Bm 54 Kv:=by
 refine Cj fJ<|fun(t:List (Z×Z)) hi=>?_;exact zq (T54.Ap t)<|zd hi<|zf<|zK rfl rfl rfl
theorem iA:D3 sV:=Ac T62.ok<|Ac T36.ok AP
namespace T60
variable {Q:PV->Ob->Prop}
theorem An(t:List Cs)(m:t.length<=64)(o:IX 1000000 t=true)(e:∀ob,Q (.dat i64<|DK none t) ob):
  ∀(r:List Cs) (i:Nat),t.drop i=r->i<=t.length->(0<i->As (t.getD (i-1) ([],[])).1=0)->DK none t=DK (NZ t i) r->Ends sV (L1 t (i:Int)) Q
 |[],i,h,u,g,b=>by
  have:=drop_nil h u;rw[Tf]at b;rw[b]at e;exact zk (Al ..) (zj (w8<|by omega)<|zf<|e _)
 |p::r,i,h,u,g,b=>by
  obtain⟨v,l,C⟩:=drop_cons (d:=(([],[]):Cs)) h;have A:p∈t:=List.mem_of_mem_drop (by rw[h];exact yt ..);obtain⟨l1,l2⟩:=QC o p A;have y:zc .i64 ((i:Int)+1)=((i+1:Nat):Int):=by rw[wr _ (by omega)<|by omega];omega
  have j:(decide ((0:Int)<=(i:Int))&&decide ((i:Int)<(t.length:Int)))=true:=Aa (w4<|by omega) (w4<|by omega);have a:=Wb p.1 p.2;refine zk (Al ..) ?_;conv=>zeta
  rw[y,zg,l];refine zd (w4<|by omega)<|zd j<|zd (w4 l1)<|zh (fun c=>zd j<|zd (w4 l2)<|zh (fun d=>?_)<|fun d=>?_)<|fun c=>?_
  ·have c:As p.1=0:=by simpa using c
   have d:As p.2=0:=by simpa using d
   rw[wc (by rw[c];decide),d]at a;have db:(As p.2 !=0)=false:=by rw[d];rfl
   have n1:=NS c;have nx:∀s,s=i+1->DK none t=DK (some p) r->Ends sV (L1 t ((i+1:Nat):Int)) Q:=fun s _ w=>
    An t m o e r (i+1) C v (fun _=>by rw[zP,l];exact c) (by rw[Uc l];exact w)
   by_cases h0:i=0
   ·subst h0;refine zj rfl (zj db<|nx _ rfl ?_);rw[b];show DK none (p::r)=_;rw[EY,wc<|by rw[a];decide]
   ·have z:zc .i64 ((i:Int)-1)=((i-1:Nat):Int):=by rw[wr _ (by omega)<|by omega];omega
    have g:=g (by omega);have B:NZ t i=some (t.getD (i-1) ([],[])):=by unfold NZ;rw[wc h0]
    rw[B,GA,wc<|by rw[a];decide]at b;rw[z,zg];generalize t.getD (i-1) ([],[])=q at*;have n0:=NS g;refine zd (w4<|by omega) (zd (Aa (w4<|by omega)<|w4<|by omega)<|zd j<|zd (Aa (n0.num<|by decide)<|n1.FV<|by decide)<|zh (fun k=>zd rfl (zf ?_))<|fun k=>zj db<|nx _ rfl ?_)
    ·have k:=w6 k;rw[wd<|(RV _ _).2 k]at b;rw[b]at e;exact e _
    ·have k:=w7 k;rw[wc<|fun x=>k<|(RV _ _).1 x]at b;exact b
  ·have c:As p.1=0:=by simpa using c
   have n:As p.2≠0:=by simpa using d
   rw[wc<|by rw[c];decide]at a;refine zd (by simpa using n)<|zf ?_;have:DK none t=As p.2:=by
    rw[b];cases NZ t i with
    |none=>rw[EY,wd (by rw[a];exact n),a]
    |some q=>rw[GA,wd (by rw[a];exact n),a]
   rw[<-this];exact e _
  ·have f:As p.1≠0:=by simpa using c
   rw[wd f]at a;have:DK none t=As p.1:=by
    rw[b];cases NZ t i with
    |none=>rw[EY,wd (by rw[a];exact f),a]
    |some q=>rw[GA,wd (by rw[a];exact f),a]
   refine zj (by simpa using f) (zd (by simpa using f)<|zf ?_);rw[<-this];exact e _
theorem ok:Ag Bm 60 Kv:=by
 refine Cj iA<|fun(t:List (Z×Z)) b=>?_;have b:(decide (t.length<=1000)&&IX 1000000 t)=true:=b;rw[ze,w5]at b;have a:∀e ob,BF t=e->Ad Kv t (.dat i64 e) ob:=fun e ob h=>zK rfl rfl h.symm
 unfold BF at a;refine zq (Ap t)<|zh (fun c=>zf<|a _ _ ?_)<|fun c=>zh (fun d=>zf<|a _ _ ?_)<|fun d=>?_
 ·have:t=[]:=zx.1 (by have:(t.length:Int)=0:=(by simpa using c);omega);rw[wd this]
 ·have c:(t.length:Int)≠0:=by simpa using c
  have d:=w6 d;rw[wc (by rintro rfl;exact c rfl),wd<|by omega]
 ·have c:(t.length:Int)≠0:=by simpa using c
  have d:=w7 d;rw[wc (by rintro rfl;exact c rfl),wc<|by omega]at a;exact An t (by omega) b.2 (fun ob=>a _ ob rfl) t 0 rfl (Nat.zero_le _) (fun h=>wh h<|by decide) rfl
end T60
end Go.Pe
namespace Go.Sp
theorem LL{t:List Cs}(h:BF t=0):t≠[]/\t.length<=64/\DK none t=0:=by
 unfold BF at h;split at h
 ·exact wh h (by decide)
 ·next k=>
  split at h
  ·exact wh h (by decide)
  ·exact⟨k,by omega,h⟩
theorem ZD{q p:Cs}{l:List Cs}(h:DK (some q) (p::l)=0):As p.1=0/\As p.2=0/\A2 q.1<A2 p.1/\DK (some p) l=0:=by
 rw[GA]at h;split at h
 ·next k=>exact wh h k
 ·next k=>
  split at h
  ·exact wh h (by decide)
  ·next d=>
   obtain⟨e,c⟩:=It (a:=p.1) (b:=p.2) (by omega);rw[TH]at d;exact⟨e,c,Classical.not_not.1 d,h⟩
theorem aY{p:Cs}{l:List Cs}(h:DK none (p::l)=0):As p.1=0/\As p.2=0/\DK (some p) l=0:=by
 rw[EY]at h;split at h
 ·next k=>exact wh h k
 ·next k=>
  obtain⟨d,c⟩:=It (a:=p.1) (b:=p.2) (by omega);exact⟨d,c,h⟩
theorem CY(x:Int)(l:List Int):first (x::l)=0↔x=0/\first l=0:=by
 rw[first];by_cases h:x=0
 ·simp[h]
 ·simp[h]
theorem Ms{α:Type}{l:List α}{i:Nat}{d:α}(h:i<l.length):l.getD i d∈l:=by
 rw[zl,zM h];exact List.getElem_mem h
theorem Hx{c:ER}(h:Pj c=true):c.1.length<=38/\c.2.1.length<=10/\c.2.2.length<=10/\(∀s∈c.1,Ft s=true)/\(∀t∈c.2.1,Ph t=true)/\(∀l∈c.2.2,Ca l=true):=by
 unfold Pj at h;rw[ze,ze,ze,ze,ze,w5,w5,w5,z7,z7,z7]at h;obtain⟨⟨⟨⟨⟨a,e⟩,d⟩,b⟩,g⟩,f⟩:=h;exact⟨a,e,d,b,g,f⟩
theorem Wg{s:EV}(h:Ft s=true):s.1.length<=20/\s.2.1.length<=20/\s.2.2.1.length<=20/\s.2.2.2.1.length<=20/\s.2.2.2.2.length<=20:=by
 unfold Ft at h;rw[ze,ze,ze,ze,w5,w5,w5,w5,w5]at h;obtain⟨⟨⟨⟨a,e⟩,d⟩,c⟩,b⟩:=h;exact⟨a,e,d,c,b⟩
theorem Rw{l:List Cs}{n m:Nat}(h:H8 l n m=true):∀p∈l,p.1.length<=n/\p.2.length<=m:=by
 intro p a;unfold H8 at h;rw[z7]at h;have:=h p a;rwa [ze,w5,w5]at this
structure xE(l:DL):Prop where
 name:l.1.length<=40
 head:l.2.1.length<=20
 next:l.2.2.1.length<=20
 tl:l.2.2.2.1.length<=70
 wl:l.2.2.2.2.length<=20
 tab:∀p∈l.2.2.2.1,p.1.length<=20/\p.2.length<=20
 wts:∀p∈l.2.2.2.2,p.1.length<=40/\p.2.length<=20
theorem Wp{l:DL}(h:Ca l=true):xE l:=by
 unfold Ca at h;rw[ze,ze,ze,ze,ze,ze,w5,w5,w5,w5,w5]at h;obtain⟨⟨⟨⟨⟨⟨a,d⟩,c⟩,b⟩,f⟩,e⟩,g⟩:=h;exact⟨a,d,c,b,f,Rw e,Rw g⟩
theorem Z5(q:Rat):Xv (Bi q)=max (zL q.num.natAbs).length (zL q.den).length:=by
 unfold Xv;rw[(HO q).1,(Fi q.num).2.1,YA]
theorem oH{s:Z}(h:As s=0):Nu (Xv s) s (A2 s):=by
 obtain⟨n,_⟩:=Dy h;have e:=(JJ n).1;have a:=Z5<|A2 s;rw[e]at a;exact⟨e.symm,Dx _ (by rw[a];exact Nat.le_max_left ..),Dx _<|by rw[a];exact Nat.le_max_right ..⟩
theorem Ba(x:Int)(l:List Int):first (x::l)=if x≠0 then x else first l:=by
 by_cases h:x=0
 ·subst h;rw[wc (by simp),first];rfl
 ·rw[wd h,first];simp[h]
theorem Eh(b:Bool)(e:Int):BJ b e=if b=true then e else 0:=by cases b<;>rfl
theorem CN{α:Type}{l r:List α}{x:α}{i:Nat}(h:l.drop i=x::r):l.take (i+1)=l.take i++[x]:=by
 have a:i<l.length:=by
  rcases Nat.lt_or_ge i l.length with b|b
  ·exact b
  ·rw[zz b]at h;cases h
 have c:=List.drop_eq_getElem_cons a;rw[h]at c;simp only[List.cons.injEq]at c;rw[List.take_add_one,zM a,c.1];rfl
end Go.Sp
namespace Go.Pe
open Sp
open Go.Det
structure RS(k:Nat)(f:Cq)(q:Rat):Prop where
 r:Wu f q
 z:Mf k q
theorem RS.s{k:Nat}{f:Cq}{q:Rat}(h:RS k f q)(a:k<=4000):vF 4000 q:=ZX h.z a
theorem RS.FZ{k:Nat}{f:Cq}{q:Rat}(h:RS k f q)(a:k<=4000):Sp.FZ f=true:=h.r.FZ<|h.s a
theorem RS.cmp{i j:Nat}{f g:Cq}{p q:Rat}(b:RS i f p)(a:RS j g q):GK f g=if p<q then -1 else if q<p then 1 else 0:=Wu.cmp b.r a.r
theorem RS.TH{i j:Nat}{f g:Cq}{p q:Rat}(b:RS i f p)(a:RS j g q):GK f g<=0↔p<=q:=by
 rw[b.cmp a];by_cases h:p<q
 ·rw[wd h];exact⟨fun _=>Rat.le_of_lt h,fun _=>by decide⟩
 ·rw[wc h];by_cases k:q<p
  ·rw[wd k];exact⟨fun x=>wh x (by decide),fun x=>wh k<|Rat.not_lt.2 x⟩
  ·rw[wc k];exact⟨fun _=>Rat.not_lt.1 k,fun _=>by decide⟩
theorem RS.dV{i j:Nat}{f g:Cq}{p q:Rat}(b:RS i f p)(a:RS j g q):GK f g<0↔p<q:=by
 rw[b.cmp a];by_cases h:p<q
 ·rw[wd h];exact⟨fun _=>h,fun _=>by decide⟩
 ·rw[wc h];by_cases k:q<p
  ·rw[wd k];exact⟨fun x=>wh x (by decide),fun x=>wh x h⟩
  ·rw[wc k];exact⟨fun x=>wh x (by decide),fun x=>wh x h⟩
theorem RS.Zp{i j:Nat}{f g:Cq}{p q:Rat}(b:RS i f p)(a:RS j g q):GK f g>0↔q<p:=by
 have h:=b.TH a;constructor
 ·intro k;exact Rat.not_le.1 fun x=>by have:=h.2 x;omega
 ·intro k;have:¬GK f g<=0:=fun x=>Rat.not_le.2 k<|h.1 x
  omega
theorem RS.OW{k:Nat}{f:Cq}{q:Rat}(h:RS k f q):(Ya f<0↔q<0)/\(Ya f=0↔q=0):=by
 have e:Ya f=Sp.OW q.num:=by unfold Ya;rw[h.r.vn]
 have n1:=Sp.neg_num q;rw[e];unfold Sp.OW;constructor
 ·rw[<-n1.1];split
  ·next c=>exact⟨fun _=>c,fun _=>by decide⟩
  ·next c=>
   split
   ·exact⟨fun x=>wh x (by decide),fun x=>wh x c⟩
   ·exact⟨fun x=>wh x (by decide),fun x=>wh x c⟩
 ·split
  ·next c=>exact⟨fun x=>wh x (by decide),fun x=>wh (n1.1.1 c)<|by rw[x];exact Rat.lt_irrefl⟩
  ·next c=>
   split
   ·next d=>exact⟨fun x=>wh x (by decide),fun x=>wh (n1.2.1 d)<|by rw[x];exact Rat.lt_irrefl⟩
   ·next d=>exact⟨fun _=>Rat.num_eq_zero.1 (by omega),fun _=>rfl⟩
theorem RS.D8{k:Nat}{f:Cq}{q:Rat}(h:RS k f q):Sp.D8 f.1=true:=h.r.n
theorem RY{s:Z}(h:As s=0):RS (Sp.Xv s) (Zc s) (A2 s):=⟨Kh (Dy h).1,(oH h).z⟩
theorem cX{n:Int}{k:Nat}(h:n.natAbs<10^k)(b:1<=k)(a:k<=18):RS k ((n,C5 n),(1,C5 1)) (n:Rat):=by
 have e:10^k<=10^18:=z6 (by decide) a;have d:10^1<=10^k:=z6 (by decide) b;have c:CC n=true:=by
  unfold CC;exact Aa (w4<|by omega) (w4 (by omega))
 refine⟨tD n c,?_,?_⟩
 ·rw[Rat.num_intCast];exact h
 ·rw[Rat.den_intCast];omega
end Go.Pe
namespace Go.Pe
open Go.Det
open Go.Sp (ER EV DL Cs K9 BX)
section
open List Int Prod
namespace T58
def T(s:Z):Tr:=tree TG false 9 58<|Ae ([zp]) s
def L1(v0:Z)(v3:Int):Tr:=re ((T []).R.R)<|Ax 56 [(0,.dat zp v0),(3,.dat i64 v3)] [] 0
theorem Ap(s:Z):T s=.di ((length s:Int)<1) (.leaf (.bl false) []) (.di ((length s:Int)>24) (.leaf (.bl false) [])<|L1 s 0):=by kernel_rfl
theorem Al(v0:Z)(v3:Int):stepT TG (L1 v0 v3)=let b':=(↑(qh<|getD v0 (toNat v3) (0:UInt8)):Int);let a:=L1 v0<|zc .i64<|v3+1;let b:Tr:=.leaf (.bl false) [];let d:=decide (v3<(length v0:Int));let e:Tr:=.ite (v3==0) b<|.di (b'>=48) (.di (b'<=57) a<|.ite (!b'==95) b a)<|.ite (!b'==95) b a;let c:Tr:=.di (b'>=65) (.ite (!decide (b'<=90)) e a) e;.ite d (.ck (decide (0<=v3)&&d)<|.di (b'>=97) (.di (b'<=122) a c) c) (.leaf (.bl true) []):=by kernel_rfl
end T58
end
theorem T52.mT:Ag Bm 52 Xq:=by
 refine Cj RD<|fun(s:Z) _=>?_;have d:∀v b,v=.bl b\/v=.dat .bool b->b=yf s->∀ob,Ad Xq s v ob:=by
  rintro v b (rfl|rfl) k ob
  ·exact zK rfl rfl k
  ·exact zK rfl rfl k
 refine zq (T52.Ap s) ?_;conv=>zeta
 refine zk (T52.Al ..) ?_;conv=>zeta
 cases s with
 |nil=>
  refine zj (by simp) (zj (by simp) ?_);exact zf<|d _ _ (.inl rfl) rfl _
 |cons x r=>
  refine zd (by simp) ?_;simp only[EF,Gr,w5,yb,w9,bne_iff_ne,wm,wk];have step:zO (x.toNat:Int)=true->Ja (x::r) 0=1->Ends TG (T52.L2 (x::r) (x::r)<|zQ 0<|Ja (x::r) 0) (Ad Xq (x::r)):=by
   intro a n;rw[n];refine T52.loop (x::r) (by simp) r 1 rfl (by simp) (by omega) (fun e=>d _ _ (.inl rfl) ?_) (fun e=>d _ _ (.inr rfl) ?_)
   ·simp[yf,e]
   ·simp only[yf,e,a,yw,zo];congr 1;apply propext;push_cast;omega
  have no:zO (x.toNat:Int)=false->∀ob,Ad Xq (x::r) (.bl false) ob:=fun a=>d _ _ (.inl rfl) (by simp[yf,a])
  have j:(x::r).getD 0 0=x:=rfl;by_cases l:((x::r).getD 0 0).toNat<128
  ·obtain⟨o,p⟩:=Tk (s:=x::r) (i:=0) (by simp) l;rw[o,j];have g:=Js (x.toNat:Int);generalize ((x.toNat:Nat):Int)=c at g step no ⊢;by_cases a:zO c=true
   ·have:=g.1 a;repeat' split
    all_goals first|exact step a p|(exfalso;omega)
   ·have f:zO c=false:=by simpa using a
    have:¬_:=fun h=>a<|g.2 h
    repeat' split
    all_goals first|exact no f _|(exfalso;omega)
  ·have q:=Pw (s:=x::r) (i:=0) (by simp) (by omega);have m:zO (x.toNat:Int)=false:=by
    have:¬zO (x.toNat:Int)=true:=fun h=>by
     have:=(Js _).1 h;rw[j]at l;omega
    simpa using this
   repeat' split
   all_goals first|exact no m _|(exfalso;omega)
namespace T58
variable {Q:PV->Ob->Prop}
theorem loop(s:Z)(q:s.length<=24):∀(r:Z) (i:Nat),s.drop i=r->i<=s.length->
  (((decide (1<=i)||zO ((r.headD 97).toNat:Int))&&(r.all fun c=>yh (c.toNat:Int)))=false->Q (.bl false) [])->(((decide (1<=i)||zO ((r.headD 97).toNat:Int))&&(r.all fun c=>yh (c.toNat:Int)))=true->Q (.bl true) [])->Ends TG (L1 s i) Q
 |[],i,h,n,f,b=>by
  have:=drop_nil h n;refine zk (Al ..) (zj (by simp;omega) ?_);exact zf (b<|by simp;exact .inr (by decide))
 |x::r,i,h,n,f,b=>by
  obtain⟨o,p,t⟩:=drop_cons (d:=0) h;refine zk (Al ..) ?_;conv=>zeta
  simp only[zg,p];rw[wr _ (by omega)<|by omega];have k:=Nv (x.toNat:Int);have li:=Js (x.toNat:Int);have step:(1<=i\/zO (x.toNat:Int)=true)->yh (x.toNat:Int)=true->Ends TG (L1 s<|(i:Int)+1) Q:=by
   intro hm m;have e:((i:Int)+1)=((i+1:Nat):Int):=by push_cast;rfl
   rw[e];refine loop s q r (i+1) t o (fun e=>f ?_)<|fun e=>b ?_
   ·simp only[yx,m,z8];have:(r.all fun c=>yh (c.toNat:Int))=false:=by simpa using e
    rw[this,Bool.and_false]
   ·have:(r.all fun c=>yh (c.toNat:Int))=true:=by simpa using e
    simp only[yx,m,this,yw,Bool.or_eq_true,w5,qg];exact hm
  have no:(¬(1<=i\/zO (x.toNat:Int)=true)\/yh (x.toNat:Int)=false)->Q (.bl false) []:=by
   intro hm;refine f ?_;simp only[qg,yx];rcases hm with hm|hm
   ·have:(decide (1<=i)||zO (x.toNat:Int))=false:=by
     rw[Bool.eq_false_iff];intro h;apply hm;simpa using h
    rw[this,Bool.false_and]
   ·rw[hm,Bool.false_and,Bool.and_false]
  generalize ((x.toNat:Nat):Int)=c at k li step no ⊢;by_cases hm:yh c=true
  ·have l:=k.1 hm;by_cases a:1<=i\/zO c=true
   ·have j:1<=i\/(97<=c/\c<=122)\/(65<=c/\c<=90):=a.imp id li.1;repeat' (with_reducible refine zh (fun _=>?_)<|fun _=>?_)
    all_goals first|with_reducible exact step a hm|(exfalso;simp only[w5,w9,yb,ze,yd,wj,wn,wm]at*;omega)
   ·have j:¬(1<=i\/(97<=c/\c<=122)\/(65<=c/\c<=90)):=fun h=>a<|h.imp id li.2
    repeat' (with_reducible refine zh (fun _=>?_)<|fun _=>?_)
    all_goals first|with_reducible exact zf (no<|.inl a)|(exfalso;simp only[w5,w9,yb,ze,yd,wj,wn,wm,Bool.not_eq_false']at*;omega)
  ·have g:yh c=false:=by simpa using hm
   have l:¬_:=fun h=>hm<|k.2 h
   repeat' (with_reducible refine zh (fun _=>?_)<|fun _=>?_)
   all_goals first|with_reducible exact zf (no<|.inr g)|(exfalso;simp only[w5,w9,yb,ze,yd,wj,wn,wm,Bool.not_eq_false']at*;omega)
theorem ok:Ag Bm 58 Xq:=by
 refine Cj RD<|fun(s:Z) _=>?_;have a:∀b,b=yf s->Ad Xq s (.bl b) []:=fun b g=>zK rfl rfl g
 refine zq (Ap s) ?_;conv=>zeta
 rw[EF];cases s with
 |nil=>rw[wd (by simp),Gr];exact a _ rfl
 |cons x r=>
  rw[wc (by simp;omega),EF];by_cases h:(x::r).length<=24
  ·rw[wc<|by simp at h ⊢;omega];have d:decide (r.length<=23)=true:=by simp at h ⊢;omega
   have key:yf (x::r)=((decide (1<=0)||zO (((x::r).headD 97).toNat:Int))&&((x::r).all fun c=>yh (c.toNat:Int))):=by
    simp only[yf,d,qg,yx,z8];cases f:zO (x.toNat:Int)with
    |false=>simp
    |true=>
     have:yh (x.toNat:Int)=true:=by unfold yh;rw[f];rfl
     simp[this]
   exact loop (x::r) h (x::r) 0 rfl (by simp) (fun e=>a _<|by rw[key];exact e.symm) (fun e=>a _<|by rw[key];exact e.symm)
  ·rw[wd (by simp at h ⊢;omega),Gr];exact a _ (by simp only[yf];rw[w8<|by simp at h;omega];rfl)
end T58
section
open List Int Prod
namespace T50
def T(l:List Int):Tr:=tree TG false 9 50<|Ae ([zi i64]) l
def L1(v5:List Int)(b a:Int):Tr:=re ((T []))<|Ax 15 [(5,.dat (zi i64) v5),(6,.dat i64 b),(7,.dat i64 a)] [] 0
theorem Ap(l:List Int):T l=L1 l ((length l:Int)) 0:=by kernel_rfl
theorem Al(v5:List Int)(b a:Int):stepT TG (L1 v5 b a)=.di (a<b) (.ck (decide (0<=a)&&decide (a<(length v5:Int)))<|.ite (getD v5 (toNat a) 0 !=0) (.leaf (.dat i64<|getD v5 (toNat a) 0) [])<|L1 v5 b<|zc .i64<|a+1) (.leaf (.dat i64 (0:Int)) []):=by kernel_rfl
end T50
namespace T51
def T(c:Bool)(e:Int):Tr:=tree TG false 9 51<|Ae ([zn,y8 zR]) (c,e)
theorem Ap(c:Bool)(e:Int):T c e=.ite c (.leaf (.dat i64 e) []) (.leaf (.dat i64 (0:Int)) []):=by kernel_rfl
end T51
namespace T63
def T(n m:Int):Tr:=tree tJ false 9 63<|Ae ([y8 zR,y8 zR]) (n,m)
theorem Ap(n m:Int):T n m=.ck true (.ck true<|.ck (decide (2<=2)&&true&&decide (2<=1000000))<|.leaf (.dat i64<|yu [Sp.BJ (n==0) 12,Sp.BJ (decide (n>m)) 5])<|[(0,.arr false 45 i64 [Sp.BJ (n==0) 12,Sp.BJ (decide (n>m)) 5])]):=by kernel_rfl
end T63
end
end Go.Pe
namespace Go.Pe
open Sp
open Go.Det
namespace T50
theorem loop{Q:PV->Ob->Prop}(l:List Int)(j:l.length<=1000000)(a:∀ob,Q (.dat i64<|yu l) ob):∀(r:List Int) (i:Nat),l.drop i=r->i<=l.length->yu l=yu r->Ends TG (L1 l ((l.length:Int)) (i:Int)) Q
 |[],i,h,c,e=>by
  have n:=drop_nil h c;refine zk (Al ..) (zj (w8<|by omega)<|zf ?_);rw[e]at a;exact a _
 |x::r,i,h,c,e=>by
  obtain⟨f,g,k⟩:=drop_cons (d:=0) h;refine zk (Al ..) ?_;conv=>zeta
  have m:zc .i64 ((i:Int)+1)=((i+1:Nat):Int):=by rw[wr _ (by omega)<|by omega];omega
  rw[m,zg,g];refine zd (w4<|by omega) (zd (Aa (w4<|by omega)<|w4<|by omega) ?_);by_cases b:x=0
  ·subst b;refine zj rfl (loop l j a r (i+1) k f ?_);rw[e];rfl
  ·have ex:yu (x::r)=x:=by unfold yu;rw[wd b]
   refine zd (by simpa using b)<|zf ?_;rw[e,ex]at a;exact a _
theorem ok:Ag Bm 50 F7:=by
 refine Cj RD<|fun(l:List Int) hl=>?_;exact zq (Ap l)<|loop l (w6 hl) (fun ob=>zK rfl rfl rfl) l 0 rfl (Nat.zero_le _) rfl
end T50
theorem T51.ok:Ag Bm 51 HW:=by
 refine Cj RD<|fun⟨c,e⟩ _=>?_;refine zq (T51.Ap c e)<|zh (fun h=>zf<|zK rfl rfl ?_)<|fun h=>zf<|zK rfl rfl ?_
 ·show e=BJ c e;rw[h];rfl
 ·show(0:Int)=BJ c e;rw[h];rfl
theorem YC:D3 tJ:=Ac T50.ok<|Ac T51.ok AP
theorem count_eq(n m:Int):yu [BJ (n==0) 12,BJ (decide (n>m)) 5]=Cx n m:=by
 rw[IQ,Eh,Eh];unfold Cx;by_cases h:n=0
 ·subst h;rfl
 ·have e:(n==0)=false:=by simpa using h
  rw[e,wc (show ¬(if false=true then(12:Int)else 0)≠0 by decide),wc h];by_cases k:m<n
  ·rw[wd k,w4<|show n>m from k];rfl
  ·rw[wc k,w8<|show ¬n>m from k];rfl
theorem T63.ok:Ag Bm 63 Yq:=by
 refine Cj YC<|fun(i:Int×Int) _=>?_;obtain⟨n,m⟩:=i;refine zq (T63.Ap n m) ?_;conv=>zeta
 rw[count_eq];exact zd rfl (zd rfl (zd rfl (zf<|zK rfl rfl rfl)))
end Go.Pe
namespace Go.Sp
theorem Tp(n:Int):Gd (rN n,rW n)=Bi ((n:Int):Rat):=by rw[Ow,Xd]
theorem cT{n:Int}{k:Nat}(h:n.natAbs<10^k)(a:1<=k):Nu k (Bi (n:Rat)) (n:Rat):=by
 have b:10^1<=10^k:=z6 (by decide) a;refine⟨rfl,?_,?_⟩
 ·rw[Rat.num_intCast];exact h
 ·rw[Rat.den_intCast];omega
end Go.Sp
