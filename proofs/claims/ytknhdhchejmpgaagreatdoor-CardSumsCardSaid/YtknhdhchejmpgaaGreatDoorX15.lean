import Derived.Test.YtknhdhchejmpgaaGreatDoorX14
import Derived.Test.YtknhdhchejmpgaaGreatDoorX11
import Derived.Test.YtknhdhchejmpgaaGreatDoorX13
/- A part of a proof (no law is stated here). Made by program out of texts by AI agents. -/
noncomputable section
set_option maxRecDepth 10000
open Go.IntKind renaming wrap -> zc, i64 -> yi, u64 -> qd
open Go.Pe.Ends renaming tt -> zd, leaf -> ze, ite -> zg, An -> zj, ff -> zk, eq -> zr
open Bool renaming and_eq_true -> zf, true_and -> y7
open Int renaming toNat_natCast -> zh, eq_ofNat_of_zero_le -> yc, tmod -> yj, mul_le_mul_of_nonneg_left -> ym, tdiv -> yp, tmod_eq_emod_of_nonneg -> yt, le_of_lt -> yu, lt_of_lt_of_le -> yw, gcd -> yz, natAbs_of_nonneg -> y9, mul_ne_zero -> qf, natCast_nonneg -> qg, tdiv_eq_ediv_of_nonneg -> qh, natAbs_mul -> qi, natAbs_natCast -> qk, mul_ediv_cancel_left -> ql, tdiv_eq_ediv_of_dvd -> qo, mul_zero -> qq, add_zero -> qt, lt_or_le -> qu, sign_eq_one_of_pos -> qv, one_mul -> qy, mul_nonneg -> qz, add_assoc -> jf, zero_sub -> ji, gcd_comm -> jj
open Go.Pe.Sh renaming list -> zi, bool -> zo, str -> zq, int -> yv, pair -> yx, nlist -> jd
open Rat renaming divInt -> zl, not_lt -> qw, den_natCast -> qx
open List renaming take_of_length_le -> zt, length_append -> zw, length_drop -> z6, length_cons -> ya, length_eq_zero_iff -> yd, drop_eq_nil_of_le -> ye, getD_eq_getElem?_getD -> yg, getElem?_eq_none -> yq, length_singleton -> yy, take -> qn, drop -> je
open Go.Sp renaming rW -> zu, rN -> z7, AM -> yr, B9 -> qc, vR -> qm, isNum -> qp, vI -> q9, first -> jc, gI -> jh
open Go.Pe.Ad renaming of -> z8
open Nat renaming le_refl -> yb, mod_two_eq_zero_or_one -> yh, add -> yk, sub -> yn, add_sub_cancel -> yo, lt_of_le_of_lt -> qj
open Go.Lib renaming decDigits -> yf
open UInt8 renaming ofNat -> y8, toNat_inj -> qe
open Go.Pe.T77 renaming Dl -> jg
namespace Go.Pe
open Sp
open Go.Det
section
open List Int Prod
namespace T229
def T(a:List Int)(i:Int):Tr:=tree XR0 false 9 229 (Af ([zi i64,yv yi]) (a,i))
theorem Am(a:List Int)(i:Int):T a i=.ite (decide (i<(length a:Int))) (.ite (decide (0<=i)&&decide (i<(length a:Int))) (.leaf (.dat i64 (getD a (toNat i) 0)) []) .fail) (.leaf (.dat i64 (0:Int)) []):=by kernel_rfl
end T229
namespace T169
def T(a b:List Int):Tr:=tree Vh false 9 169 (Af ([zi i64,zi i64]) (a,b))
def L1(v0 v1:List Int)(v6 v7:Int):Tr:=re ((T [] [])) (AD 42 [(0,.dat (zi i64) v0),(1,.dat (zi i64) v1),(5,.nil),(6,.dat i64 v6),(7,.dat i64 v7)] [] 0)
theorem Am(a b:List Int):T a b=L1 a b 0 0:=by kernel_rfl
def L2(v0 v1:List Int)(v5n:Nat)(v6 v7:Int)(o0:List Int):Tr:=re ((stepT Vh (L1 [] [] 0 0)).L.L.L.L.L.L) (AD 42 [(0,.dat (zi i64) v0),(1,.dat (zi i64) v1),(5,.sl 0 1 0 v5n none),(6,.dat i64 v6),(7,.dat i64 v7)] [(0,.arr false 3 i64 o0)] 1)
theorem Ap(v0 v1:List Int)(v6 v7:Int):stepT Vh (L1 v0 v1 v6 v7)=.ite (decide (v7<(length v0:Int))) (.ite (decide (0<=v7)) (.ite (decide (0<=v7)) (.ite true (.ite (decide (1<=1)&&decide (0<1)&&decide ((2*1+1000)*8<=281474976710656)) (.ite true (L2 v0 v1 1 (zc .i64 (yp (zc .i64 (zc .i64 (HL v0 v7+HL v1 v7)+v6)) 1000000000)) (zc .i64 (v7+1)) ([yj (zc .i64 (zc .i64 (HL v0 v7+HL v1 v7)+v6)) 1000000000])) .fail) .fail) .fail) .fail) .fail) (.ite (decide (v7<(length v1:Int))) (.ite (decide (0<=v7)) (.ite (decide (0<=v7)) (.ite true (.ite (decide (1<=1)&&decide (0<1)&&decide ((2*1+1000)*8<=281474976710656)) (.ite true (L2 v0 v1 1 (zc .i64 (yp (zc .i64 (zc .i64 (HL v0 v7+HL v1 v7)+v6)) 1000000000)) (zc .i64 (v7+1)) ([yj (zc .i64 (zc .i64 (HL v0 v7+HL v1 v7)+v6)) 1000000000])) .fail) .fail) .fail) .fail) .fail) (.ite (decide (v6>0)) (.ite (decide (0<=v7)) (.ite (decide (0<=v7)) (.ite true (.ite (decide (1<=1)&&decide (0<1)&&decide ((2*1+1000)*8<=281474976710656)) (.ite true (L2 v0 v1 1 (zc .i64 (yp (zc .i64 (zc .i64 (HL v0 v7+HL v1 v7)+v6)) 1000000000)) (zc .i64 (v7+1)) ([yj (zc .i64 (zc .i64 (HL v0 v7+HL v1 v7)+v6)) 1000000000])) .fail) .fail) .fail) .fail) .fail) (.leaf .nil []))):=by kernel_rfl
theorem AY(v0 v1:List Int)(v5n:Nat)(v6 v7:Int)(o0:List Int):stepT Vh (L2 v0 v1 v5n v6 v7 o0)=.ite (decide (v7<(length v0:Int))) (.ite (decide (0<=v7)) (.ite (decide (0<=v7)) (.ite true (.ite (decide (1<=1)&&true&&decide (v5n=length o0)&&decide ((2*(v5n+1)+1000)*8<=281474976710656)) (.ite true (L2 v0 v1 (yk v5n 1) (zc .i64 (yp (zc .i64 (zc .i64 (HL v0 v7+HL v1 v7)+v6)) 1000000000)) (zc .i64 (v7+1)) (o0++[yj (zc .i64 (zc .i64 (HL v0 v7+HL v1 v7)+v6)) 1000000000])) .fail) .fail) .fail) .fail) .fail) (.ite (decide (v7<(length v1:Int))) (.ite (decide (0<=v7)) (.ite (decide (0<=v7)) (.ite true (.ite (decide (1<=1)&&true&&decide (v5n=length o0)&&decide ((2*(v5n+1)+1000)*8<=281474976710656)) (.ite true (L2 v0 v1 (yk v5n 1) (zc .i64 (yp (zc .i64 (zc .i64 (HL v0 v7+HL v1 v7)+v6)) 1000000000)) (zc .i64 (v7+1)) (o0++[yj (zc .i64 (zc .i64 (HL v0 v7+HL v1 v7)+v6)) 1000000000])) .fail) .fail) .fail) .fail) .fail) (.ite (decide (v6>0)) (.ite (decide (0<=v7)) (.ite (decide (0<=v7)) (.ite true (.ite (decide (1<=1)&&true&&decide (v5n=length o0)&&decide ((2*(v5n+1)+1000)*8<=281474976710656)) (.ite true (L2 v0 v1 (yk v5n 1) (zc .i64 (yp (zc .i64 (zc .i64 (HL v0 v7+HL v1 v7)+v6)) 1000000000)) (zc .i64 (v7+1)) (o0++[yj (zc .i64 (zc .i64 (HL v0 v7+HL v1 v7)+v6)) 1000000000])) .fail) .fail) .fail) .fail) .fail) (.leaf (.sl 0 1 0 v5n none) ([(0,.arr false 3 i64 o0)])))):=by kernel_rfl
end T169
namespace T171
def T(a b:List Int):Tr:=tree Vh false 9 171 (Af ([zi i64,zi i64]) (a,b))
def L1(v0 v1:List Int)(v6 v7:Int):Tr:=re ((T [] [])) (AD 35 [(0,.dat (zi i64) v0),(1,.dat (zi i64) v1),(5,.nil),(6,.dat i64 v6),(7,.dat i64 v7)] [] 0)
theorem Am(a b:List Int):T a b=L1 a b 0 0:=by kernel_rfl
def L2(v0 v1:List Int)(v5n:Nat)(v6 v7:Int)(o0:List Int):Tr:=re ((stepT Vh (L1 [] [] 0 0)).L.L.L.L.L) (AD 35 [(0,.dat (zi i64) v0),(1,.dat (zi i64) v1),(5,.sl 0 1 0 v5n none),(6,.dat i64 v6),(7,.dat i64 v7)] [(0,.arr false 3 i64 o0)] 1)
theorem Ap(v0 v1:List Int)(v6 v7:Int):stepT Vh (L1 v0 v1 v6 v7)=.ite (decide (v7<(length v0:Int))) (.ite (decide (0<=v7)&&decide (v7<(length v0:Int))) (.ite (decide (0<=v7)) (.ite (decide (zc .i64 (zc .i64 (getD v0 (toNat v7) 0-HL v1 v7)-v6)<0)) (.ite (decide (1<=1)&&decide (0<1)&&decide ((2*1+1000)*8<=281474976710656)) (L2 v0 v1 1 1 (zc .i64 (v7+1)) ([zc .i64 (zc .i64 (zc .i64 (getD v0 (toNat v7) 0-HL v1 v7)-v6)+1000000000)])) .fail) (.ite (decide (1<=1)&&decide (0<1)&&decide ((2*1+1000)*8<=281474976710656)) (L2 v0 v1 1 0 (zc .i64 (v7+1)) ([zc .i64 (zc .i64 (getD v0 (toNat v7) 0-HL v1 v7)-v6)])) .fail)) .fail) .fail) (.ite true (.leaf (.dat (zi i64) (As [])) []) .fail):=by kernel_rfl
theorem AY(v0 v1:List Int)(v5n:Nat)(v6 v7:Int)(o0:List Int):stepT Vh (L2 v0 v1 v5n v6 v7 o0)=.ite (decide (v7<(length v0:Int))) (.ite (decide (0<=v7)&&decide (v7<(length v0:Int))) (.ite (decide (0<=v7)) (.ite (decide (zc .i64 (zc .i64 (getD v0 (toNat v7) 0-HL v1 v7)-v6)<0)) (.ite (decide (1<=1)&&true&&decide (v5n=length o0)&&decide ((2*(v5n+1)+1000)*8<=281474976710656)) (L2 v0 v1 (yk v5n 1) 1 (zc .i64 (v7+1)) (o0++[zc .i64 (zc .i64 (zc .i64 (getD v0 (toNat v7) 0-HL v1 v7)-v6)+1000000000)])) .fail) (.ite (decide (1<=1)&&true&&decide (v5n=length o0)&&decide ((2*(v5n+1)+1000)*8<=281474976710656)) (L2 v0 v1 (yk v5n 1) 0 (zc .i64 (v7+1)) (o0++[zc .i64 (zc .i64 (getD v0 (toNat v7) 0-HL v1 v7)-v6)])) .fail)) .fail) .fail) (.ite (decide (0+v5n<=length o0)&&true&&decide (length (take v5n o0)<=20000)) (.leaf (.dat (zi i64) (As (take v5n o0))) ([(0,.arr true 3 i64 o0)])) .fail):=by kernel_rfl
end T171
namespace T97
def T(a b:Bool×List Int):Tr:=tree XR2 false 9 97 (Af ([yx zo (zi i64),yx zo (zi i64)]) (a,b))
theorem Am(a b:Bool×List Int):T a b=.ite (fst a==fst b) (.ite (kO (snd a) (snd b)) (.ite (decide (length (LO (snd a) (snd b))<=20000)) (.leaf (PV.agg [.dat zo (B7 (fst a) (LO (snd a) (snd b))),.dat (zi i64) (As (LO (snd a) (snd b)))]) ([(yk (yk 0 1) 1,.box [.dat zo (B7 (fst a) (LO (snd a) (snd b))),.dat (zi i64) (As (LO (snd a) (snd b)))]),(yk 0 1,.box [.dat zo (fst b),.dat (zi i64) (snd b)]),(0,.box [.dat zo (fst a),.dat (zi i64) (snd a)])])) .fail) .fail) (.ite (A5 (snd a)&&A5 (snd b)) (.ite (decide (BO (Ar (snd a)) (Ar (snd b))>=0)) (.ite (kO (snd a) (snd b)&&decide (Ar (snd b)<=Ar (snd a))) (.ite (decide (length (GC (snd a) (snd b))<=20000)) (.leaf (PV.agg [.dat zo (B7 (fst a) (GC (snd a) (snd b))),.dat (zi i64) (As (GC (snd a) (snd b)))]) ([(yk (yk 0 1) 1,.box [.dat zo (B7 (fst a) (GC (snd a) (snd b))),.dat (zi i64) (As (GC (snd a) (snd b)))]),(yk 0 1,.box [.dat zo (fst b),.dat (zi i64) (snd b)]),(0,.box [.dat zo (fst a),.dat (zi i64) (snd a)])])) .fail) .fail) (.ite (kO (snd b) (snd a)&&decide (Ar (snd a)<=Ar (snd b))) (.ite (decide (length (GC (snd b) (snd a))<=20000)) (.leaf (PV.agg [.dat zo (B7 (fst b) (GC (snd b) (snd a))),.dat (zi i64) (As (GC (snd b) (snd a)))]) ([(yk (yk 0 1) 1,.box [.dat zo (B7 (fst b) (GC (snd b) (snd a))),.dat (zi i64) (As (GC (snd b) (snd a)))]),(yk 0 1,.box [.dat zo (fst b),.dat (zi i64) (snd b)]),(0,.box [.dat zo (fst a),.dat (zi i64) (snd a)])])) .fail) .fail)) .fail):=by kernel_rfl
end T97
namespace T98
def T(a b:Bool×List Int):Tr:=tree XR2 false 9 98 (Af ([yx zo (zi i64),yx zo (zi i64)]) (a,b))
theorem Am(a b:Bool×List Int):T a b=.ite (Sp.hR (snd a)&&Sp.hR (snd b)) (.ite (decide (length (BN (Ar (snd a)*Ar (snd b)))<=20000)) (.leaf (PV.agg [.dat zo (B7 (!fst a==fst b) (BN (Ar (snd a)*Ar (snd b)))),.dat (zi i64) (As (BN (Ar (snd a)*Ar (snd b))))]) ([(yk (yk 0 1) 1,.box [.dat zo (B7 (!fst a==fst b) (BN (Ar (snd a)*Ar (snd b)))),.dat (zi i64) (As (BN (Ar (snd a)*Ar (snd b))))]),(yk 0 1,.box [.dat zo (fst b),.dat (zi i64) (snd b)]),(0,.box [.dat zo (fst a),.dat (zi i64) (snd a)])])) .fail) .fail:=by kernel_rfl
end T98
namespace T166
def T(a:Bool×List Int):Tr:=tree XR2 false 9 166 (Af ([yx zo (zi i64)]) a)
theorem Am(a:Bool×List Int):T a=.ite (decide (length (snd a)<=20000)) (.leaf (PV.agg [.dat zo (B7 (!fst a) (snd a)),.dat (zi i64) (As (snd a))]) ([(yk 0 1,.box [.dat zo (B7 (!fst a) (snd a)),.dat (zi i64) (As (snd a))]),(0,.box [.dat zo (fst a),.dat (zi i64) (snd a)])])) .fail:=by kernel_rfl
end T166
namespace T167
def T(a:Bool×List Int):Tr:=tree XR3 false 9 167 (Af ([yx zo (zi i64)]) a)
def L1(v3:List UInt8)(v4:Int)(o0:Bool)(o0_1:List Int):Tr:=re ((T (false,[])).R.L.L) (AD 39 [(1,.ptr 0 0),(3,.dat zq v3),(4,.dat i64 v4)] [(0,.box [.dat zo o0,.dat (zi i64) o0_1])] 1)
theorem Am(a:Bool×List Int):T a=.ite ((↑(length (snd a)):Int)==0) (.leaf (.dat zq [(48:UInt8)]) ([(0,.box [.dat zo (fst a),.dat (zi i64) (snd a)])])) (.ite (decide (0<=zc .i64 ((↑(length (snd a)):Int)-1))&&decide (zc .i64 ((↑(length (snd a)):Int)-1)<(↑(length (snd a)):Int))) (.ite (decide (0<=getD (snd a) (toNat (zc .i64 ((↑(length (snd a)):Int)-1))) 0)&&decide (getD (snd a) (toNat (zc .i64 ((↑(length (snd a)):Int)-1))) 0<9223372036854775808)&&decide (0<=1)&&decide (1<=20)) (L1 (HT (getD (snd a) (toNat (zc .i64 ((↑(length (snd a)):Int)-1))) 0) 1) (zc .i64 ((↑(length (snd a)):Int)-2)) (fst a) (snd a)) .fail) .fail):=by kernel_rfl
theorem Ap(v3:List UInt8)(v4:Int)(o0:Bool)(o0_1:List Int):stepT XR3 (L1 v3 v4 o0 o0_1)=.ite (decide (v4>=0)) (.ite (decide (0<=v4)&&decide (v4<(length o0_1:Int))) (.ite (decide (0<=getD o0_1 (toNat v4) 0)&&decide (getD o0_1 (toNat v4) 0<9223372036854775808)&&decide (0<=9)&&decide (9<=20)) (.ite (decide (length v3+length (HT (getD o0_1 (toNat v4) 0) 9)<=4611686018427387904)) (L1 (v3++HT (getD o0_1 (toNat v4) 0) 9) (zc .i64 (v4-1)) o0 o0_1) .fail) .fail) .fail) (.ite o0 (.ite (decide (1+length v3<=4611686018427387904)) (.leaf (.dat zq ([(45:UInt8)]++v3)) ([(0,.box [.dat zo o0,.dat (zi i64) o0_1])])) .fail) (.leaf (.dat zq v3) ([(0,.box [.dat zo o0,.dat (zi i64) o0_1])]))):=by kernel_rfl
end T167
namespace T96
def T(a b:Bool×List Int):Tr:=tree kN false 9 96 (Af ([yx zo (zi i64),yx zo (zi i64)]) (a,b))
def L1(o1:Bool)(o1_1:List Int)(o0:Bool)(o0_1:List Int):Tr:=re ((T (false,[]) (false,[])).L.L.L) (AD 57 [(2,.ptr 0 0),(3,.ptr 1 0)] [(1,.box [.dat zo o1,.dat (zi i64) o1_1]),(0,.box [.dat zo o0,.dat (zi i64) o0_1])] 2)
theorem Am(a b:Bool×List Int):T a b=.ite (fst b) (.ite (CM (fst a,snd a)) (.ite (CM (fst b,snd b)) (L1 (Sc (fst b,snd b)) (RV (fst b,snd b)) (Sc (fst a,snd a)) (RV (fst a,snd a))) .fail) .fail) (L1 (fst b) (snd b) (fst a) (snd a)):=by kernel_rfl
def L2(v8:List Int)(v10:List UInt8):Tr:=re ((stepT kN (L1 false [] false [])).L.L.L.L.L) (AD 57 [(8,.dat (zi i64) v8),(10,.dat zq v10)] [] 0)
theorem Ap(o1:Bool)(o1_1:List Int)(o0:Bool)(o0_1:List Int):stepT kN (L1 o1 o1_1 o0 o0_1)=.ite (A5 o0_1&&A5 o1_1&&decide (length o0_1<=9000)&&decide (length o1_1<=9000)) (.ite (A5 o0_1&&A5 (Cm o0_1 o1_1)&&decide (length o0_1<=9000)&&decide (length (Cm o0_1 o1_1)<=9000)&&decide (0<Ar (Cm o0_1 o1_1))) (.ite (A5 o1_1&&A5 (Cm o0_1 o1_1)&&decide (length o1_1<=9000)&&decide (length (Cm o0_1 o1_1)<=9000)&&decide (0<Ar (Cm o0_1 o1_1))) (.ite (decide (length (BN (Ar o0_1/Ar (Cm o0_1 o1_1)))<=20000)) (.ite (CM (B7 o0 (BN (Ar o0_1/Ar (Cm o0_1 o1_1))),As (BN (Ar o0_1/Ar (Cm o0_1 o1_1))))) (L2 (BN (Ar o1_1/Ar (Cm o0_1 o1_1))) (JL (B7 o0 (BN (Ar o0_1/Ar (Cm o0_1 o1_1))),As (BN (Ar o0_1/Ar (Cm o0_1 o1_1)))))) .fail) .fail) .fail) .fail) .fail:=by kernel_rfl
def L3(v8:List Int)(v10:List UInt8):Tr:=re ((stepT kN (L2 [] [])).L.L.R) (AD 57 [(8,.dat (zi i64) v8),(10,.dat zq v10)] [] 0)
theorem AY(v8:List Int)(v10:List UInt8):stepT kN (L2 v8 v10)=.ite ((length v8:Int)==1) (.ite (decide (0<(length v8:Int))) (.ite (getD v8 0 0==1) (.leaf (.dat zq v10) []) (L3 v8 v10)) .fail) (L3 v8 v10):=by kernel_rfl
theorem CH(v8:List Int)(v10:List UInt8):stepT kN (L3 v8 v10)=.ite (decide (length v10+1<=4611686018427387904)) (.ite (decide (length v8<=20000)) (.ite (CM (B7 false v8,As v8)) (.ite (decide (length (v10++[(47:UInt8)])+length (JL (B7 false v8,As v8))<=4611686018427387904)) (.leaf (.dat zq (v10++[(47:UInt8)]++JL (B7 false v8,As v8))) []) .fail) .fail) .fail) .fail:=by kernel_rfl
end T96
namespace T36
def T(n d:Int):Tr:=tree aO false 9 36 (Af ([yv yi,yv yi]) (n,d))
def L1(v0 v1:Int):Tr:=re ((T 0 0).R.R.R.R) (AD 61 [(0,.dat i64 v0),(1,.dat i64 v1)] [] 0)
theorem Am(n d:Int):T n d=.ite (decide (n<(-4000000000000000000))) (.ite (CD n) (.ite (CD d) (.ite (CM (z7 n,zu n)&&CM (z7 d,zu d)&&decide (qm (z7 d,zu d)≠0)) (.leaf (.dat zq (HM (z7 n,zu n) (z7 d,zu d))) []) .fail) .fail) .fail) (.ite (decide (n>4000000000000000000)) (.ite (CD n) (.ite (CD d) (.ite (CM (z7 n,zu n)&&CM (z7 d,zu d)&&decide (qm (z7 d,zu d)≠0)) (.leaf (.dat zq (HM (z7 n,zu n) (z7 d,zu d))) []) .fail) .fail) .fail) (.ite (decide (d<(-4000000000000000000))) (.ite (CD n) (.ite (CD d) (.ite (CM (z7 n,zu n)&&CM (z7 d,zu d)&&decide (qm (z7 d,zu d)≠0)) (.leaf (.dat zq (HM (z7 n,zu n) (z7 d,zu d))) []) .fail) .fail) .fail) (.ite (decide (d>4000000000000000000)) (.ite (CD n) (.ite (CD d) (.ite (CM (z7 n,zu n)&&CM (z7 d,zu d)&&decide (qm (z7 d,zu d)≠0)) (.leaf (.dat zq (HM (z7 n,zu n) (z7 d,zu d))) []) .fail) .fail) .fail) (L1 n d)))):=by kernel_rfl
def L2(v0 v1:Int):Tr:=re ((stepT aO (L1 0 0)).L) (AD 61 [(0,.dat i64 v0),(1,.dat i64 v1)] [] 0)
theorem Ap(v0 v1:Int):stepT aO (L1 v0 v1)=.ite (decide (v1<0)) (L2 (zc .i64 (0-v0)) (zc .i64 (0-v1))) (L2 v0 v1):=by kernel_rfl
def L3(v0 v1:Int):Tr:=re ((stepT aO (L2 0 0)).L.L.L) (AD 61 [(0,.dat i64 v0),(1,.dat i64 v1)] [] 0)
theorem AY(v0 v1:Int):stepT aO (L2 v0 v1)=.ite (yU (imax v0 (zc .i64 (0-v0))) v1) (.ite (decide (jh (imax v0 (zc .i64 (0-v0))) v1≠0)) (.ite (decide (jh (imax v0 (zc .i64 (0-v0))) v1≠0)) (L3 (zc .i64 (yp v0 (jh (imax v0 (zc .i64 (0-v0))) v1))) (zc .i64 (yp v1 (jh (imax v0 (zc .i64 (0-v0))) v1)))) .fail) .fail) .fail:=by kernel_rfl
def L4(v1:Int)(v6:List UInt8):Tr:=re ((stepT aO (L3 0 0)).L.L.L) (AD 61 [(1,.dat i64 v1),(6,.dat zq v6)] [] 0)
theorem CH(v0 v1:Int):stepT aO (L3 v0 v1)=.ite (decide (v0<0)) (.ite (decide (0<=imax v0 (zc .i64 (0-v0)))&&decide (imax v0 (zc .i64 (0-v0))<9223372036854775808)&&decide (0<=1)&&decide (1<=20)) (.ite (decide (1+length (HT (imax v0 (zc .i64 (0-v0))) 1)<=4611686018427387904)) (L4 v1 ([(45:UInt8)]++HT (imax v0 (zc .i64 (0-v0))) 1)) .fail) .fail) (.ite (decide (0<=imax v0 (zc .i64 (0-v0)))&&decide (imax v0 (zc .i64 (0-v0))<9223372036854775808)&&decide (0<=1)&&decide (1<=20)) (.ite (decide (0+length (HT (imax v0 (zc .i64 (0-v0))) 1)<=4611686018427387904)) (L4 v1 ([]++HT (imax v0 (zc .i64 (0-v0))) 1)) .fail) .fail):=by kernel_rfl
theorem CJ(v1:Int)(v6:List UInt8):stepT aO (L4 v1 v6)=.ite (decide (v1>1)) (.ite (decide (length v6+1<=4611686018427387904)) (.ite (decide (0<=v1)&&decide (v1<9223372036854775808)&&decide (0<=1)&&decide (1<=20)) (.ite (decide (length (v6++[(47:UInt8)])+length (HT v1 1)<=4611686018427387904)) (.leaf (.dat zq (v6++[(47:UInt8)]++HT v1 1)) []) .fail) .fail) .fail) (.leaf (.dat zq v6) []):=by kernel_rfl
end T36
namespace T108
def T(a b:Int):Tr:=tree Ng false 9 108 (Af ([yv yi,yv yi]) (a,b))
def L1(v0 v1:Int):Tr:=re ((T 0 0)) (AD 12 [(0,.dat i64 v0),(1,.dat i64 v1)] [] 0)
theorem Am(a b:Int):T a b=L1 a b:=by kernel_rfl
theorem Ap(v0 v1:Int):stepT Ng (L1 v0 v1)=.ite (decide (v1>0)) (.ite (decide (v1≠0)) (L1 v1 (yj v0 v1)) .fail) (.leaf (.dat i64 v0) []):=by kernel_rfl
end T108
namespace T41
def T(s:List UInt8):Tr:=tree Ng false 9 41 (Af ([zq]) s)
theorem Am(s:List UInt8):T s=let a':Tr:=.leaf (.dat i64 (1:Int)) [];.ite (s==[(48:UInt8)]) (.leaf (.dat i64 (0:Int)) []) (.ite (decide ((length s:Int)>0)) (.ite (decide (0<(length s:Int))) (.ite ((↑(UInt8.toNat (getD s 0 (0:UInt8))):Int)==45) (.leaf (.dat i64 (-1:Int)) []) a') .fail) a'):=by kernel_rfl
end T41
namespace T99
def T(s:List UInt8):Tr:=tree XO2 false 9 99 (Af ([zq]) s)
theorem Am(s:List UInt8):T s=let a':=decide (length s<=1000000);.ite a' (.ite (decide (Fx s<0)) (.ite (decide (1<=length s)&&decide (length s<=length s)) (.leaf (.dat zq (take (yn (length s) 1) (drop 1 s))) []) .fail) (.ite a' (.ite (Fx s==0) (.leaf (.dat zq s) []) (.ite (decide (1+length s<=4611686018427387904)) (.leaf (.dat zq ([(45:UInt8)]++s)) []) .fail)) .fail)) .fail:=by kernel_rfl
end T99
namespace T109
def T(n l:Int):Tr:=tree Ng false 9 109 (Af ([yv yi,yv yi]) (n,l))
def L1(v0 v1:Int)(v5:List UInt8):Tr:=re ((T 0 0)) (AD 25 [(0,.dat i64 v0),(1,.dat i64 v1),(5,.dat zq v5)] [] 0)
theorem Am(n l:Int):T n l=L1 n l []:=by kernel_rfl
theorem Ap(v0 v1:Int)(v5:List UInt8):stepT Ng (L1 v0 v1 v5)=let c':=zc .i64 (yj v0 10+1);let d':=toNat (yj v0 10);let b':=drop d' [(48:UInt8),(49:UInt8),(50:UInt8),(51:UInt8),(52:UInt8),(53:UInt8),(54:UInt8),(55:UInt8),(56:UInt8),(57:UInt8)];let a':Tr:=.ite true (.ite true (.ite (decide (0<=yj v0 10)&&decide (0<=zc .i64 (yj v0 10+1))&&decide (toNat (yj v0 10)<=toNat c')&&decide (toNat c'<=10)) (.ite (decide (length (take (yn (toNat c') d') b')+length v5<=4611686018427387904)) (.ite true (L1 (zc .i64 (yp v0 10)) v1 (take (yn (toNat c') d') b'++v5)) .fail) .fail) .fail) .fail) .fail;.ite (decide (v0>0)) a' (.ite (decide ((length v5:Int)<v1)) a' (.leaf (.dat zq v5) [])):=by kernel_rfl
end T109
namespace T95
def T(s:List UInt8):Tr:=tree Nv false 9 95 (Af ([zq]) s)
def L1(v5:List UInt8)(v6:Bool):Tr:=re ((T []).R.L.L) (AD 54 [(5,.dat zq v5),(6,.dat zo v6)] [] 0)
def L2(v5:List UInt8):Tr:=re ((T []).R.R) (AD 54 [(5,.dat zq v5),(6,.bl false)] [] 0)
theorem Am(s:List UInt8):T s=let a':=(length s:Int);.ite (decide (a'>20)) (.leaf (.tup [.dat i64 (0:Int),.dat i64 (0:Int),.bl false]) []) (.ite (decide (a'>0)) (.ite (decide (0<a')) (L1 s ((↑(UInt8.toNat (getD s 0 (0:UInt8))):Int)==45)) .fail) (L2 s)):=by kernel_rfl
def L3(v5:List UInt8)(v6:Bool):Tr:=re ((stepT Nv (L1 [] false)).L.L) (AD 54 [(5,.dat zq v5),(6,.dat zo v6)] [] 0)
theorem Ap(v5:List UInt8)(v6:Bool):stepT Nv (L1 v5 v6)=.ite v6 (.ite (decide (1<=length v5)&&decide (length v5<=length v5)) (L3 (take (yn (length v5) 1) (drop 1 v5)) v6) .fail) (L3 v5 v6):=by kernel_rfl
def L4(v5:List UInt8):Tr:=re ((stepT Nv (L2 []))) (AD 54 [(5,.dat zq v5),(6,.bl false)] [] 0)
theorem AY(v5:List UInt8):stepT Nv (L2 v5)=L4 v5:=by kernel_rfl
def L5(v5:List UInt8)(v6:Bool)(v7 v8 v9:Int):Tr:=re ((stepT Nv (L3 [] false)).L.R.R.L.L) (AD 54 [(5,.dat zq v5),(6,.dat zo v6),(7,.dat i64 v7),(8,.dat i64 v8),(9,.dat i64 v9)] [] 0)
theorem CH(v5:List UInt8)(v6:Bool):stepT Nv (L3 v5 v6)=let a':Tr:=.leaf (.tup [.dat i64 (0:Int),.dat i64 (0:Int),.bl false]) [];let b':=AV v5;.ite (decide (length v5<=1000000)) (.ite (decide (AV v5>9)) a' (.ite (decide (zc .i64 ((length v5:Int)-AV v5)>10)) a' (.ite (decide (0<=AV v5)&&decide (0<=toNat b')&&decide (toNat b'<=length v5)) (.ite (DU (take (toNat b') v5)) (L5 v5 v6 b' (Bu (take (toNat b') v5)) 1) .fail) .fail))) .fail:=by kernel_rfl
def L6(v5:List UInt8)(v7 v8 v9:Int):Tr:=re ((stepT Nv (L4 [])).L.R.R.L.L) (AD 54 [(5,.dat zq v5),(6,.bl false),(7,.dat i64 v7),(8,.dat i64 v8),(9,.dat i64 v9)] [] 0)
theorem CJ(v5:List UInt8):stepT Nv (L4 v5)=let a':Tr:=.leaf (.tup [.dat i64 (0:Int),.dat i64 (0:Int),.bl false]) [];let b':=AV v5;.ite (decide (length v5<=1000000)) (.ite (decide (AV v5>9)) a' (.ite (decide (zc .i64 ((length v5:Int)-AV v5)>10)) a' (.ite (decide (0<=AV v5)&&decide (0<=toNat b')&&decide (toNat b'<=length v5)) (.ite (DU (take (toNat b') v5)) (L6 v5 b' (Bu (take (toNat b') v5)) 1) .fail) .fail))) .fail:=by kernel_rfl
def L7(v6:Bool)(v8 v9:Int):Tr:=re ((stepT Nv (L5 [] false 0 0 0)).L.L.L) (AD 54 [(6,.dat zo v6),(8,.dat i64 v8),(9,.dat i64 v9)] [] 0)
theorem E5(v5:List UInt8)(v6:Bool)(v7 v8 v9:Int):stepT Nv (L5 v5 v6 v7 v8 v9)=let b':=zc .i64 (v7+1);let a':=take (yn (length v5) (toNat b')) (drop (toNat b') v5);.ite (decide (v7<(length v5:Int))) (.ite (decide (0<=zc .i64 (v7+1))&&true&&decide (toNat b'<=length v5)&&decide (length v5<=length v5)) (.ite (DU a') (L7 v6 v8 (Bu a')) .fail) .fail) (L7 v6 v8 v9):=by kernel_rfl
def L8(v8 v9:Int):Tr:=re ((stepT Nv (L6 [] 0 0 0)).L.L.L) (AD 54 [(6,.bl false),(8,.dat i64 v8),(9,.dat i64 v9)] [] 0)
theorem FQ(v5:List UInt8)(v7 v8 v9:Int):stepT Nv (L6 v5 v7 v8 v9)=let b':=zc .i64 (v7+1);let a':=take (yn (length v5) (toNat b')) (drop (toNat b') v5);.ite (decide (v7<(length v5:Int))) (.ite (decide (0<=zc .i64 (v7+1))&&true&&decide (toNat b'<=length v5)&&decide (length v5<=length v5)) (.ite (DU a') (L8 v8 (Bu a')) .fail) .fail) (L8 v8 v9):=by kernel_rfl
theorem ET(v6:Bool)(v8 v9:Int):stepT Nv (L7 v6 v8 v9)=.ite v6 (.leaf (.tup [.dat i64 (zc .i64 (0-v8)),.dat i64 v9,.bl true]) []) (.leaf (.tup [.dat i64 v8,.dat i64 v9,.bl true]) []):=by kernel_rfl
theorem HO(v8 v9:Int):stepT Nv (L8 v8 v9)=.leaf (.tup [.dat i64 v8,.dat i64 v9,.bl true]) []:=by kernel_rfl
end T95
namespace T100
def T(a:List UInt8):Tr:=tree Ng false 9 100 (Af ([zq]) a)
theorem Am(a:List UInt8):T a=let a':Tr:=.ite (decide (1<=length a)&&decide (length a<=length a)) (.leaf (.dat zq (take (yn (length a) 1) (drop 1 a))) []) .fail;let b':Tr:=.ite false a' (.leaf (.dat zq a) []);.ite (a==[(48:UInt8)]) b' (.ite (decide ((length a:Int)>0)) (.ite (decide (0<(length a:Int))) (.ite ((↑(UInt8.toNat (getD a 0 (0:UInt8))):Int)==45) (.ite true a' (.leaf (.dat zq a) [])) b') .fail) b'):=by kernel_rfl
end T100
namespace T101
def T(a:List UInt8):Tr:=tree XM5 false 9 101 (Af ([zq]) a)
theorem Am(a:List UInt8):T a=.ite (decide (length a<=1000000)) (.ite (decide (0<=AV a)&&decide (0<=toNat (AV a))&&decide (toNat (AV a)<=length a)) (.leaf (.dat zq (take (toNat (AV a)) a)) []) .fail) .fail:=by kernel_rfl
end T101
namespace T102
def T(a:List UInt8):Tr:=tree XM5 false 9 102 (Af ([zq]) a)
theorem Am(a:List UInt8):T a=let a':=zc .i64 (AV a+1);.ite (decide (length a<=1000000)) (.ite (AV a==(length a:Int)) (.leaf (.dat zq [(49:UInt8)]) []) (.ite (decide (0<=zc .i64 (AV a+1))&&true&&decide (toNat a'<=length a)&&decide (length a<=length a)) (.leaf (.dat zq (take (yn (length a) (toNat a')) (drop (toNat a') a))) []) .fail)) .fail:=by kernel_rfl
end T102
namespace T31
def T(a:List UInt8)(n:Int):Tr:=tree XM3 false 9 31 (Af ([zq,yv yi]) (a,n))
theorem Am(a:List UInt8)(n:Int):T a n=let a':=decide (length a<=1000000);let b':Tr:=.leaf (.bl false) [];.ite (decide ((length a:Int)<=zc .i64 (zc .i64 (2*n)+2))) (.ite a' (.ite (AF a==0) (.ite a' (.ite (decide (length (Aw a)<=1000000)) (.ite (decide ((↑(length (AZ (Aw a))):Int)<=n)) (.ite a' (.leaf (.dat zo (decide ((↑(length (P0 a)):Int)<=n))) []) .fail) b') .fail) .fail) b') .fail) b':=by kernel_rfl
end T31
namespace T46
def T(a:List UInt8)(n:Int):Tr:=tree XM4 false 9 46 (Af ([zq,yv yi]) (a,n))
theorem Am(a:List UInt8)(n:Int):T a n=.ite (decide ((length a:Int)<=40)) (.ite (decide (length a<=1000000)) (.ite (AF a !=0) (.leaf (.bl true) []) (.ite (decide (0<=n)&&decide (n<=1000)) (.leaf (.dat zo (Ps a n)) []) .fail)) .fail) (.leaf (.bl false) []):=by kernel_rfl
end T46
end
theorem W8:D3 XM5:=Aa T89.ok AO
theorem T100.ok:Ag Bh 100 XZ:=by
 refine Cn E9 (fun(a:List UInt8) hl=>?_);have hl:a.length<=1000000:=w6 hl;have hq:∀s ob,s=AZ a->Ad XZ a (.dat .str s) ob:=fun s ob h=>z8 rfl rfl h
 refine zr (T100.Am a) (zg (fun c=>zk rfl (ze (hq _ _ ?_))) (fun c=>?_))
 ·have c:a=[48]:=by simpa using c
  subst c;rfl
 ·cases a with
  |nil=>exact zk rfl (zk rfl (ze (hq _ _ rfl)))
  |cons x r=>
   have g0:(x::r).getD 0 0=x:=rfl;have e:(je 1 (x::r)).take (yn (x::r).length 1)=r:=by show r.take ((r.length+1)-1)=r;rw[yo];exact List.take_length
   rw[g0,e];refine zd (by simp) (zd (by simp) (zg (fun d=>zd rfl (zd (by simp) (ze (hq _ _ ?_)))) (fun d=>zk rfl (ze (hq _ _ ?_)))))
   ·have hc:x=45:=by
     have:(x.toNat:Int)=45:=by simpa using d
     exact qe.1 (by show _=45;omega)
    unfold AZ;rw[g0,wd hc];rfl
   ·have hc:x≠45:=by rintro rfl;exact wh d (by decide)
    unfold AZ;rw[g0,wc hc]
theorem T101.ok:Ag Bh 101 jV:=by
 refine Cn W8 (fun(a:List UInt8) hl=>?_);have hle:=(jg a).1;refine zr (T101.Am a) (zd hl ?_);rw[show AV a=((Aw a).length:Int)from rfl,zh];exact zd (by simp;omega) (ze (z8 rfl rfl (BE a).1.symm))
theorem T102.ok:Ag Bh 102 Tt:=by
 refine Cn W8 (fun(a:List UInt8) hl=>?_);have hl':a.length<=1000000:=w6 hl;obtain⟨c1,c2,c3⟩:=BE a;have hq:∀s ob,s=P0 a->Ad Tt a (.dat .str s) ob:=fun s ob h=>z8 rfl rfl h
 have hle:=(jg a).1;have es:AV a=((Aw a).length:Int):=rfl;refine zr (T102.Am a) (zd hl ?_);rw[es];cases hc:Bj a with
 |false=>
  refine zd (by rw[(c3 hc).1];simp) (ze (hq _ _ ?_));unfold P0;rw[hc];rfl
 |true=>
  obtain⟨k1,k2⟩:=c2 hc;have e1:zc .i64 (((Aw a).length:Int)+1)=(((Aw a).length+1:Nat):Int):=by rw[wr _ (by omega) (by omega)];omega
  have e2:(a.drop ((Aw a).length+1)).take (yn a.length ((Aw a).length+1))=a.drop ((Aw a).length+1):=zt (by rw[z6];exact yb _);rw[e1,zh,e2];refine zk (by simp;omega) (zd (by simp;omega) (ze (hq _ _ ?_)));unfold P0;rw[hc,k2];rfl
theorem qL:D3 XM3:=Aa T24.ok (Aa T100.ok (Aa T101.ok (Aa T102.ok AO)))
theorem T31.ok:Ag Bh 31 bI:=by
 refine Cn qL (fun(i:List UInt8×Int) hi=>?_);obtain⟨a,n⟩:=i;have hi:(decide (0<=n)&&decide (n<=1000))=true:=hi;rw[zf,w5,w5]at hi;obtain⟨h0,h1⟩:=hi;have hq:∀v b ob,v=.bl b\/v=.dat .bool b->b=Ps a n->Ad bI (a,n) v ob:=by
  rintro v b ob (rfl|rfl) hb
  ·exact z8 rfl rfl hb
  ·exact z8 rfl rfl hb
 have e1:zc .i64 (zc .i64 (2*n)+2)=2*n+2:=by rw[wr (2*n) (by omega) (by omega)];exact wr _ (by omega) (by omega)
 have hle:=(jg a).1;refine zr (T31.Am a n) ?_;conv=>zeta
 rw[e1];by_cases hl:a.length<=1000000
 case neg=>
  have c:decide ((a.length:Int)<=2*n+2)=false:=w8 (by omega);refine zk c (ze (hq _ _ _ (.inl rfl) ?_));unfold Ps;rw[c];rfl
 refine zg (fun c=>zd (w4 hl) (zg (fun d=>zd (w4 hl) (zd (w4 (by omega)) (zg (fun e=>zd (w4 hl) (ze (hq _ _ _ (.inr rfl) ?_))) (fun e=>ze (hq _ _ _ (.inl rfl) ?_))))) (fun d=>ze (hq _ _ _ (.inl rfl) ?_)))) (fun c=>ze (hq _ _ _ (.inl rfl) ?_))
 ·have d:AF a=0:=by simpa using d
  unfold Ps;rw[c,e,w4 d];rfl
 ·unfold Ps;rw[e];simp
 ·have d:AF a≠0:=by simpa using d
  unfold Ps;rw[w8 d];simp
 ·unfold Ps;rw[c];rfl
theorem oX:D3 XM4:=Aa T24.ok (Aa T31.ok AO)
theorem T46.ok:Ag Bh 46 Lr:=by
 refine Cn oX (fun(i:List UInt8×Int) hi=>?_);obtain⟨a,n⟩:=i;have hi':(decide (0<=n)&&decide (n<=1000))=true:=hi;rw[zf,w5,w5]at hi';obtain⟨h0,h1⟩:=hi';have hq:∀v b ob,v=.bl b\/v=.dat .bool b->b=BF a n->Ad Lr (a,n) v ob:=by
  rintro v b ob (rfl|rfl) hb
  ·exact z8 rfl rfl hb
  ·exact z8 rfl rfl hb
 refine zr (T46.Am a n) (zg (fun c=>zd (w4 (by have:=w6 c;omega)) (zg (fun d=>ze (hq _ _ _ (.inl rfl) ?_)) (fun d=>zd (Ac (w4 h0) (w4 h1)) (ze (hq _ _ _ (.inr rfl) ?_))))) (fun c=>ze (hq _ _ _ (.inl rfl) ?_)))
 ·have c:=w6 c;have d:AF a≠0:=by simpa using d
  unfold BF;rw[w4 (p:=a.length<=40) (by omega),w4 d];rfl
 ·have c:=w6 c;have d:AF a=0:=by simpa using d
  unfold BF;rw[w4 (p:=a.length<=40) (by omega),w8 (fun h=>h d)];rfl
 ·have c:=w7 c;unfold BF;rw[w8 (p:=a.length<=40) (by omega)];rfl
namespace T108
variable {Q:PV->Ob->Prop}
theorem Al(g:Nat)(hq:∀ob,Q (.dat i64 (g:Int)) ob):∀(f x y:Nat),y<f->Nat.gcd x y=g->Ends Ng (L1 (x:Int) (y:Int)) Q
 |0,x,y,h,_=>by omega
 |f+1,x,y,hy,hg=>by
  refine zj (Ap ..) ?_;conv=>zeta
  by_cases h0:y=0
  ·subst h0;rw[Nat.gcd_zero_right]at hg;subst hg;exact zk rfl (ze (hq _))
  ·have e:yj (x:Int) (y:Int)=((x % y:Nat):Int):=by rw[yt (qg x)];rfl
   rw[e];have hlt:x % y<y:=Nat.mod_lt _ (by omega);exact zd (by simp;omega) (zd (by simp;omega) (Al g hq f y (x % y) (by omega) (by rw[Nat.gcd_comm, <-Nat.gcd_rec,Nat.gcd_comm];exact hg)))
theorem ok:Ag Bh 108 sJ:=by
 refine Cn E9 (fun(i:Int×Int) hi=>?_);obtain⟨a,b⟩:=i;have hi:(decide (0<=a)&&decide (a<9223372036854775808)&&decide (0<=b)&&decide (b<9223372036854775808))=true:=hi;rw[zf,zf,zf,w5,w5,w5,w5]at hi;obtain⟨⟨⟨a0,_⟩,b0⟩,_⟩:=hi;obtain⟨x,rfl⟩:=yc a0;obtain⟨y,rfl⟩:=yc b0;refine zr (Am x y) (Al (Nat.gcd x y) (fun ob=>z8 rfl rfl ?_) (y+1) x y (Nat.lt_succ_self _) rfl);show((Nat.gcd x y:Nat):Int)=jh (x:Int) (y:Int);rw[Fk];rfl
end T108
namespace T41
theorem ok:Ag Bh 41 PL:=by
 refine Cn E9 (fun(s:List UInt8) hl=>?_);have hq:∀v ob,v=Fx s->Ad PL s (.dat i64 v) ob:=fun v ob hb=>z8 rfl rfl hb
 refine zr (Am s) (zg (fun c=>ze (hq _ _ ?_)) (fun c=>?_))
 ·have c:s=[48]:=by simpa using c
  unfold Fx;rw[wd c]
 ·have c:¬s=[48]:=by simpa using c
  cases s with
  |nil=>exact zk rfl (ze (hq _ _ rfl))
  |cons x r=>
   have g0:(x::r).getD 0 0=x:=rfl;rw[g0];refine zd (by simp) (zd (by simp) (zg (fun d=>ze (hq _ _ ?_)) (fun d=>ze (hq _ _ ?_))))
   ·have hx:x=45:=by
     have:(x.toNat:Int)=45:=by simpa using d
     exact qe.1 (by show _=45;omega)
    unfold Fx;rw[wc c,g0,wd hx]
   ·have hx:x≠45:=by rintro rfl;exact wh d (by decide)
    unfold Fx;rw[wc c,g0,wc hx]
end T41
theorem qO:D3 XO2:=Aa T41.ok AO
theorem T99.ok:Ag Bh 99 iF:=by
 refine Cn qO (fun(s:List UInt8) hl=>?_);have hl:s.length<=1000000:=w6 hl;have hq:∀v ob,v=Ld s->Ad iF s (.dat .str v) ob:=fun v ob hb=>z8 rfl rfl hb
 refine zr (T99.Am s) (zd (w4 hl) ?_);unfold Ld at hq;unfold Fx;by_cases c:s=[48]
 ·rw[wd c];rw[wd c]at hq;exact zk rfl (zd (w4 hl) (zd rfl (ze (hq _ _ rfl))))
 ·rw[wc c];rw[wc c]at hq;by_cases d:s.getD 0 0=45
  ·rw[wd d];rw[wd d]at hq;have hn:s≠[]:=by rintro rfl;exact wh d (by decide)
   have hp:1<=s.length:=List.length_pos_iff.2 hn;refine zd rfl (zd (by simp;omega) (ze (hq _ _ ?_)));exact zt (by rw[z6];exact yb _)
  ·rw[wc d];rw[wc d]at hq;exact zk rfl (zd (w4 hl) (zk rfl (zd (by simp;omega) (ze (hq _ _ rfl)))))
namespace T109
theorem Zx:∀k:Fin 10,qn (yn (k.1+1) k.1) (je k.1 [(48:UInt8),49,50,51,52,53,54,55,56,57])=[y8 (48+k.1)]:=by decide
theorem Al{Q:PV->Ob->Prop}(l:Nat)(hl:l<=20):∀(f n:Nat) (acc:List UInt8),n<9223372036854775808->n<10^f->l<=acc.length+f->acc.length+f<=64->(∀ob,Q (.dat .str (Hc (f+1) n l acc)) ob)->Ends Ng (L1 (n:Int) (l:Int) acc) Q:=by
 intro f;induction f with
 |zero=>
  intro n acc hn hf hle h64 hq;have h0:n=0:=by rw[Nat.pow_zero]at hf;omega
  subst h0;unfold Hc at hq;rw[wd ⟨rfl,by omega⟩]at hq;exact zj (Ap ..) (zk rfl (zk (by simp;omega) (ze (hq _))))
 |succ f ih=>
  intro n acc hn hf hle h64 hq;have e1:yj (n:Int) 10=((n % 10:Nat):Int):=by rw[yt (qg n)];rfl
  have e2:zc .i64 (((n % 10:Nat):Int)+1)=((n % 10+1:Nat):Int):=by rw[wr _ (by omega) (by omega)];omega
  have e3:zc .i64 (yp (n:Int) 10)=((n/10:Nat):Int):=by rw[qh (qg n),wr _ (by omega) (by omega)];rfl
  have hd:=Zx ⟨n % 10,Nat.mod_lt _ (by decide)⟩;have hd:qn (yn (n % 10+1) (n % 10)) (je (n % 10) [(48:UInt8),49,50,51,52,53,54,55,56,57])=[y8 (48+n % 10)]:=hd;have hm:n % 10<10:=Nat.mod_lt _ (by decide);rw[Nat.pow_succ]at hf;refine zj (Ap ..) ?_;conv=>zeta
  rw[e1,e2,e3,zh,zh,hd];by_cases hz:n=0/\l<=acc.length
  ·obtain⟨z1,z2⟩:=hz;subst z1;unfold Hc at hq;rw[wd ⟨rfl,z2⟩]at hq;exact zk rfl (zk (by simp;omega) (ze (hq _)))
  ·have hq2:∀ob,Q (.dat .str (Hc (f+1) (n/10) l (y8 (48+n % 10)::acc))) ob:=by
    intro ob;have:=hq ob;unfold Hc at this;rw[wc hz]at this;exact this
   have go:Ends Ng (L1 ((n/10:Nat):Int) (l:Int) ([y8 (48+n % 10)]++acc)) Q:=ih (n/10) (y8 (48+n % 10)::acc) (by omega) (by omega) (by rw[ya];omega) (by rw[ya];omega) hq2;refine zg (fun _=>?_) (fun c=>zd ?_ ?_)
   ·exact zd rfl (zd rfl (zd (by simp;omega) (zd (by simp;omega) (zd rfl go))))
   ·have c:=w7 c;exact w4 (by omega)
   ·exact zd rfl (zd rfl (zd (by simp;omega) (zd (by simp;omega) (zd rfl go))))
theorem ok:Ag Bh 109 Oi:=by
 refine Cn E9 (fun(i:Int×Int) hi=>?_);obtain⟨a,b⟩:=i;have hi:(decide (0<=a)&&decide (a<9223372036854775808)&&decide (0<=b)&&decide (b<=20))=true:=hi;rw[zf,zf,zf,w5,w5,w5,w5]at hi;obtain⟨⟨⟨a0,a1⟩,b0⟩,b1⟩:=hi;obtain⟨x,rfl⟩:=yc a0;obtain⟨y,rfl⟩:=yc b0;refine zr (Am x y) (Al y (by omega) 63 x [] (by omega) (by omega) (by show y<=0+63;omega) (by decide) (fun ob=>z8 rfl rfl ?_));show Hc 64 x y []=Hc 64 (x:Int).toNat (y:Int).toNat [];rw[zh,zh]
end T109
theorem mJ:D3 Nv:=Aa T165.ok (Aa T89.ok AO)
namespace T95
variable {Q:PV->Ob->Prop}
theorem Ck(neg:Bool)(n d:Int)(h0:0<=n)(h1:n<1000000000)(hq:∀ob,Q (.tup [.dat i64 (if neg=true then -n else n),.dat i64 d,.bl true]) ob):Ends Nv (L7 neg n d) Q:=by
 refine zj (ET ..) ?_;conv=>zeta
 cases neg with
 |true=>
  refine zd rfl (ze ?_);rw[wr _ (by omega) (by omega),ji];exact hq _
 |false=>exact zk rfl (ze (hq _))
theorem Cv(s:List UInt8)(neg:Bool)(n:Int)(h0:0<=n)(h1:n<1000000000)(hl:s.length<=20)(lb:(yr s).length<=9)(db:Aj (yr s)=true)(hq:∀ob,Q (.tup [.dat i64 (if neg=true then -n else n),.dat i64 (if Bj s=true then Ay 0 (yr s)else 1),.bl true]) ob):Ends Nv (L5 s neg (AV s) n 1) Q:=by
 obtain⟨c1,c2,c3⟩:=BE s;refine zj (E5 ..) ?_;conv=>zeta
 have es:AV s=((Aw s).length:Int):=rfl;have hle:=(jg s).1;cases hc:Bj s with
 |true=>
  rw[hc]at hq;obtain⟨k1,k2⟩:=c2 hc;have e3:zc .i64 (AV s+1)=(((Aw s).length+1:Nat):Int):=by rw[es,wr _ (by omega) (by omega)];omega
  have hl2:(yr s).length=s.length-((Aw s).length+1):=by rw[k2,z6]
  have et:(yr s).take (yn s.length ((Aw s).length+1))=yr s:=zt (by show _<=s.length-_;omega);rw[e3,zh, <-k2,et];exact zd (by simp[es];omega) (zd (by simp;omega) (zd (T163.BY db (by omega)) (Ck neg n _ h0 h1 hq)))
 |false=>
  obtain⟨k1,k2⟩:=c3 hc;rw[hc]at hq;exact zk (by simp[es,k1]) (Ck neg n 1 h0 h1 hq)
theorem Ci(s:List UInt8)(neg:Bool)(hl:s.length<=20)(la:(Aw s).length<=9)(lb:(yr s).length<=9)(da:Aj (Aw s)=true)(db:Aj (yr s)=true)(hq:∀n ob,n=Ay 0 (Aw s)->Q (.tup [.dat i64 (if neg=true then -n else n),.dat i64 (if Bj s=true then Ay 0 (yr s)else 1),.bl true]) ob):Ends Nv (L3 s neg ) Q:=by
 obtain⟨c1,c2,c3⟩:=BE s;have es:AV s=((Aw s).length:Int):=rfl;have hle:=(jg s).1;have hlen:s.length-(Aw s).length<=10:=by
  cases hc:Bj s with
  |true=>
   obtain⟨k1,k2⟩:=c2 hc;have:(yr s).length=s.length-((Aw s).length+1):=by rw[k2,z6]
   omega
  |false=>rw[(c3 hc).1];omega
 have et:qn (Int.toNat (AV s)) s=Aw s:=by rw[es,zh];exact c1.symm
 obtain⟨v0,v1⟩:=T163.Cu da la;refine zj (CH ..) ?_;conv=>zeta
 rw[et];refine zd (by simp;omega) (zk (by simp[es];omega) (zk ?_ (zd (by simp[es];omega) (zd (T163.BY da (by omega)) ?_))))
 ·rw[es,wr _ (by omega) (by omega)];exact w8 (by omega)
 ·exact Cv s neg (Ay 0 (Aw s)) v0 v1 hl lb db (fun ob=>hq _ ob rfl)
theorem Ff(n d:Int)(hq:∀ob,Q (.tup [.dat i64 n,.dat i64 d,.bl true]) ob):Ends Nv (L8 n d) Q:=by
 refine zj (HO ..) ?_;conv=>zeta
 exact ze (hq _)
theorem EC(s:List UInt8)(n:Int)(hl:s.length<=20)(lb:(yr s).length<=9)(db:Aj (yr s)=true)(hq:∀ob,Q (.tup [.dat i64 n,.dat i64 (if Bj s=true then Ay 0 (yr s)else 1),.bl true]) ob):Ends Nv (L6 s (AV s) n 1) Q:=by
 obtain⟨c1,c2,c3⟩:=BE s;refine zj (FQ ..) ?_;conv=>zeta
 have es:AV s=((Aw s).length:Int):=rfl;have hle:=(jg s).1;cases hc:Bj s with
 |true=>
  rw[hc]at hq;obtain⟨k1,k2⟩:=c2 hc;have e3:zc .i64 (AV s+1)=(((Aw s).length+1:Nat):Int):=by rw[es,wr _ (by omega) (by omega)];omega
  have hl2:(yr s).length=s.length-((Aw s).length+1):=by rw[k2,z6]
  have et:(yr s).take (yn s.length ((Aw s).length+1))=yr s:=zt (by show _<=s.length-_;omega);rw[e3,zh, <-k2,et];exact zd (by simp[es];omega) (zd (by simp;omega) (zd (T163.BY db (by omega)) (Ff n _ hq)))
 |false=>
  obtain⟨k1,k2⟩:=c3 hc;rw[hc]at hq;exact zk (by simp[es,k1]) (Ff n 1 hq)
theorem BS(s:List UInt8)(hl:s.length<=20)(la:(Aw s).length<=9)(lb:(yr s).length<=9)(da:Aj (Aw s)=true)(db:Aj (yr s)=true)(hq:∀n ob,n=Ay 0 (Aw s)->Q (.tup [.dat i64 n,.dat i64 (if Bj s=true then Ay 0 (yr s)else 1),.bl true]) ob):Ends Nv (L4 s ) Q:=by
 obtain⟨c1,c2,c3⟩:=BE s;have es:AV s=((Aw s).length:Int):=rfl;have hle:=(jg s).1;have hlen:s.length-(Aw s).length<=10:=by
  cases hc:Bj s with
  |true=>
   obtain⟨k1,k2⟩:=c2 hc;have:(yr s).length=s.length-((Aw s).length+1):=by rw[k2,z6]
   omega
  |false=>rw[(c3 hc).1];omega
 have et:qn (Int.toNat (AV s)) s=Aw s:=by rw[es,zh];exact c1.symm
 obtain⟨v0,v1⟩:=T163.Cu da la;refine zj (CJ ..) ?_;conv=>zeta
 rw[et];refine zd (by simp;omega) (zk (by simp[es];omega) (zk ?_ (zd (by simp[es];omega) (zd (T163.BY da (by omega)) ?_))))
 ·rw[es,wr _ (by omega) (by omega)];exact w8 (by omega)
 ·exact EC s (Ay 0 (Aw s)) hl lb db (fun ob=>hq _ ob rfl)
end T95
end Go.Pe
namespace Go.Sp
theorem G0(a:List Int)(i:Nat):val B9 (a.drop i)=a.getD i 0+1000000000*val B9 (a.drop (i+1)):=by
 by_cases h:i<a.length
 ·rw[Cb h];rfl
 ·rw[ye (by omega),ye (by omega),show a.getD i 0=0 by rw[yg,yq (by omega)];rfl];rfl
structure FN(a b:List Int)(i:Nat)(o:List Int)(c:Int):Prop where
 len:o.length=i
 d:Au B9 o
 c01:0<=c/\c<=1
 v:val B9 o+(B9:Int)^i*(c+val B9 (a.drop i)+val B9 (b.drop i))=Ar a+Ar b
 top:a.length<=i->b.length<=i->i=0\/(B9:Int)^(i-1)<=val B9 o+(B9:Int)^i*c
theorem FN.start(a b:List Int):FN a b 0 [] 0:=⟨rfl,(fun x hx=>by cases hx),by decide,by
 show 0+(B9:Int)^0*(0+val B9 a+val B9 b)=val B9 a+val B9 b;rw[Int.pow_zero,qy];omega,fun _ _=>.inl rfl⟩
theorem Bv{a:List Int}(h:A5 a=true)(i:Nat):0<=a.getD i 0/\a.getD i 0<1000000000:=Gr (Bk h).2.1 i
theorem S4{a:List Int}(h:A5 a=true){i:Nat}(h1:i<a.length)(h2:a.length<=i+1):1<=a.getD i 0:=by
 have:=(Go.Pe.F7 (Bk h).2.1 (Bk h).2.2 (k:=i) (by omega)).1;omega
theorem FN.step{a b:List Int}{i:Nat}{o:List Int}{c:Int}(h:FN a b i o c)(ha:A5 a=true)(hb:A5 b=true)(hc:i<a.length\/i<b.length\/0<c):
  FN a b (i+1) (o++[(a.getD i 0+b.getD i 0+c) % 1000000000]) ((a.getD i 0+b.getD i 0+c)/1000000000):=by
 obtain⟨x0,x1⟩:=Bv ha i;obtain⟨y0,y1⟩:=Bv hb i;obtain⟨c0,c1⟩:=h.c01;have hv:=h.v;rw[G0 a i,G0 b i]at hv;have hs:1<=a.getD i 0+b.getD i 0+c\/¬(a.length<=i+1/\b.length<=i+1):=by
  by_cases k:a.length<=i+1/\b.length<=i+1
  ·refine .inl ?_;rcases hc with hc|hc|hc
   ·have:=S4 ha hc k.1;omega
   ·have:=S4 hb hc k.2;omega
   ·omega
  ·exact .inr k
 have ho:=Ax (b:=B9) (by decide) h.d;have hP:=AN (b:=B9) (by decide) i;generalize a.getD i 0=x at*;generalize b.getD i 0=y at*;have hval:val B9 (o++[(x+y+c) % 1000000000])=val B9 o+(B9:Int)^i*((x+y+c) % 1000000000):=by rw[B6,h.len]
 refine⟨by rw[zw,h.len];rfl,E4 h.d (by omega),by omega,?_,fun k1 k2=>.inr ?_⟩
 ·rw[hval,JH,jf, <-Int.mul_add, <-hv];congr 2;omega
 ·rw[hval,JH,jf, <-Int.mul_add,yo];have e:(x+y+c) % 1000000000+1000000000*((x+y+c)/1000000000)=x+y+c:=by omega
  rw[e];rcases hs with hs|hs
  ·have:=ym hs (yu hP);rw[Int.mul_one]at this;omega
  ·exact wh ⟨k1,k2⟩ hs
theorem zN{o:List Int}(hd:Au B9 o)(h:o=[]\/(B9:Int)^(o.length-1)<=val B9 o):nz o:=by
 rcases h with rfl|h
 ·unfold nz;simp
 ·intro e;have hn:o≠[]:=by rintro rfl;simp at e
  have e2:o=o.dropLast++[0]:=by
   have h1:=(List.dropLast_concat_getLast hn).symm;rw[List.getLast?_eq_some_getLast hn]at e;rw[Option.some.inj e]at h1;exact h1
  have hl:o.length=o.dropLast.length+1:=by rw[List.length_dropLast];have:=List.length_pos_iff.2 hn;omega
  have hv:val B9 o=val B9 o.dropLast:=by
   conv=>lhs;rw[e2]
   rw[B6,qq,qt]
  have hd2:Au B9 o.dropLast:=fun x hx=>hd x (by rw[e2];exact List.mem_append_left _ hx)
  have:=Bo (b:=B9) (by decide) hd2;rw[hv,hl,yo]at h;omega
theorem FN.fin{a b:List Int}{i:Nat}{o:List Int}(h:FN a b i o 0)(h1:a.length<=i)(h2:b.length<=i):o=LO a b:=by
 have hv:=h.v;rw[ye h1,ye h2]at hv;have hv:val B9 o+(B9:Int)^i*(0+0+0)=Ar a+Ar b:=hv;rw[show(0+0+0:Int)=0 from rfl,qq,qt]at hv;have ht:=h.top h1 h2;rw[qq,qt, <-h.len]at ht;have hn:nz o:=zN h.d (by
  rcases ht with k|k
  ·exact .inl (yd.1 k)
  ·exact .inr k)
 unfold LO;rw[<-hv];exact Ie (b:=B9) (by decide) h.d hn
structure Gu(a b:List Int)(i:Nat)(o:List Int)(c:Int):Prop where
 len:o.length=i
 d:Au B9 o
 c01:0<=c/\c<=1
 v:val B9 o+(B9:Int)^i*(val B9 (a.drop i)-val B9 (b.drop i)-c)=Ar a-Ar b
theorem Gu.start(a b:List Int):Gu a b 0 [] 0:=⟨rfl,(fun x hx=>by cases hx),by decide,by
 show 0+(B9:Int)^0*(val B9 a-val B9 b-0)=val B9 a-val B9 b;rw[Int.pow_zero,qy];omega⟩
theorem Gu.step{a b:List Int}{i:Nat}{o:List Int}{c:Int}(h:Gu a b i o c)(ha:A5 a=true)(hb:A5 b=true)(d c':Int)(hd:(a.getD i 0-b.getD i 0-c<0/\d=a.getD i 0-b.getD i 0-c+1000000000/\c'=1)\/(¬a.getD i 0-b.getD i 0-c<0/\d=a.getD i 0-b.getD i 0-c/\c'=0)):
  Gu a b (i+1) (o++[d]) c':=by
 obtain⟨x0,x1⟩:=Bv ha i;obtain⟨y0,y1⟩:=Bv hb i;obtain⟨c0,c1⟩:=h.c01;have hv:=h.v;rw[G0 a i,G0 b i]at hv;generalize a.getD i 0=x at*;generalize b.getD i 0=y at*;refine⟨by rw[zw,h.len];rfl,E4 h.d (by omega),by omega,?_⟩;rw[B6,h.len,JH,jf, <-Int.mul_add, <-hv];congr 2;omega
theorem Gu.fin{a b:List Int}{o:List Int}{c:Int}(h:Gu a b a.length o c)(hb:A5 b=true)(hle:Ar b<=Ar a):As o=GC a b:=by
 have hv:=h.v;rw[List.drop_length]at hv;have h0:=Ax (b:=B9) (by decide) (Eu (Bk hb).2.1 a.length);have hlt:=Bo (b:=B9) (by decide) h.d;rw[h.len]at hlt;obtain⟨c0,c1⟩:=h.c01;have hP:=AN (b:=B9) (by decide) a.length;have hv:val B9 o+(B9:Int)^a.length*(0-val B9 (b.drop a.length)-c)=Ar a-Ar b:=hv;generalize val B9 (b.drop a.length)=z at*;have hz:0-z-c=0:=by
  rcases qu (0-z-c) 0 with k|k
  ·have:=ym (show 0-z-c<= -1 by omega) (yu hP);rw[Int.mul_neg,Int.mul_one]at this;omega
  ·omega
 rw[hz,qq,qt]at hv;unfold GC;rw[Fp h.d, <-hv];rfl
open Go.Lib
theorem WM(n:Int):rN n=decide (n<0):=rfl
theorem MM(a:Bool×List Int):(a.1=true->vR a= -Ar a.2)/\(a.1=false->vR a=Ar a.2):=by
 unfold vR;exact⟨fun h=>by rw[wd h],fun h=>by rw[wc (by rw[h];decide)]⟩
theorem NO{neg:Bool}{w:List Int}{n:Int}(hd:Au B9 w)(h0:0<=Ar w)(h1:neg=true->n= -Ar w)(h2:neg=false->n=Ar w):(B7 neg w,As w)=(rN n,rW n):=by
 refine jO hd ?_ (fun hn=>?_)
 ·rw[Ah];cases neg with
  |true=>have:=h1 rfl;omega
  |false=>have:=h2 rfl;omega
 ·rw[WM];cases neg with
  |true=>have:=h1 rfl;symm;rw[w5];omega
  |false=>have:=h2 rfl;symm;rw[w9];omega
theorem Ji{n:Int}(h:0<=n):Ar (BN n)=n/\Au B9 (BN n):=⟨CS (b:=B9) (by decide) h,Fh (b:=B9) (by decide) n⟩
theorem ZH{a b:Bool×List Int}(ha:CM a=true)(hb:CM b=true)(h:a.1=b.1):(B7 a.1 (LO a.2 b.2),As (LO a.2 b.2))=(MD a b,Mx a b):=by
 have a0:=(GA ha).2;have b0:=(GA hb).2;obtain⟨e1,e2⟩:=MM a;obtain⟨f1,f2⟩:=MM b;obtain⟨hv,hd⟩:=Ji (n:=Ar a.2+Ar b.2) (by omega);refine NO hd (by show 0<=Ar (BN _);omega) (fun k=>?_) (fun k=>?_)
 ·rw[e1 k,f1 (by rw[<-h];exact k)];show _= -Ar (BN _);omega
 ·rw[e2 k,f2 (by rw[<-h];exact k)];show _=Ar (BN _);omega
theorem Ya{a b:Bool×List Int}(hb:CM b=true)(h:a.1≠b.1)(hl:Ar b.2<=Ar a.2):(B7 a.1 (GC a.2 b.2),As (GC a.2 b.2))=(MD a b,Mx a b):=by
 have b0:=(GA hb).2;obtain⟨e1,e2⟩:=MM a;obtain⟨f1,f2⟩:=MM b;obtain⟨hv,hd⟩:=Ji (n:=Ar a.2-Ar b.2) (by omega);refine NO hd (by show 0<=Ar (BN _);omega) (fun k=>?_) (fun k=>?_)
 ·rw[e1 k,f2 (by rw[k]at h;cases hb:b.1 with|true=>exact wh hb.symm h|false=>rfl)];show _= -Ar (BN _);omega
 ·rw[e2 k,f1 (by rw[k]at h;cases hb:b.1 with|true=>rfl|false=>exact wh hb.symm h)];show _=Ar (BN _);omega
theorem oA{a b:Bool×List Int}(ha:CM a=true)(h:a.1≠b.1)(hl:Ar a.2<=Ar b.2):(B7 b.1 (GC b.2 a.2),As (GC b.2 a.2))=(MD a b,Mx a b):=by
 have:=Ya ha (fun k=>h k.symm) hl;rw[this];unfold MD Mx;rw[Int.add_comm]
theorem iH{a b:Bool×List Int}(ha:CM a=true)(hb:CM b=true):(B7 (a.1 !=b.1) (BN (Ar a.2*Ar b.2)),As (BN (Ar a.2*Ar b.2)))=(G6 a b,Hl a b):=by
 have a0:=(GA ha).2;have b0:=(GA hb).2;obtain⟨e1,e2⟩:=MM a;obtain⟨f1,f2⟩:=MM b;have p0:=qz a0 b0;obtain⟨hv,hd⟩:=Ji p0;refine NO hd (by omega) (fun k=>?_) (fun k=>?_)
 ·rw[hv];cases h1:a.1<;>cases h2:b.1<;>rw[h1,h2]at k
  ·exact wh k (by decide)
  ·rw[e2 h1,f1 h2,Int.mul_neg]
  ·rw[e1 h1,f2 h2,Int.neg_mul]
  ·exact wh k (by decide)
 ·rw[hv];cases h1:a.1<;>cases h2:b.1<;>rw[h1,h2]at k
  ·rw[e2 h1,f2 h2]
  ·exact wh k (by decide)
  ·exact wh k (by decide)
  ·rw[e1 h1,f1 h2,Int.neg_mul,Int.mul_neg,Int.neg_neg]
theorem gC{a:Bool×List Int}(ha:CM a=true):(B7 (!a.1) a.2,As a.2)=(Sc a,RV a):=by
 have a0:=(GA ha).2;obtain⟨e1,e2⟩:=MM a;refine NO (Bk (Dw ha).1).2.1 a0 (fun k=>?_) (fun k=>?_)
 ·rw[e2 (by simpa using k)]
 ·rw[e1 (by simpa using k),Int.neg_neg]
theorem pM{w:List Int}{i:Nat}(hl:w.length=i+1):val B9 (w.drop i)=w.getD i 0:=by
 rw[G0,ye (by omega)];show _+1000000000*0=_;omega
theorem VU{w:List Int}(hw:A5 w=true){i:Nat}(hl:w.length=i+1):HT (w.getD i 0) 1=decDigits (val B9 (w.drop i)).toNat/\0<val B9 (w.drop i):=by
 have g:=Bv hw i;have t:=S4 hw (i:=i) (by omega) (by omega);rw[pM hl];exact⟨Pu g.1 (by omega),by omega⟩
theorem ZL{w:List Int}(hw:A5 w=true)(i:Nat)(h0:0<val B9 (w.drop (i+1))):decDigits (val B9 (w.drop (i+1))).toNat++HT (w.getD i 0) 9=decDigits (val B9 (w.drop i)).toNat/\0<val B9 (w.drop i):=by
 have g:=Bv hw i;rw[G0 w i,ZE g.1 g.2];generalize val B9 (w.drop (i+1))=V at*;generalize w.getD i 0=x at*;have h:=RP 9 V.toNat x.toNat (by decide) (by omega) (by omega);refine⟨?_,by omega⟩;rw[<-h];congr 1;omega
theorem dQ{a:Bool×List Int}(ha:CM a=true)(hne:a.2≠[]):(if a.1=true then 45::decDigits (Ar a.2).toNat else decDigits (Ar a.2).toNat)=JL a:=by
 obtain⟨e1,e2⟩:=MM a;have h0:0<Ar a.2:=IU (b:=B9) (by decide) (Bk (Dw ha).1).2.1 (Bk (Dw ha).1).2.2 hne;unfold JL AW itoa;by_cases h:a.1=true
 ·rw[wd h,e1 h,wd (by omega),show(-Ar a.2).natAbs=(Ar a.2).toNat by omega]
 ·have h:a.1=false:=by simpa using h
  rw[wc (by rw[h];decide),e2 h,wc (by omega)]
theorem fS{a:Bool×List Int}(h:a.2=[]):[48]=JL a:=by
 have:vR a=0:=by
  unfold vR;rw[h];split<;>rfl
 unfold JL AW itoa;rw[this,wc (by decide),show(0:Int).toNat=0 from rfl,decDigits_one (by decide)];rfl
theorem Hs{N D:Int}(hD:0<D):0<gI (Ae N) D/\Ae N/gI (Ae N) D=Ae (zl N D).num/\D/gI (Ae N) D=((zl N D).den:Int)/\(N<0↔(zl N D).num<0):=by
 have hs:D.sign=1:=qv hD;have e1:(zl N D).num=N/(yz N D:Int):=by rw[Rat.num_divInt,hs,qy,jj]
 have e2:((zl N D).den:Int)=D/(yz N D:Int):=by
  rw[Rat.den_divInt,wc (Int.ne_of_gt hD),jj,Int.natCast_ediv];rw[y9 (yu hD)]
 have eg:gI (Ae N) D=(yz N D:Int):=by rw[Fk,Ah];rfl
 have hg:0<yz N D:=Int.gcd_pos_of_ne_zero_right _ (by omega);obtain⟨k,hk⟩:(yz N D:Int)∣N:=Int.gcd_dvd_left ..;rw[eg,e1,e2];have hg:(0:Int)<(yz N D:Int):=by omega
 generalize (yz N D:Int)=g at*;have h1:N/g=k:=by rw[hk,ql _ (by omega)]
 have h2:Ae N/g=Ae k:=by
  rw[Ah,Ah,hk,qi,Int.natCast_mul,show((g.natAbs:Nat):Int)=g by omega,ql _ (by omega)]
 refine⟨hg,by rw[h1,h2],rfl,?_⟩;rw[h1];constructor
 ·intro h;rcases qu k 0 with x|x
  ·exact x
  ·have:=qz (yu hg) x;omega
 ·intro h;have:=Int.mul_neg_of_pos_of_neg hg h;omega
theorem fY{N D:Int}(hD:0<D){neg:Bool}(hn:neg=rN N):(B7 neg (BN (Ae N/gI (Ae N) D)),As (BN (Ae N/gI (Ae N) D)))=(rN (zl N D).num,rW (zl N D).num):=by
 obtain⟨_,h1,_,h3⟩:=Hs (N:=N) hD;rw[h1];have a0:=Nc (zl N D).num;obtain⟨hv,hd⟩:=Ji a0;refine jO hd hv (fun _=>?_);rw[hn,WM,WM,decide_eq_decide];exact h3
theorem rB{n:Int}(h0:0<=n):BN n=[1]↔n=1:=by
 constructor
 ·intro h;have:=(Ji h0).1;rw[h]at this;exact this.symm
 ·rintro rfl;rfl
theorem QM{N D:Int}:C1 N D=if (zl N D).den=1 then AW (zl N D).num else AW (zl N D).num++47::AW ((zl N D).den:Int):=by
 unfold C1 Az;split
 ·rfl
 ·rw[show AW ((zl N D).den:Int)=decDigits (zl N D).den from Lib.itoa_nonneg _];rfl
theorem TY(N D:Int):C1 (-N) (-D)=C1 N D:=by
 unfold C1;rw[Rat.neg_divInt_neg]
theorem PG{s:List UInt8}(h:BT s=true):A6 s=IB s/\AG s=RL s/\Aj (Aw (AZ s))=true/\Aj (AM (AZ s))=true:=by
 obtain⟨t,_⟩:=Gq h;obtain⟨c1,c2,c3⟩:=EI (AQ s);obtain⟨p1,p2,p3,p4⟩:=R4 s;obtain⟨i1,i2,i3,i4⟩:=DQ (AQ s).num;rw[t]at c1 c2 c3;have hB:Aj (AM s)=true:=by
  rw[c2];split
  ·rfl
  ·exact DL _
 refine⟨?_,?_,?_,?_⟩
 ·unfold A6 IB Cc;rw[p1, <-p4];unfold AZ preB;by_cases hc:(Aw s).getD 0 0=45
  ·rw[wd hc,wd hc,wd (w4 hc)]
  ·rw[wc hc,wc hc,wc (by rw[w8 hc];decide)]
 ·unfold AG RL Cc;rw[p2,p3,wc (Fj hB)]
 ·rw[p1,c1,i2];exact DL _
 ·rw[p2];exact hB
theorem Gg{s:List UInt8}(h:BT s=true)(hq:DY s=true):gK s=A6 s/\TS s=AG s/\ -1000000000<A6 s/\A6 s<1000000000/\0<AG s/\AG s<1000000000:=by
 obtain⟨h1,h2,h3,h4⟩:=PG h;have hd:0<AG s:=by
  have:=(DK h).2.2.2.2.2.1;have:=(AQ s).den_pos;omega
 unfold gK TS;rw[wd hq,wd hq];unfold DY at hq;rw[zf,zf,w5,w5,w5]at hq;obtain⟨⟨_,l1⟩,l2⟩:=hq;have b1:=Be h3;have b2:=Be h4;have m1:(10:Int)^(Aw (AZ s)).length<=10^9:=AH (by decide) l1;have m2:(10:Int)^(AM (AZ s)).length<=10^9:=AH (by decide) l2;refine⟨h1.symm,h2.symm,?_,?_,hd,?_⟩
 ·rw[h1];unfold IB;split<;>omega
 ·rw[h1];unfold IB;split<;>omega
 ·rw[h2];unfold RL;split<;>omega
theorem Zi{a b:List UInt8}(ha:BT a=true)(hb:BT b=true):J9 a b=C1 (A6 a*AG b+AG a*A6 b) (AG a*AG b)/\J9 a b=C1 (A6 a*AG b+A6 b*AG a) (AG a*AG b):=by
 have d1:AG a≠0:=by
  have:=(DK ha).2.2.2.2.2.1;have:=(AQ a).den_pos;omega
 have d2:AG b≠0:=by
  have:=(DK hb).2.2.2.2.2.1;have:=(AQ b).den_pos;omega
 have e:J9 a b=C1 (A6 a*AG b+A6 b*AG a) (AG a*AG b):=by
  unfold J9 C1 AQ;rw[Rat.divInt_add_divInt _ _ d1 d2]
 exact⟨by rw[e,Int.mul_comm (AG a) (A6 b)],e⟩
theorem Zw{a b:List UInt8}:YX a b=C1 (A6 a*A6 b) (AG a*AG b):=by
 unfold YX C1 AQ;rw[Rat.divInt_mul_divInt]
theorem aM{a:List UInt8}:rA a=C1 (AG a) (A6 a):=by
 unfold rA C1 AQ;rw[Rat.inv_divInt]
end Go.Sp
namespace Go.Sp
theorem Ty:∀(f n l:Nat) (acc:List UInt8),(Hc f n l acc).length<=acc.length+f
 |0,_,_,acc=>yb _
 |f+1,n,l,acc=>by
  unfold Hc;split
  ·omega
  ·have:=Ty f (n/10) l (y8 (48+n % 10)::acc);rw[ya]at this;omega
theorem O4(n l:Int):(HT n l).length<=64:=by
 have:=Ty 64 n.toNat l.toNat [];rw[List.length_nil,Nat.zero_add]at this;exact this
theorem Vf{v:Int}{k:Nat}(h:v<(B9:Int)^k)(hk:1<=k):(yf v.toNat).length<=9*k:=by
 rw[Wi]at h;have h4:((10^(9*k):Nat):Int)=(10:Int)^(9*k):=Int.natCast_pow ..;rw[<-h4]at h;refine CW (k:=9*k) ?_ (by omega);have hp:0<10^(9*k):=Nat.pow_pos (by decide);generalize 10^(9*k)=P at*;omega
end Go.Sp
namespace Go.Pe
open Sp
open Go.Det
theorem tJ{s:Sh}(hs:s.sz=1){id n:Nat}{tail:Ob}{fz:Bool}{t:TypeId}{o:List s.T}(hn:n=o.length):H5 ⟨0,.leaf,(id,.arr fz t s o)::tail,0⟩ (.list s) (.sl id 1 0 n none)=some (true,o):=by
 subst hn;have h1:AL ((id,Obj.arr fz t s o)::tail) id=some (.arr fz t s o):=by unfold AL;rw[Nat.beq_refl];rfl
 unfold H5;have h2:Es ⟨0,.leaf,(id,.arr fz t s o)::tail,0⟩ (PV.cells (.sl id 1 0 o.length none))=some (true,[.dat (.list s) o]):=by
  show(match CI ⟨0,.leaf,(id,.arr fz t s o)::tail,0⟩ (.sl id 1 0 o.length none),some (true,[])with|some (c,x),some (d,xs)=>some (c&&d,x::xs)|_,_=>none)=_;have:CI ⟨0,.leaf,(id,.arr fz t s o)::tail,0⟩ (.sl id 1 0 o.length none)=some (true,.dat (.list s) o):=by
   unfold CI AI.obj;simp only[h1,hs,Nat.beq_refl,we];simp
  rw[this];rfl
 simp only[J8,Sh.P5];show(match Es ⟨0,.leaf,(id,.arr fz t s o)::tail,0⟩ (PV.cells (.sl id 1 0 o.length none))with|some (c,cs)=>_|none=>none)=_;rw[h2];have:C3 (.list s) [PV.dat (.list s) o]=some o:=by
  unfold C3 Cy qZ DZ;simp
 simp only[PJ,this,y7]
theorem mA{s:Sh}(hs:s.sz=1){id n:Nat}{tail:Ob}{fz:Bool}{t:TypeId}{o:List s.T}(hn:n=o.length):Qu [.list s] (.sl id 1 0 n none) ((id,.arr fz t s o)::tail)=some (true,o):=tJ hs hn
theorem Ho(a:List Int)(i:Nat):HL a (i:Int)=a.getD i 0:=by unfold HL;rw[zh]
theorem qJ:D3 XR0:=fun g sp h=>by cases h
theorem T229.ok:Ag Bh 229 Wf:=by
 refine Cn qJ (fun(i:List Int×Int) hi=>?_);obtain⟨a,i⟩:=i;have h0:0<=i:=w6 hi;have hq:∀v ob,v=HL a i->Ad Wf (a,i) (.dat i64 v) ob:=fun v ob h=>z8 rfl rfl h
 refine zr (T229.Am a i) (zg (fun c=>zd (Ac (w4 h0) c) (ze (hq _ _ rfl))) (fun c=>ze (hq _ _ ?_)));have c:=w7 c;unfold HL;rw[yg,yq (by omega)];rfl
theorem XA:D3 Vh:=Aa T229.ok (Aa T227.ok AO)
theorem QE{x y c:Int}(hx:0<=x/\x<1000000000)(hy:0<=y/\y<1000000000)(hc:0<=c/\c<=1):
  zc .i64 (zc .i64 (x+y)+c)=x+y+c/\yj (x+y+c) 1000000000=(x+y+c) % 1000000000/\zc .i64 (yp (x+y+c) 1000000000)=(x+y+c)/1000000000:=by
 refine⟨?_,yt (by omega),?_⟩
 ·rw[wr (x+y) (by omega) (by omega)];exact wr _ (by omega) (by omega)
 ·rw[qh (by omega)];exact wr _ (by omega) (by omega)
theorem iP{a b:List Int}(h:kO a b=true):A5 a=true/\A5 b=true/\a.length<=9000/\b.length<=9000:=by
 unfold kO at h;rw[zf,zf,zf,w5,w5]at h;exact⟨h.1.1.1,h.1.1.2,h.1.2,h.2⟩
theorem gF{a b:List Int}(h1:A5 a=true)(h2:A5 b=true)(h3:a.length<=9000)(h4:b.length<=9000):kO a b=true:=by
 unfold kO;rw[h1,h2,w4 h3,w4 h4];rfl
namespace T169
variable {Q:PV->Ob->Prop}
theorem done(a b o:List Int)(i:Nat)(ha:a.length<=i)(hb:b.length<=i)(hq:Q (.sl 0 1 0 o.length none) [(0,.arr false 3 (.int .i64) o)]):Ends Vh (L2 a b o.length 0 i o) Q:=
 zj (AY ..) (zk (w8 (by omega)) (zk (w8 (by omega)) (zk (by decide) (ze hq))))
theorem A2(a b:List Int)(ha:A5 a=true)(hb:A5 b=true)(la:a.length<=9000)(lb:b.length<=9000)(hq:Q (.sl 0 1 0 (LO a b).length none) [(0,.arr false 3 (.int .i64) (LO a b))]):∀(k i:Nat) (o:List Int) (c:Int),i+k=max a.length b.length->FN a b i o c->Ends Vh (L2 a b o.length c i o) Q:=by
 have stop:∀(i:Nat) (o:List Int),a.length<=i->b.length<=i->FN a b i o 0->Ends Vh (L2 a b o.length 0 i o) Q:=fun i o h1 h2 h=>by
  have:=h.fin h1 h2;exact done a b o i h1 h2 (by rw[this];exact hq)
 have next:∀(i:Nat) (o:List Int) (c:Int),i<=9000->FN a b i o c->(i<a.length\/i<b.length\/0<c->Ends Vh (L2 a b (o++[(a.getD i 0+b.getD i 0+c) % 1000000000]).length ((a.getD i 0+b.getD i 0+c)/1000000000) ((i+1:Nat):Int) (o++[(a.getD i 0+b.getD i 0+c) % 1000000000])) Q)->Ends Vh (L2 a b o.length c i o) Q:=fun i o c hi h go=>by
  obtain⟨s1,s2,s3⟩:=QE (Bv ha i) (Bv hb i) h.c01;have e1:zc .i64 ((i:Int)+1)=((i+1:Nat):Int):=by rw[wr _ (by omega) (by omega)];omega
  have hl:=h.len;have cap:(decide ((1:Nat)<=(1:Nat))&&true&&decide (o.length=o.length)&&decide ((2*(o.length+1)+1000)*8<=281474976710656))=true:=by
   rw[w4 (yb 1),w4 (p:=o.length=o.length) rfl,Bool.and_true,y7];exact w4 (by omega)
  have h0:decide ((0:Int)<=(i:Int))=true:=w4 (by omega);rw[zw]at go;by_cases c1:(i:Int)<(a.length:Int)
  ·refine zj (AY ..) ?_;conv=>zeta
   rw[Ho,Ho,s1,s2,s3,e1];exact zd (w4 c1) (zd h0 (zd h0 (zd rfl (zd cap (zd rfl (go (.inl (by omega))))))))
  ·by_cases c2:(i:Int)<(b.length:Int)
   ·refine zj (AY ..) ?_;conv=>zeta
    rw[Ho,Ho,s1,s2,s3,e1];exact zk (w8 c1) (zd (w4 c2) (zd h0 (zd h0 (zd rfl (zd cap (zd rfl (go (.inr (.inl (by omega))))))))))
   ·by_cases c3:c>0
    ·refine zj (AY ..) ?_;conv=>zeta
     rw[Ho,Ho,s1,s2,s3,e1];exact zk (w8 c1) (zk (w8 c2) (zd (w4 c3) (zd h0 (zd h0 (zd rfl (zd cap (zd rfl (go (.inr (.inr c3))))))))))
    ·obtain rfl:c=0:=by have:=h.c01;omega
     exact stop i o (by omega) (by omega) h
 intro k;induction k with
 |zero=>
  intro i o c hi h;refine next i o c (by omega) h (fun hc=>?_);have h2:=h.step ha hb hc;have z1:a.getD i 0=0:=by rw[yg,yq (by omega)];rfl
  have z2:b.getD i 0=0:=by rw[yg,yq (by omega)];rfl
  have hc0:=h.c01;have z3:(a.getD i 0+b.getD i 0+c)/1000000000=0:=by rw[z1,z2];omega
  rw[z3]at h2 ⊢;exact stop (i+1) _ (by omega) (by omega) h2
 |succ k ih=>
  intro i o c hi h;exact next i o c (by omega) h (fun hc=>ih (i+1) _ _ (by omega) (h.step ha hb hc))
theorem ok:Ag Bh 169 V1:=by
 refine Cn XA (fun(i:List Int×List Int) hi=>?_);obtain⟨a,b⟩:=i;obtain⟨ha,hb,la,lb⟩:=iP hi;obtain⟨s1,s2,s3⟩:=QE (Bv ha 0) (Bv hb 0) (c:=0) (by decide);have h0:=FN.start a b;have e0:(0:Int)=((0:Nat):Int):=rfl;have go:(0<a.length\/0<b.length)->Ends Vh (L2 a b 1 ((a.getD 0 0+b.getD 0 0+0)/1000000000) ((1:Nat):Int) [(a.getD 0 0+b.getD 0 0+0) % 1000000000]) (Ad V1 (a,b)):=fun hc=>
  A2 a b ha hb la lb (z8 (mA rfl rfl) rfl rfl) (max a.length b.length-1) 1 _ _ (by omega) (h0.step ha hb (by rcases hc with h|h<;>omega))
 refine zr (Am a b) (zj (Ap ..) ?_);have d1:HL a 0=a.getD 0 0:=rfl;have d2:HL b 0=b.getD 0 0:=rfl;have e1:zc .i64 ((0:Int)+1)=((1:Nat):Int):=rfl;rw[d1,d2,s1,s2,s3,e1];refine zg (fun c=>?_) (fun c1=>zg (fun c=>?_) (fun c2=>zk rfl (ze (z8 (y:=[]) rfl rfl ?_))))
 ·exact zd rfl (zd rfl (zd rfl (zd rfl (zd rfl (go (.inl (by have:=w6 c;omega)))))))
 ·exact zd rfl (zd rfl (zd rfl (zd rfl (zd rfl (go (.inr (by have:=w6 c;omega)))))))
 ·have c1:=w7 c1;have c2:=w7 c2;exact h0.fin (by omega) (by omega)
end T169
namespace T171
variable {Q:PV->Ob->Prop}
theorem GO{x y c:Int}(hx:0<=x/\x<1000000000)(hy:0<=y/\y<1000000000)(hc:0<=c/\c<=1):
  zc .i64 (zc .i64 (x-y)-c)=x-y-c/\zc .i64 (x-y-c+1000000000)=x-y-c+1000000000:=by
 refine⟨?_,wr _ (by omega) (by omega)⟩;rw[wr (x-y) (by omega) (by omega)];exact wr _ (by omega) (by omega)
theorem A2(a b:List Int)(ha:A5 a=true)(hb:A5 b=true)(la:a.length<=9000)(hle:Ar b<=Ar a)(hq:∀ob,Q (.dat li (GC a b)) ob):∀(k i:Nat) (o:List Int) (c:Int),i+k=a.length->Gu a b i o c->Ends Vh (L2 a b o.length c i o) Q
 |0,i,o,c,hi,h=>by
  have hi:i=a.length:=by omega
  subst hi;have hl:=h.len;refine zj (AY ..) (zk (w8 (by omega)) ?_);rw[zt (yb _)];refine zd (Ac (Ac (w4 (by omega)) rfl) (w4 (by omega))) (ze ?_);rw[h.fin hb hle];exact hq _
 |k+1,i,o,c,hi,h=>by
  obtain⟨s1,s2⟩:=GO (Bv ha i) (Bv hb i) h.c01;have e1:zc .i64 ((i:Int)+1)=((i+1:Nat):Int):=by rw[wr _ (by omega) (by omega)];omega
  have hl:=h.len;have cap:(decide ((1:Nat)<=(1:Nat))&&true&&decide (o.length=o.length)&&decide ((2*(o.length+1)+1000)*8<=281474976710656))=true:=by
   rw[w4 (yb 1),w4 (p:=o.length=o.length) rfl,Bool.and_true,y7];exact w4 (by omega)
  refine zj (AY ..) ?_;conv=>zeta
  rw[Ho,zh,s1,s2,e1];refine zd (w4 (by omega)) (zd (Ac (w4 (by omega)) (w4 (by omega))) (zd (w4 (by omega)) (zg (fun d=>zd cap ?_) (fun d=>zd cap ?_))))
  ·have:=A2 a b ha hb la hle hq k (i+1) _ _ (by omega) (h.step ha hb _ 1 (.inl ⟨w6 d,rfl,rfl⟩));rw[zw]at this;exact this
  ·have:=A2 a b ha hb la hle hq k (i+1) _ _ (by omega) (h.step ha hb _ 0 (.inr ⟨w7 d,rfl,rfl⟩));rw[zw]at this;exact this
theorem ok:Ag Bh 171 WI:=by
 refine Cn XA (fun(i:List Int×List Int) hi=>?_);obtain⟨a,b⟩:=i;have hi:(kO a b&&decide (Ar b<=Ar a))=true:=hi;rw[zf,w5]at hi;obtain⟨hi,hle⟩:=hi;obtain⟨ha,hb,la,lb⟩:=iP hi;have h0:=Gu.start a b;have hq:∀ob,Ad WI (a,b) (.dat li (GC a b)) ob:=fun ob=>z8 rfl rfl rfl
 refine zr (Am a b) (zj (Ap ..) ?_);obtain⟨s1,s2⟩:=GO (Bv ha 0) (Bv hb 0) (c:=0) (by decide);have d2:HL b 0=b.getD 0 0:=rfl;have e1:zc .i64 ((0:Int)+1)=((1:Nat):Int):=rfl;rw[d2,show Int.toNat 0=0 from rfl,s1,s2,e1];refine zg (fun c=>?_) (fun c=>?_)
 ·have c1:=w6 c;refine zd (Ac rfl c) (zd rfl (zg (fun d=>zd rfl ?_) (fun d=>zd rfl ?_)))
  ·exact A2 a b ha hb la hle hq (a.length-1) 1 _ _ (by omega) (h0.step ha hb _ 1 (.inl ⟨w6 d,rfl,rfl⟩))
  ·exact A2 a b ha hb la hle hq (a.length-1) 1 _ _ (by omega) (h0.step ha hb _ 0 (.inr ⟨w7 d,rfl,rfl⟩))
 ·have c:=w7 c;have hz:a=[]:=yd.1 (by omega);subst hz;refine zd rfl (ze ?_);rw[Gu.fin h0 hb hle];exact hq _
end T171
theorem RB:D3 XR2:=Aa T168.ok (Aa T169.ok (Aa T170.ok (Aa T171.ok (Aa T172.ok (Aa T164.ok AO)))))
theorem Ko{n:Int}{k:Nat}(h0:0<=n)(h:n<(qc:Int)^k):(BN n).length<=k:=NA h0 h
theorem Kh{a:Bool×List Int}(h:CM a=true):0<=Ar a.2/\Ar a.2<(qc:Int)^3000:=by
 obtain⟨h1,h2,_⟩:=Dw h;refine⟨(GA h).2,yw (Bo (b:=qc) (by decide) (Bk h1).2.1) (AH (by decide) h2)⟩
theorem Wj{x y:Int}{k:Nat}(h1:x<(qc:Int)^k)(h2:y<(qc:Int)^k):x+y<(qc:Int)^(k+1):=by
 have:(qc:Int)^(k+1)=(qc:Int)^k*1000000000:=Int.pow_succ ..;have hp:=AN (b:=(qc:Int)) (by decide) k;rw[this];omega
theorem T97.ok:Ag Bh 97 dU:=by
 refine Cn RB (fun(i:(Bool×List Int)×(Bool×List Int)) hi=>?_);obtain⟨a,b⟩:=i;have hi:(CM a&&CM b)=true:=hi;rw[zf]at hi;obtain⟨ha,hb⟩:=hi;obtain⟨a1,a2,_⟩:=Dw ha;obtain⟨b1,b2,_⟩:=Dw hb;obtain⟨va,wa⟩:=Kh ha;obtain⟨vb,wb⟩:=Kh hb;have pl:=gF a1 b1 (by omega) (by omega);have pl2:=gF b1 a1 (by omega) (by omega);refine zr (T97.Am a b) (zg (fun c=>?_) (fun c=>zd (Ac a1 b1) (zg (fun d=>?_) (fun d=>?_))))
 ·have hl:(LO a.2 b.2).length<=3001:=Ko (by omega) (Wj wa wb);exact zd pl (zd (w4 (by omega)) (ze (z8 rfl rfl (ZH ha hb (by simpa using c)))))
 ·have hle:Ar b.2<=Ar a.2:=by
   have d:=w6 d;unfold BO at d;split at d
   ·omega
   ·omega
  have hl:(GC a.2 b.2).length<=3000:=Ko (by omega) (by omega);exact zd (Ac pl (w4 hle)) (zd (w4 (by omega)) (ze (z8 rfl rfl (Ya hb (by simpa using c) hle))))
 ·have hle:Ar a.2<=Ar b.2:=by
   have d:=w7 d;unfold BO at d;split at d
   ·omega
   ·split at d<;>omega
  have hl:(GC b.2 a.2).length<=3000:=Ko (by omega) (by omega);exact zd (Ac pl2 (w4 hle)) (zd (w4 (by omega)) (ze (z8 rfl rfl (oA ha (by simpa using c) hle))))
theorem T98.ok:Ag Bh 98 XN:=by
 refine Cn RB (fun(i:(Bool×List Int)×(Bool×List Int)) hi=>?_);obtain⟨a,b⟩:=i;have hi:(CM a&&CM b)=true:=hi;rw[zf]at hi;obtain⟨ha,hb⟩:=hi;obtain⟨a1,a2,_⟩:=Dw ha;obtain⟨b1,b2,_⟩:=Dw hb;obtain⟨va,wa⟩:=Kh ha;obtain⟨vb,wb⟩:=Kh hb;have hm:Ar a.2*Ar b.2<(qc:Int)^(3000+3000):=by
  rw[Int.pow_add];have hp:(0:Int)<(qc:Int)^3000:=AN (by decide) 3000;exact Int.lt_of_le_of_lt (ym (yu wb) va) (Int.mul_lt_mul_of_pos_right wa hp)
 have hl:=Ko (qz va vb) hm;exact zr (T98.Am a b) (zd (Ac (Q7 (by omega) (Bk a1).2.1) (Q7 (by omega) (Bk b1).2.1)) (zd (w4 (by omega)) (ze (z8 rfl rfl (iH ha hb)))))
theorem T166.ok:Ag Bh 166 YF:=by
 refine Cn RB (fun(a:Bool×List Int) ha=>?_);have ha:CM a=true:=ha;have:=(Dw ha).2.1;exact zr (T166.Am a) (zd (w4 (by omega)) (ze (z8 rfl rfl (gC ha))))
theorem lX:D3 XR3:=Aa T109.ok AO
namespace T167
variable {Q:PV->Ob->Prop}
theorem Al(neg:Bool)(w:List Int)(hw:A5 w=true)(hwl:w.length<=3000)(hq:∀ob,Q (.dat .str (if neg=true then 45::yf (Ar w).toNat else yf (Ar w).toNat)) ob):∀(i:Nat),i<=w.length->0<Sp.val qc (w.drop i)->Ends XR3 (L1 (yf (Sp.val qc (w.drop i)).toNat) ((i:Int)-1) neg w) Q:=by
 have hlen:∀i,(yf (Sp.val qc (w.drop i)).toNat).length<=27000:=fun i=>by
  have h1:=Bo (b:=qc) (by decide) (Eu (Bk hw).2.1 i);have h2:(qc:Int)^(w.drop i).length<=(qc:Int)^3000:=AH (by decide) (by rw[z6];omega);exact Vf (k:=3000) (yw h1 h2) (by decide)
 intro i;induction i with
 |zero=>
  intro _ _;have hl:=hlen 0;rw[List.drop_zero]at hl ⊢;have hl:(yf (Ar w).toNat).length<=27000:=hl;refine zj (Ap ..) (zk (by decide) (zg (fun c=>zd (w4 (by show 1+(yf (Ar w).toNat).length<=_;omega)) (ze ?_)) (fun c=>ze ?_)))
  ·rw[wd c]at hq;exact hq _
  ·rw[wc (by rw[c];decide)]at hq;exact hq _
 |succ i ih=>
  intro hi h0;have g:=Bv hw i;have e1:(((i+1:Nat):Int)-1)=(i:Int):=by omega
  have hl:=hlen (i+1);have h9:(HT (w.getD i 0) 9).length<=64:=by
   have:=O4 (w.getD i 0) 9;exact this
  obtain⟨s1,s2⟩:=ZL hw i h0;rw[e1];refine zj (Ap ..) ?_;conv=>zeta
  rw[zh,s1,wr ((i:Int)-1) (by omega) (by omega)];exact zd (w4 (by omega)) (zd (Ac (w4 (by omega)) (w4 (by omega))) (zd (Ac (Ac (Ac (w4 g.1) (w4 (by omega))) rfl) rfl) (zd (w4 (by omega)) (ih (by omega) s2))))
theorem ok:Ag Bh 167 dV:=by
 refine Cn lX (fun(a:Bool×List Int) ha=>?_);have ha:CM a=true:=ha;obtain⟨a1,a2,_⟩:=Dw ha;refine zr (Am a) (zg (fun c=>ze (z8 rfl rfl (fS ?_))) (fun c=>?_))
 ·exact yd.1 (by have:(a.2.length:Int)=0:=(by simpa using c);omega)
 ·have c:(a.2.length:Int)≠0:=by simpa using c
  obtain⟨i,hi⟩:∃i,a.2.length=i+1:=⟨a.2.length-1,by omega⟩;have g:=Bv a1 i;obtain⟨s1,s2⟩:=VU a1 hi;have e1:zc .i64 ((a.2.length:Int)-1)=(i:Int):=by rw[wr _ (by omega) (by omega)];omega
  have e2:zc .i64 ((a.2.length:Int)-2)=(i:Int)-1:=by rw[wr _ (by omega) (by omega)];omega
  rw[e1,e2,zh,s1];refine zd (Ac (w4 (by omega)) (w4 (by omega))) (zd (Ac (Ac (Ac (w4 g.1) (w4 (by omega))) rfl) rfl) (Al a.1 a.2 a1 a2 (fun ob=>z8 rfl rfl ?_) i (by omega) s2));exact dQ ha (by intro h;rw[h]at hi;cases hi)
end T167
end Go.Pe
namespace Go.Sp
theorem cQ{a k m:Nat}(h:a<10^k)(hk:k<=m):a<10^m:=Nat.lt_of_lt_of_le h (Nat.pow_le_pow_right (by decide) hk)
theorem jK{a b k:Nat}(h1:a<10^k)(h2:b<10^k):a+b<10^(k+1):=by rw[Nat.pow_succ];omega
theorem JQ{n:Int}{k:Nat}(h:n.natAbs<10^k)(hk:k<=27000):CM (rN n,rW n)=true:=RS (cQ (m:=27000) h hk)
theorem Jc{m n:Int}(h:CM (rN n,rW n)=true)(hm:m.natAbs<=n.natAbs):CM (rN m,rW m)=true:=by
 have:=vD h;rw[EH]at this;exact RS (qj hm this)
theorem XQ{n:Int}(h:CD n=true):CM (rN n,rW n)=true:=by
 have h:=Go.Pe.Ed h;exact JQ (k:=20) (by have:10^20=100000000000000000000:=rfl;omega) (by decide)
theorem U0{n:Int}(h:CM (rN n,rW n)=true):A5 (rW n)=true/\(rW n).length<=3000/\Ae n<(B9:Int)^3000:=by
 obtain⟨h1,h2,_⟩:=Dw h;refine⟨h1,h2,?_⟩;have:=(Go.Pe.Kh h).2;rwa [show Ar (rN n,rW n).2=Ae n from J3 n]at this
theorem TV{n:Int}(h:CM (rN n,rW n)=true):(AW n).length<=27001:=by
 have h1:=(U0 h).2.2;have h2:=Vf h1 (by decide);have e:(Ae n).toNat=n.natAbs:=by rw[Ah];omega
 rw[e]at h2;unfold AW Lib.itoa;split
 ·rw[ya];omega
 ·rw[show n.toNat=n.natAbs by omega];omega
theorem Tw(n:Int):JL (rN n,rW n)=AW n:=by unfold JL;rw[EH]
theorem Wz{N D:Int}(hD:0<D):yp N (gI (Ae N) D)=(zl N D).num/\yp D (gI (Ae N) D)=((zl N D).den:Int):=by
 have hs:D.sign=1:=qv hD;have eg:gI (Ae N) D=(yz N D:Int):=by rw[Fk,Ah];rfl
 have d1:(yz N D:Int)∣N:=Int.gcd_dvd_left ..;have d2:(yz N D:Int)∣D:=Int.gcd_dvd_right ..;rw[eg,qo d1,qo d2];refine⟨?_,(Hs (N:=N) hD).2.2.1▸?_⟩
 ·rw[Rat.num_divInt,hs,qy,jj]
 ·rw[eg]
theorem QL(x y:Int):G6 (rN x,rW x) (rN y,rW y)=rN (x*y):=by unfold G6;rw[EH,EH]
theorem Qt(x y:Int):Hl (rN x,rW x) (rN y,rW y)=rW (x*y):=by unfold Hl;rw[EH,EH]
theorem fN(x y:Int):MD (rN x,rW x) (rN y,rW y)=rN (x+y):=by unfold MD;rw[EH,EH]
theorem eS(x y:Int):Mx (rN x,rW x) (rN y,rW y)=rW (x+y):=by unfold Mx;rw[EH,EH]
theorem OQ(x y:Int):HM (rN x,rW x) (rN y,rW y)=C1 x y:=by unfold HM;rw[EH,EH]
theorem neg_num(x:Rat):(x.num<0↔x<0)/\(x.num>0↔0<x):=by
 rw[Rat.lt_iff,Rat.lt_iff];have:(0:Rat).num=0:=rfl;have h1:((0:Rat).den:Int)=1:=rfl;rw[this,h1];omega
theorem cR(p q:Rat):Qc (p-q).num=if p<q then -1 else if q<p then 1 else 0:=by
 obtain⟨h1,h2⟩:=neg_num (p-q);have h3:p-q<0↔p<q:=by rw[Rat.sub_lt_iff,Rat.zero_add]
 have h4:0<p-q↔q<p:=(Rat.lt_iff_sub_pos q p).symm;unfold Qc;simp only[h1,h2,h3,h4]
end Go.Sp
namespace Go.Pe
open Sp
open Go.Det
theorem nH:D3 kN:=Aa T166.ok (Aa T92.ok (Aa T164.ok (Aa T168.ok (Aa T167.ok AO))))
namespace T96
variable {Q:PV->Ob->Prop}
theorem Ci(n d:Int)(hn:CM (z7 n,zu n)=true)(hd:CM (z7 d,zu d)=true)(d0:0<=d)(hq:∀ob,Q (.dat .str (AW n++47::AW d)) ob):Ends kN (L3 (BN d) (AW n)) Q:=by
 have l1:=TV hn;have l2:=TV hd;have e:zu d=BN d:=by unfold zu;rw[Ah,y9 d0]
 have l3:=(U0 hd).2.1;rw[e]at l3;obtain⟨hv,hg⟩:=Ji d0;have hp:(B7 false (BN d),As (BN d))=(z7 d,zu d):=NO hg (by omega) (fun k=>(by cases k)) (fun _=>hv.symm);refine zj (CH ..) ?_;conv=>zeta
 rw[hp,Tw];refine zd (w4 (by omega)) (zd (w4 (by omega)) (zd hd (zd (w4 (by rw[zw,yy];omega)) (ze ?_))));rw[List.append_assoc];exact hq _
theorem A2(n d:Int)(hn:CM (z7 n,zu n)=true)(hd:CM (z7 d,zu d)=true)(d0:0<d)(hq1:d=1->∀ob,Q (.dat .str (AW n)) ob)(hq:d≠1->∀ob,Q (.dat .str (AW n++47::AW d)) ob):Ends kN (L2 (BN d) (AW n)) Q:=by
 have h1:=rB (n:=d) (by omega);by_cases h:d=1
 ·rw[h1.2 h];exact zj (AY ..) (zd rfl (zd rfl (zd rfl (ze (hq1 h _)))))
 ·have h3:=Ci n d hn hd (by omega) (hq h);refine zj (AY ..) (zg (fun c=>zd ?_ (zg (fun e=>?_) (fun _=>h3))) (fun _=>h3))
  ·have c:((BN d).length:Int)=1:=by simpa using c
   exact w4 (by omega)
  ·exfalso;have c:((BN d).length:Int)=1:=by simpa using c
   have e:(BN d).getD 0 0=1:=by simpa using e
   refine h (h1.1 ?_);cases hl:BN d with
   |nil=>rw[hl]at c;cases c
   |cons x r=>
    rw[hl]at c e;have hr:r=[]:=yd.1 (by have:((r.length+1:Nat):Int)=1:=c;omega);have e:x=1:=e;rw[hr,e]
theorem Al(N D:Int)(hN:CM (z7 N,zu N)=true)(hD:CM (z7 D,zu D)=true)(h0:0<D)(hq:∀ob,Q (.dat .str (C1 N D)) ob):Ends kN (L1 (z7 D) (zu D) (z7 N) (zu N)) Q:=by
 obtain⟨n1,n2,n3⟩:=U0 hN;obtain⟨d1,d2,d3⟩:=U0 hD;obtain⟨g0,f1,f2,f3⟩:=Hs (N:=N) h0;have eD:Ae D=D:=by rw[Ah,y9 (yu h0)]
 have ec:Cm (zu N) (zu D)=BN (jh (Ae N) D):=by
  unfold Cm;rw[J3,J3,eD]
 have gd:jh (Ae N) D<=D:=by
  have eg:jh (Ae N) D=(yz N D:Int):=by rw[Fk,Ah];rfl
  rw[eg];exact Int.le_of_dvd h0 (Int.gcd_dvd_right ..)
 have fn:=fY h0 (neg:=z7 N) rfl;have nn:(zl N D).num.natAbs<=N.natAbs:=(GU (n:=N) (d:=D) (by omega)).1;have dd:(zl N D).den<=D.natAbs:=(GU (n:=N) (d:=D) (by omega)).2;have FO:=Jc (m:=(zl N D).num) hN nn;have okD:=Jc (m:=((zl N D).den:Int)) hD (by rw[qk];exact dd);have lg:Ae (zl N D).num<(qc:Int)^3000:=(U0 FO).2.2;have ft:=QM (N:=N) (D:=D);have dp:=(zl N D).den_pos;have a0:=Nc (zl N D).num;rw[eD]at d3;refine zj (Ap ..) ?_;conv=>zeta
 rw[ec,J3,J3,eD];generalize jh (Ae N) D=g at*;have fg:=GN (n:=g) (k:=3000) (by omega) (by omega) (by decide);rw[fg.2.2.1,fn,f1,f2,Tw];have ll:=Ko a0 lg;refine zd (Ac (Ac (Ac n1 d1) (w4 (by omega))) (w4 (by omega))) (zd (Ac (Ac (Ac (Ac n1 fg.1) (w4 (by omega))) (w4 (by omega))) (w4 g0)) (zd (Ac (Ac (Ac (Ac d1 fg.1) (w4 (by omega))) (w4 (by omega))) (w4 g0)) (zd (w4 (by omega)) (zd FO (A2 _ _ FO okD (by omega) (fun h ob=>?_) (fun h ob=>?_))))))
 ·have:=hq ob;rw[ft,wd (by omega)]at this;exact this
 ·have:=hq ob;rw[ft,wc (by omega)]at this;exact this
theorem ok:Ag Bh 96 LG:=by
 refine Cn nH (fun(i:(Bool×List Int)×(Bool×List Int)) hi=>?_);obtain⟨a,b⟩:=i;have hi:(CM a&&CM b&&decide (qm b≠0))=true:=hi;rw[zf,zf,w5]at hi;obtain⟨⟨ha,hb⟩,h0⟩:=hi;have ea:=rS ha;have eb:=rS hb;have hq:∀ob,Ad LG (a,b) (.dat .str (C1 (qm a) (qm b))) ob:=fun ob=>z8 rfl rfl rfl
 have ha2:=ha;have hb2:=hb;rw[ea]at ha2;rw[eb]at hb2;refine zr (Am a b) (zg (fun c=>zd ha (zd hb ?_)) (fun c=>?_))
 ·have hneg:qm b<0:=by
   have:=PQ hb;rw[c]at this;exact w6 this.symm
  have:=Al (Q:=Ad LG (a,b)) (-qm a) (-qm b) (Jc ha2 (by rw[Int.natAbs_neg];exact yb _)) (Jc hb2 (by rw[Int.natAbs_neg];exact yb _)) (by omega) (fun ob=>by rw[TY];exact hq ob);exact this
 ·have hpos:0<qm b:=by
   have:=PQ hb;rw[c]at this;have:=w7 this.symm;omega
  have:=Al (Q:=Ad LG (a,b)) (qm a) (qm b) ha2 hb2 hpos hq;rw[<-PQ ha, <-tK ha, <-PQ hb, <-tK hb]at this;exact this
end T96
theorem mS:D3 aO:=Aa T107.ok (Aa T96.ok (Aa T108.ok (Aa T109.ok AO)))
namespace T36
variable {Q:PV->Ob->Prop}
theorem Un{n:Int}(h1: -9000000000000000000<=n)(h2:n<=9000000000000000000):imax n (zc .i64 (0-n))=Ae n:=by
 rw[wr _ (by omega) (by omega)];unfold imax Ae;split<;>split<;>omega
theorem BS(n d:Int)(v:List UInt8)(hv:v=AW n)(hl:v.length<=27001)(d0:0<d)(d1:d<9000000000000000000)(hq1:d=1->∀ob,Q (.dat .str (AW n)) ob)(hq:d≠1->∀ob,Q (.dat .str (AW n++47::AW d)) ob):Ends aO (L4 d v) Q:=by
 have h9:=O4 d 1;have e:HT d 1=AW d:=by
  rw[Pu (by omega) (by omega)];unfold AW Lib.itoa;rw[wc (by omega)]
 refine zj (CJ ..) (zg (fun c=>zd (w4 (by omega)) (zd (Ac (Ac (Ac (w4 (by omega)) (w4 (by omega))) rfl) rfl) (zd (w4 (by rw[zw,yy];omega)) (ze ?_)))) (fun c=>ze ?_))
 ·have c:=w6 c;rw[hv,e,List.append_assoc];exact hq (by omega) _
 ·have c:=w7 c;rw[hv];exact hq1 (by omega) _
theorem Ci(n d:Int)(n1: -9000000000000000000<n)(n2:n<9000000000000000000)(d0:0<d)(d1:d<9000000000000000000)(hq1:d=1->∀ob,Q (.dat .str (AW n)) ob)(hq:d≠1->∀ob,Q (.dat .str (AW n++47::AW d)) ob):Ends aO (L3 n d) Q:=by
 have h9:=O4 (Ae n) 1;have ha:=Ah n;have e:HT (Ae n) 1=yf n.natAbs:=by
  rw[Pu (by omega) (by omega)];congr 1;omega
 have ei:=Y1 n;refine zj (CH ..) ?_;conv=>zeta
 rw[Un (by omega) (by omega)];have hr:(decide (0<=Ae n)&&decide (Ae n<9223372036854775808)&&decide ((0:Int)<=1)&&decide ((1:Int)<=20))=true:=Ac (Ac (Ac (w4 (by omega)) (w4 (by omega))) rfl) rfl;refine zg (fun c=>zd hr (zd (w4 (by omega)) (BS n d _ ?_ ?_ d0 d1 hq1 hq))) (fun c=>zd hr (zd (w4 (by omega)) (BS n d _ ?_ ?_ d0 d1 hq1 hq)))
 ·have c:=w6 c;rw[wd c]at ei;rw[e];exact ei.symm
 ·rw[zw,yy];omega
 ·have c:=w7 c;rw[wc c]at ei;rw[e];exact ei.symm
 ·rw[List.nil_append];omega
theorem A2(n d:Int)(n1: -9000000000000000000<n)(n2:n<9000000000000000000)(d0:0<d)(d1:d<9000000000000000000)(hq:∀ob,Q (.dat .str (C1 n d)) ob):Ends aO (L2 n d) Q:=by
 obtain⟨g0,_⟩:=Hs (N:=n) d0;obtain⟨q1,q2⟩:=Wz (N:=n) d0;obtain⟨l1,l2⟩:=GU (n:=n) (d:=d) (by omega);have ha:=Ah n;have dp:=(zl n d).den_pos;have ft:=QM (N:=n) (D:=d);refine zj (AY ..) ?_;conv=>zeta
 rw[Un (by omega) (by omega),q1,q2,wr _ (by omega) (by omega),wr _ (by omega) (by omega)];have hg:decide (jh (Ae n) d≠0)=true:=w4 (by omega);refine zd (Ac (Ac (Ac (w4 (by omega)) (w4 (by omega))) (w4 (by omega))) (w4 (by omega))) (zd hg (zd hg (Ci _ _ (by omega) (by omega) (by omega) (by omega) (fun h ob=>?_) (fun h ob=>?_))))
 ·have:=hq ob;rw[ft,wd (by omega)]at this;exact this
 ·have:=hq ob;rw[ft,wc (by omega)]at this;exact this
theorem ok:Ag Bh 36 fK:=by
 refine Cn mS (fun(i:Int×Int) hi=>?_);obtain⟨n,d⟩:=i;have hi:(CD n&&CD d&&decide (d≠0))=true:=hi;rw[zf,zf,w5]at hi;obtain⟨⟨hn,hd⟩,h0⟩:=hi;have hq:∀ob,Ad fK (n,d) (.dat .str (C1 n d)) ob:=fun ob=>z8 rfl rfl rfl
 have slow:(CM (z7 n,zu n)&&CM (z7 d,zu d)&&decide (qm (z7 d,zu d)≠0))=true:=Ac (Ac (XQ hn) (XQ hd)) (by rw[EH];exact w4 h0);refine zr (Am n d) ?_;conv=>zeta
 rw[OQ];refine zg (fun _=>zd hn (zd hd (zd slow (ze (hq _))))) (fun c1=>zg (fun _=>zd hn (zd hd (zd slow (ze (hq _))))) (fun c2=>zg (fun _=>zd hn (zd hd (zd slow (ze (hq _))))) (fun c3=>zg (fun _=>zd hn (zd hd (zd slow (ze (hq _))))) (fun c4=>?_))));have c1:=w7 c1;have c2:=w7 c2;have c3:=w7 c3;have c4:=w7 c4;refine zj (Ap ..) (zg (fun c=>?_) (fun c=>?_))
 ·have c:=w6 c;rw[wr (0-n) (by omega) (by omega),wr (0-d) (by omega) (by omega),ji,ji];exact A2 (-n) (-d) (by omega) (by omega) (by omega) (by omega) (fun ob=>by rw[TY];exact hq ob)
 ·have c:=w7 c;exact A2 n d (by omega) (by omega) (by omega) (by omega) hq
end T36
namespace T95
theorem no3{Q:PV->Ob->Prop}(s:List UInt8)(neg:Bool)(hl:s.length<=20)(h:9<(Aw s).length\/9<(yr s).length)(hq:∀ob,Q (.tup [.dat i64 0,.dat i64 0,.bl false]) ob):Ends Nv (L3 s neg) Q/\Ends Nv (L4 s) Q:=by
 obtain⟨c1,c2,c3⟩:=BE s;have es:AV s=((Aw s).length:Int):=rfl;have hle:=(jg s).1;have hB:9<(yr s).length->(s.length:Int)-(Aw s).length>10:=fun h=>by
  cases hc:Bj s with
  |true=>
   have k2:=wi List.length (c2 hc).2;rw[z6]at k2;omega
  |false=>rw[(c3 hc).2]at h;cases h
 refine⟨zj (CH ..) (zd (w4 (by omega)) (zg (fun _=>ze (hq _)) (fun c=>?_))),zj (CJ ..) (zd (w4 (by omega)) (zg (fun _=>ze (hq _)) (fun c=>?_)))⟩
 ·have c:=w7 c;rw[es]at c;have hb:=hB (by omega);refine zd ?_ (ze (hq _));rw[es,wr _ (by omega) (by omega)];exact w4 hb
 ·have c:=w7 c;rw[es]at c;have hb:=hB (by omega);refine zd ?_ (ze (hq _));rw[es,wr _ (by omega) (by omega)];exact w4 hb
theorem okG:Ag Bh 95 Nn:=by
 refine Cn mJ (fun(a:List UInt8) ha=>?_);obtain⟨_,_,da,db⟩:=PG ha;by_cases hqk:DY a=true
 ·have hq:∀n ob,n=IB a->Ad Nn a (.tup [.dat i64 n,.dat i64 (if Bj (AZ a)=true then Ay 0 (yr (AZ a))else 1),.bl true]) ob:=fun n ob h=>z8 rfl rfl (by
   show(n,_,true)=(gK a,TS a,DY a);unfold gK TS;rw[wd hqk,wd hqk,hqk,h];rfl)
  unfold DY at hqk;rw[zf,zf,w5,w5,w5]at hqk;obtain⟨⟨hl,la⟩,lb⟩:=hqk;clear ha;refine zr (Am a) (zk (by simp;omega) ?_);cases a with
  |nil=>exact zk rfl (zj (AY ..) (BS [] hl la lb da db (fun n ob h=>hq n ob (by rw[h];rfl))))
  |cons c r=>
   have g0:(c::r).getD 0 0=c:=rfl;rw[g0];refine zd (by simp) (zd (by simp) (zj (Ap ..) (zg (fun d=>zd (by simp) ?_) (fun d=>?_))))
   ·have hc:c=45:=by
     have:(c.toNat:Int)=45:=by simpa using d
     exact qe.1 (by show _=45;omega)
    have ep:AZ (c::r)=r:=by unfold AZ;rw[g0,wd hc];rfl
    have eb:Sp.preB (c::r)=true:=by unfold Sp.preB;rw[g0];exact w4 hc
    have et:qn (yn (c::r).length 1) (je 1 (c::r))=r:=zt (yb _);unfold IB at hq;rw[ep]at la lb da db hq;rw[eb]at hq;rw[et,d];exact Ci r true (by rw[ya]at hl;omega) la lb da db (fun n ob h=>hq _ ob (by rw[h];try rfl))
   ·have hc:c≠45:=by rintro rfl;exact wh d (by decide)
    have ep:AZ (c::r)=c::r:=by unfold AZ;rw[g0,wc hc]
    have eb:Sp.preB (c::r)=false:=by unfold Sp.preB;rw[g0];exact w8 hc
    unfold IB at hq;rw[ep]at la lb da db hq;rw[eb]at hq;rw[d];exact Ci (c::r) false hl la lb da db (fun n ob h=>hq _ ob (by rw[h];try rfl))
 ·have hf:DY a=false:=by simpa using hqk
  have hq:∀ob,Ad Nn a (.tup [.dat i64 0,.dat i64 0,.bl false]) ob:=fun ob=>z8 rfl rfl (by
   show((0:Int),(0:Int),false)=(gK a,TS a,DY a);unfold gK TS;rw[wc hqk,wc hqk,hf])
  refine zr (Am a) (zg (fun _=>ze (hq _)) (fun hl=>?_));have hl:a.length<=20:=by have:=w7 hl;omega
  have h9:9<(Aw (AZ a)).length\/9<(yr (AZ a)).length:=by
   by_cases h1:(Aw (AZ a)).length<=9
   ·by_cases h2:(yr (AZ a)).length<=9
    ·exact wh (by unfold DY;rw[w4 hl,w4 h1,w4 h2];rfl) hqk
    ·exact .inr (by omega)
   ·exact .inl (by omega)
  cases a with
  |nil=>exact zk rfl (zj (AY ..) (no3 [] false hl h9 hq).2)
  |cons c r=>
   have g0:(c::r).getD 0 0=c:=rfl;rw[g0];refine zd (by simp) (zd (by simp) (zj (Ap ..) (zg (fun d=>zd (by simp) ?_) (fun d=>?_))))
   ·have hc:c=45:=by
     have:(c.toNat:Int)=45:=by simpa using d
     exact qe.1 (by show _=45;omega)
    have ep:AZ (c::r)=r:=by unfold AZ;rw[g0,wd hc];rfl
    have et:qn (yn (c::r).length 1) (je 1 (c::r))=r:=zt (yb _);rw[ep]at h9;rw[et];exact(no3 r _ (by rw[ya]at hl;omega) h9 hq).1
   ·have hc:c≠45:=by rintro rfl;exact wh d (by decide)
    have ep:AZ (c::r)=c::r:=by unfold AZ;rw[g0,wc hc]
    rw[ep]at h9;exact(no3 (c::r) _ hl h9 hq).1
end T95
theorem Ro:D3 sI:=Aa T95.okG (Aa T36.ok (Aa (T91.ok) (Aa T97.ok (Aa T98.ok (Aa T96.ok AO)))))
theorem Up{x y:Int}(h1: -1000000000<x)(h2:x<1000000000)(h3: -1000000000<y)(h4:y<1000000000): -1000000000000000000<=x*y/\x*y<=1000000000000000000:=by
 have h:(x*y).natAbs<=1000000000*1000000000:=by
  rw[qi];exact Nat.mul_le_mul (by omega) (by omega)
 omega
theorem T27.ok:Ag Bh 27 Q3:=by
 refine Cn Ro (fun(i:List UInt8×List UInt8) hi=>?_);obtain⟨a,b⟩:=i;have hi:(BT a&&BT b)=true:=hi;rw[zf]at hi;obtain⟨ha,hb⟩:=hi;obtain⟨a1,a2,a3,a4,a5,a6,a7,a8,a9⟩:=DK ha;obtain⟨b1,b2,b3,b4,b5,b6,b7,b8,b9⟩:=DK hb;have ad:=(AQ a).den_pos;have bd:=(AQ b).den_pos;have eq:=(Zi ha hb).2;have hq:∀ob,Ad Q3 (a,b) (.dat .str (C1 (A6 a*AG b+A6 b*AG a) (AG a*AG b))) ob:=fun ob=>z8 rfl rfl eq.symm
 have slow:Ends sI (T27.L1 a b) (Ad Q3 (a,b)):=by
  have e1:Bx a=z7 (A6 a):=rfl;have e2:Br a=zu (A6 a):=rfl;have e3:Bg a=z7 (AG a):=rfl;have e4:Bc a=zu (AG a):=rfl;have e5:Bx b=z7 (A6 b):=rfl;have e6:Br b=zu (A6 b):=rfl;have e7:Bg b=z7 (AG b):=rfl;have e8:Bc b=zu (AG b):=rfl;rw[e1,e2]at a1;rw[e3,e4]at a3;rw[e5,e6]at b1;rw[e7,e8]at b3;refine zj (T27.Ap ..) ?_;conv=>zeta
  simp only[e1,e2,e3,e4,e5,e6,e7,e8,QL,Qt,fN,eS,OQ,EH];have m1:=DE a8 b9;have m2:=DE b8 a9;have m3:=DE a9 b9;rw[<-qi]at m1 m2 m3;have m4:=qj (Int.natAbs_add_le (A6 a*AG b) (A6 b*AG a)) (jK (k:=4000+4000) m1 m2);have k1:=JQ m1 (by decide);have k2:=JQ m2 (by decide);have k3:=JQ m3 (by decide);have k4:=JQ m4 (by decide);have k5:AG a*AG b≠0:=qf (by omega) (by omega);exact zd a7 (zd b7 (zd (Ac a1 b3) (zd (Ac b1 a3) (zd (Ac k1 k2) (zd (Ac a3 b3) (zd (Ac (Ac k4 k3) (w4 k5)) (ze (hq _))))))))
 refine zr (T27.Am a b) (zd ha (zd hb (zg (fun qa=>zg (fun qb=>?_) (fun _=>slow)) (fun _=>slow))));obtain⟨x1,x2,x3,x4,x5,x6⟩:=Gg ha qa;obtain⟨y1,y2,y3,y4,y5,y6⟩:=Gg hb qb;have p1:=Up x3 x4 (by omega) y6;have p2:=Up y3 y4 (by omega) x6;have p3:=Up (by omega) x6 (by omega) y6;have p4:AG a*AG b≠0:=qf (by omega) (by omega);rw[x1,x2,y1,y2,wr (A6 a*AG b) (by omega) (by omega),wr (A6 b*AG a) (by omega) (by omega),wr (A6 a*AG b+A6 b*AG a) (by omega) (by omega),wr (AG a*AG b) (by omega) (by omega)];exact zd (Ac (Ac (C4 (by omega) (by omega)) (C4 (by omega) (by omega))) (w4 p4)) (ze (hq _))
theorem T29.ok:Ag Bh 29 UU:=by
 refine Cn Ro (fun(i:List UInt8×List UInt8) hi=>?_);obtain⟨a,b⟩:=i;have hi:(BT a&&BT b)=true:=hi;rw[zf]at hi;obtain⟨ha,hb⟩:=hi;obtain⟨a1,a2,a3,a4,a5,a6,a7,a8,a9⟩:=DK ha;obtain⟨b1,b2,b3,b4,b5,b6,b7,b8,b9⟩:=DK hb;have ad:=(AQ a).den_pos;have bd:=(AQ b).den_pos;have hq:∀ob,Ad UU (a,b) (.dat .str (C1 (A6 a*A6 b) (AG a*AG b))) ob:=fun ob=>z8 rfl rfl (Zw).symm
 have slow:Ends sI (T29.L1 a b) (Ad UU (a,b)):=by
  have e1:Bx a=z7 (A6 a):=rfl;have e2:Br a=zu (A6 a):=rfl;have e3:Bg a=z7 (AG a):=rfl;have e4:Bc a=zu (AG a):=rfl;have e5:Bx b=z7 (A6 b):=rfl;have e6:Br b=zu (A6 b):=rfl;have e7:Bg b=z7 (AG b):=rfl;have e8:Bc b=zu (AG b):=rfl;rw[e1,e2]at a1;rw[e3,e4]at a3;rw[e5,e6]at b1;rw[e7,e8]at b3;refine zj (T29.Ap ..) ?_;conv=>zeta
  simp only[e1,e2,e3,e4,e5,e6,e7,e8,QL,Qt,OQ,EH];have m1:=DE a8 b8;have m3:=DE a9 b9;rw[<-qi]at m1 m3;have k1:=JQ m1 (by decide);have k3:=JQ m3 (by decide);have k5:AG a*AG b≠0:=qf (by omega) (by omega);exact zd a7 (zd b7 (zd (Ac a1 b1) (zd (Ac a3 b3) (zd (Ac (Ac k1 k3) (w4 k5)) (ze (hq _))))))
 refine zr (T29.Am a b) (zd ha (zd hb (zg (fun qa=>zg (fun qb=>?_) (fun _=>slow)) (fun _=>slow))));obtain⟨x1,x2,x3,x4,x5,x6⟩:=Gg ha qa;obtain⟨y1,y2,y3,y4,y5,y6⟩:=Gg hb qb;have p1:=Up x3 x4 y3 y4;have p3:=Up (by omega) x6 (by omega) y6;have p4:AG a*AG b≠0:=qf (by omega) (by omega);rw[x1,x2,y1,y2,wr _ (by omega) (by omega),wr (AG a*AG b) (by omega) (by omega)];exact zd (Ac (Ac (C4 (by omega) (by omega)) (C4 (by omega) (by omega))) (w4 p4)) (ze (hq _))
theorem T94.ok:Ag Bh 94 sF:=by
 refine Cn Ro (fun(a:List UInt8) hi=>?_);obtain⟨hs,h0⟩:=vH hi;obtain⟨a1,a2,a3,a4,a5,a6,a7,a8,a9⟩:=DK (Nh hs).1;refine zr (T94.Am a) (zd a7 (zd (Ac (Ac a3 a1) ?_) (ze (z8 rfl rfl ?_))))
 ·rw[a2];exact w4 fun e=>h0 (Rat.num_eq_zero.mp (by rw[a5,e]))
 ·show HM _ _=rA a;unfold HM;rw[a2,a4];exact aM.symm
theorem nN:D3 XR7:=Aa T94.ok (Aa T29.ok (Aa T27.ok (Aa T99.ok AO)))
theorem jA{s:List UInt8}(h:Jt s=true):BT (Ld s)=true/\AQ (Ld s)= -AQ s:=by
 obtain⟨h1,h2⟩:=Nh h;obtain⟨t,_⟩:=Gq h1;have e:Ld s=Az (-AQ s):=by
  have:=gQ (AQ s);rwa [t]at this
 have r:AQ (Ld s)= -AQ s:=by rw[e,BX]
 refine⟨?_,r⟩;have hl:(Ld s).length<=4000:=by
  unfold Ld;split
  ·omega
  ·split
   ·rw[z6];omega
   ·rw[ya];omega
 unfold BT;rw[r, <-e,w4 rfl,w4 hl];rfl
theorem T28.ok:Ag Bh 28 sE:=by
 refine Cn nN (fun(i:List UInt8×List UInt8) hi=>?_);obtain⟨a,b⟩:=i;have hi:(BT a&&Jt b)=true:=hi;rw[zf]at hi;obtain⟨ha,hb⟩:=hi;obtain⟨n1,n2⟩:=jA hb;have hl:=(Nh hb).2;refine zr (T28.Am a b) (zd (w4 (by omega)) (zd (Ac ha n1) (ze (z8 rfl rfl ?_))));show J9 a (Ld b)=Vr a b;unfold J9 Vr;rw[n2,Rat.sub_eq_add_neg]
theorem XT:D3 XR8:=Aa T28.ok (Aa T41.ok (Aa T89.ok (Aa T100.ok (Aa T101.ok (Aa T102.ok AO)))))
theorem T30.ok:Ag Bh 30 sB:=by
 refine Cn XT (fun(i:List UInt8×List UInt8) hi=>?_);obtain⟨a,b⟩:=i;have hi:(BT a&&Jt b)=true:=hi;have hi2:=hi;rw[zf]at hi2;obtain⟨ha,hb⟩:=hi2;have z:=(Nk ha).sub (Nk (Nh hb).1);refine zr (T30.Am a b) (zd hi (zd (w4 (OT z (by decide))) (ze (z8 rfl rfl ?_))));show Fx (Vr a b)=cG a b;unfold Vr;rw[Mi,cR];rfl
theorem T43.ok:Ag Bh 43 Ys:=by
 refine Cn XT (fun(a:List UInt8) ha=>?_);refine zr (T43.Am a) (zd ha (ze (z8 rfl rfl ?_)));show(AV a==(a.length:Int))=H7 a;obtain⟨c1,c2,c3⟩:=BE a;have es:AV a=((Aw a).length:Int):=rfl;unfold H7;cases hc:Bj a with
 |false=>rw[es,(c3 hc).1];simp
 |true=>
  obtain⟨k1,k2⟩:=c2 hc;rw[es];simp;omega
theorem fT{n:Int}:Sp.Qc n<=0↔n<=0:=by
 unfold Sp.Qc;split
 ·omega
 ·split<;>omega
theorem Wo(n:Int):zl n 1=(n:Rat):=by
 have:=Rat.num_divInt_den (n:Rat);rw[Rat.num_intCast,Rat.den_intCast]at this;exact this
theorem mY:D3 XY1:=Aa T29.ok AO
theorem T44.ok:Ag Bh 44 rM:=by
 refine Cn mY (fun(a:List UInt8) ha=>?_);exact zr (T44.Am a) (zd (Ac ha (Sp.Yy.num (by decide))) (ze (z8 rfl rfl rfl)))
end Go.Pe
namespace Go.Sp
theorem TO(n:Nat):Az (n:Rat)=yf n:=by
 unfold Az;rw[Rat.num_natCast,qx,wd rfl];rfl
theorem Lq:Az 1=[49]:=by decide+kernel
theorem Jj(m:Nat):((2*m:Nat):Rat)*(1/2)=(m:Rat):=by
 rw[Rat.natCast_mul];have:((2:Nat):Rat)=2:=rfl;rw[this];grind
theorem OV(m:Nat):(((2*m+1:Nat):Rat)*(1/2)).den≠1:=by
 intro h;have e:(((2*m+1:Nat):Rat)*(1/2))=(((((2*m+1:Nat):Rat)*(1/2)).num:Int):Rat):=by
  have:=Rat.num_divInt_den (((2*m+1:Nat):Rat)*(1/2));rw[h]at this;exact this.symm.trans (Go.Pe.Wo _)
 generalize (((2*m+1:Nat):Rat)*(1/2)).num=k at e;have e2:((2*m+1:Nat):Rat)=((2*k:Int):Rat):=by
  rw[Rat.intCast_mul, <-e];have:((2:Int):Rat)=2:=rfl;rw[this];grind
 have e3:((2*m+1:Nat):Rat)=(((2*m+1:Nat):Int):Rat):=rfl;rw[e3,Rat.intCast_inj]at e2;omega
end Go.Sp
namespace Go.Pe
open Sp
open Go.Det
theorem eV:D3 kM:=Aa T46.ok AO
theorem T130.ok:Ag Bh 130 Vw:=by
 refine Cn eV (fun(n:Int) _=>?_);refine zr (T130.Am n) (zg (fun c=>ze (z8 rfl rfl ?_)) (fun c=>ze (z8 rfl rfl ?_)))
 ·have c:=w6 c;show decide (n<=999999999)=qp n;unfold qp;rw[w4 (show -999999999<=n from c),y7]
 ·have c:=w7 c;show false=qp n;unfold qp;rw[w8 (show ¬ -999999999<=n from c),Bool.false_and]
theorem nL:D3 XC1:=Aa T105n.ok (Aa T154.ok (Aa T176.ok (Aa T173.ok AO)))
namespace T134
variable {Q:PV->Ob->Prop}
theorem loop(R:Bool)(hq:∀ob,Q (.bl R) ob):∀(k n:Nat) (d:AR),n<=k->0<n->A4 d=true->q9 d=(n:Int)->ZN (n:Int)=R->Ends XC1 (L1 2 (BA 2) d.1 d.2) Q
 |0,n,d,h,h0,_,_,_=>by omega
 |k+1,n,d,h,h0,hd,hv,hr=>by
  obtain⟨j1,v1⟩:=Nl (n:=1) rfl;obtain⟨j2,v2⟩:=Nl (n:=2) rfl;have hc:NZ d (1,BA 1)=BO (n:Int) 1:=by unfold NZ;rw[hv,v1]
  refine zj (Ap ..) (zd rfl (zd (Ac hd j1) (zg (fun c=>?_) (fun c=>?_))))
  ·have c:NZ d (1,BA 1)>0:=w6 c;rw[hc]at c;have hn:1<n:=by
    unfold BO at c;split at c
    ·omega
    ·split at c
     ·omega
     ·omega
   have hm:q9 (Iv d (2,BA 2),Ik d (2,BA 2))=((n % 2:Nat):Int):=by
    show q9 (Cz (q9 d % q9 (2,BA 2)),Cx (q9 d % q9 (2,BA 2)))=_;rw[JB,hv,v2];omega
   have hmo:Dk (Iv d (2,BA 2),Ik d (2,BA 2))=true:=by
    show Dk (CP (q9 d % q9 (2,BA 2)))=true;rw[hv,v2];refine(Ce (Di ?_)).1;rw[Ah];exact yw (show(((n:Int) % 2).natAbs:Int)<(Ai:Int)^1 by rw[Int.pow_one];show _<(18446744073709551616:Int);omega) (AH (by decide) (by decide))
   have hs:EN (Iv d (2,BA 2),Ik d (2,BA 2))=Qc ((n % 2:Nat):Int):=by unfold EN;rw[hm]
   refine zd (Ac (Ac hd j2) (w4 (by rw[v2];decide))) (zd hmo (zg (fun e=>ze ?_) (fun e=>?_)))
   ·have e:EN (Iv d (2,BA 2),Ik d (2,BA 2))≠0:=by simpa using e
    rw[hs]at e;have h2:n % 2=1:=by
     rcases yh n with h|h
     ·rw[h]at e;exact wh rfl e
     ·exact h
    obtain⟨m,rfl⟩:∃m,n=2*m+1:=⟨n/2,by omega⟩;rw[YG (by omega)]at hr;rw[hr];exact hq _
   ·have e:EN (Iv d (2,BA 2),Ik d (2,BA 2))=0:=by simpa using e
    rw[hs]at e;have h2:n % 2=0:=by
     rcases yh n with h|h
     ·exact h
     ·rw[h]at e;exact wh e (by decide)
    obtain⟨m,rfl⟩:∃m,n=2*m:=⟨n/2,by omega⟩;rw[NJ (by omega)]at hr;have hv2:q9 (Gs d (2,BA 2))=(m:Int):=by
     rw[fQ (by rw[v2];decide),hv,v2];omega
    have hb:Ae (q9 d)<(Ai:Int)^9000:=(words hd).2.2.2.2.2;refine loop R hq k m (Gs d (2,BA 2)) (by omega) (by omega) (XM (XC hd (by rw[v2];decide)) ?_) hv2 hr;rw[hv2];rw[hv]at hb;rw[Ah]at hb ⊢;exact Int.lt_of_le_of_lt (by omega) hb
  ·have c:¬NZ d (1,BA 1)>0:=w7 c;rw[hc]at c;have hn:n=1:=by
    unfold BO at c;split at c
    ·omega
    ·split at c
     ·exact wh (by decide) c
     ·omega
   subst hn;have:R=true:=by rw[<-hr];exact S1
   subst this;exact ze (hq _)
end T134
theorem T134.ok:Ag Bh 134 zG:=by
 refine Cn nL (fun(a:AS) ha=>?_);have ha:(A4 a.2&&decide (0<q9 a.2))=true:=ha;rw[zf,w5]at ha;obtain⟨n,hn⟩:=yc (yu ha.2);refine zr (T134.Am a) (zd rfl (T134.loop (Xq a) (fun ob=>z8 rfl rfl rfl) n n a.2 (yb _) (by omega) ha.1 hn ?_));unfold Xq;rw[hn]
theorem nD:D3 zX:=Aa T102.ok (Aa T44.ok (Aa T43.ok AO))
namespace T133
variable {Q:PV->Ob->Prop}
theorem loop(R:Bool)(hq:∀ob,Q (.bl R) ob)(E:Nat)(hE:1<=E/\E<=4000):∀(k n:Nat),n<=k->0<n->n<10^E->ZN (n:Int)=R->Ends zX (L1 (Az (n:Rat))) Q
 |0,n,h,h0,_,_=>by omega
 |k+1,n,h,h0,hb,hr=>by
  have z:Dq E (n:Rat):=by
   unfold Dq;rw[Rat.num_natCast,qx];exact⟨by rw[qk];exact hb,Nat.one_lt_pow (by omega) (by decide)⟩
  have hn:BT (Az (n:Rat))=true:=by
   unfold BT;rw[BX,w4 rfl,y7,TO];exact w4 (Nat.le_trans (CW hb hE.1) hE.2)
  have e1:Qi (Az (n:Rat))=Az ((n:Rat)*(1/2)):=by
   unfold Qi YX;rw[BX,uC]
  have z2:Dq (E+1) ((n:Rat)*(1/2)):=z.mul Yy.z;have hl:=Ku z2 (by omega);refine zj (Ap ..) (zg (fun c=>?_) (fun c=>ze ?_))
  ·have c:Az (n:Rat)≠[49]:=by simpa using c
   rw[e1];refine zd hn (zd (w4 (by omega)) (zg (fun d=>ze ?_) (fun d=>?_)))
   ·have d:H7 (Az ((n:Rat)*(1/2)))=false:=by simpa using d
    unfold H7 at d;rw[(EI _).2.2]at d;have d:((n:Rat)*(1/2)).den≠1:=by simpa using d
    have h2:n % 2=1:=by
     rcases yh n with h|h
     ·obtain⟨m,rfl⟩:∃m,n=2*m:=⟨n/2,by omega⟩;rw[Sp.Jj,qx]at d;exact wh rfl d
     ·exact h
    obtain⟨m,rfl⟩:∃m,n=2*m+1:=⟨n/2,by omega⟩;have hm:0<m:=by
     rcases Nat.eq_zero_or_pos m with rfl|h
     ·exact wh Lq c
     ·exact h
    rw[YG hm]at hr;rw[hr];exact hq _
   ·have d:H7 (Az ((n:Rat)*(1/2)))=true:=by simpa using d
    unfold H7 at d;rw[(EI _).2.2]at d;have d:((n:Rat)*(1/2)).den=1:=by simpa using d
    have h2:n % 2=0:=by
     rcases yh n with h|h
     ·exact h
     ·obtain⟨m,rfl⟩:∃m,n=2*m+1:=⟨n/2,by omega⟩;exact wh d (Sp.OV m)
    obtain⟨m,rfl⟩:∃m,n=2*m:=⟨n/2,by omega⟩;rw[Sp.Jj];rw[NJ (by omega)]at hr;exact loop R hq E hE k m (by omega) (by omega) (qj (by omega) hb) hr
  ·have c:Az (n:Rat)=[49]:=by simpa using c
   rw[<-Lq]at c;have c2:=W5 (n:Rat) 1;rw[w4 c]at c2;have c3:(n:Rat)=1:=by simpa using c2.symm
   have c4:((n:Int):Rat)=((1:Int):Rat):=c3;rw[Rat.intCast_inj]at c4;have hn:n=1:=by omega
   subst hn;have:R=true:=by rw[<-hr];exact S1
   subst this;exact hq _
end T133
theorem T133.ok:Ag Bh 133 xR:=by
 refine Cn nD (fun(s:List UInt8) hs=>?_);have hs:BT s=true:=hs;have e:=(Gq hs).1;have ed:P0 s=Az (((AQ s).den:Nat):Rat):=by
  rw[TO, <-UQ,e]
 refine zr (T133.Am s) (zd (w4 (by have:=(Gq hs).2;omega)) ?_);rw[ed];refine T133.loop (S8 s) (fun ob=>z8 rfl rfl rfl) 4000 (by decide) _ _ (yb _) (AQ s).den_pos (Nk hs).2 ?_;unfold S8;rw[(DK hs).2.2.2.2.2.1]
end Go.Pe
namespace Go.Pe
open Go.Det
theorem uW{a:List UInt8}(ha:Sp.AF a=0):Sp.DB (frS a)=true/\Sp.Hn a=true:=by
 obtain⟨n,z⟩:=Sp.Hr ha;exact⟨(T3 n).DB (Cd z (by decide)),(Sp.DK n).2.2.2.2.2.2.1⟩
end Go.Pe
namespace Go.Sp
theorem JZ(x:Int)(l:List Int):first (x::l)=if x≠0 then x else first l:=by
 by_cases h:x=0
 ·subst h;rw[wc (by simp),first];rfl
 ·rw[wd h,first];simp[h]
theorem YU:first []=0:=rfl
theorem Ix(b:Bool)(e:Int):Dp b e=if b=true then e else 0:=by cases b<;>rfl
theorem step1(o:Option Int)(c:BB)(h:first [Dp (!isNum c.1) 3,AF c.2]≠0):Ch o c=first [Dp (!isNum c.1) 3,AF c.2]:=by
 rw[Go.Pe.Jl,Ix]at*;unfold Ch;cases hn:isNum c.1 with
 |false=>rfl
 |true=>
  rw[hn]at h;have h:AF c.2≠0:=by simpa using h
  simp[h]
theorem step2(c:BB)(h:first [Dp (!isNum c.1) 3,AF c.2]=0):isNum c.1=true/\AF c.2=0:=by
 rw[Go.Pe.Jl,Ix]at h;cases hn:isNum c.1 with
 |false=>rw[hn]at h;exact wh h (by simp)
 |true=>
  rw[hn]at h;exact⟨rfl,by simpa using h⟩
end Go.Sp
namespace Go.Pe
open Sp
open Go.Det
theorem wF(q:Rat):q.num<=0↔q<=0:=by
 have k:=(Sp.neg_num q).2;constructor
 ·intro h;exact qw.1 (fun x=>by have:=k.2 x;omega)
 ·intro h;rcases qu 0 q.num with x|x
  ·exact wh (k.1 x) (qw.2 h)
  ·exact x
theorem D7{w:List UInt8}(h:AF w=0):E3 (JJ w) (AQ w)/\Dq (Sp.KJ w) (AQ w)/\Xq (JJ w)=S8 w/\SE (JJ w).2=true/\Hn w=true:=by
 obtain⟨n,z⟩:=Hr h;have r:E3 (JJ w) (AQ w):=T3 n;have hs:=Cd z (by decide);refine⟨r,(Su h).z,?_,?_,(uW h).2⟩
 ·unfold Xq S8;rw[r.vd,(DK n).2.2.2.2.2.1]
 ·unfold SE;refine Ac (XM r.d ?_) (w4 r.den_pos);rw[r.vd,Ah,qk];exact yw hs.2 (AH (by decide) (by decide))
theorem zK(o:Option Int)(c:BB)(h1:qp c.1=true)(h2:AF c.2=0):jc [Dp (decide (WG (JJ c.2)<=0)) 3,Dp (!Xq (JJ c.2)) 1,Dp (mF o c.1) 11]=Ch o c:=by
 obtain⟨r,_,hd,_⟩:=D7 h2;have hs:(WG (JJ c.2)<=0)↔AQ c.2<=0:=by
  unfold WG;rw[r.vn];exact fT.trans (wF (AQ c.2))
 rw[hd];unfold Ch;rw[h1,wc (by decide),wc (by simpa using h2)];rw[JZ,JZ,JZ,YU,Ix,Ix,Ix];by_cases k1:AQ c.2<=0
 ·rw[w4 (hs.2 k1),wd k1];rfl
 ·rw[w8 (fun x=>k1 (hs.1 x)),wc k1];cases S8 c.2 with
  |false=>rfl
  |true=>cases mF o c.1<;>rfl
theorem lS:D3 xN:=Aa T130.ok (Aa T83.ok (Aa T85.ok (Aa T77.ok (Aa T87.ok (Aa T110.ok (Aa T134.ok (Aa T80.ok (Aa T88.ok (Aa T111.ok AO)))))))))
namespace T63
variable {Q:PV->Ob->Prop}
theorem loop(l:List BB)(h64:l.length<=64)(hl:∀c∈l,c.2.length<=1000000)(hq:∀ob,Q (.dat i64 (Fb none 0 l)) ob):∀(r:List BB) (i K:Nat) (o:Option Int) (s:Rat) (f:AS),l.drop i=r->i<=l.length->E3 f s->Dq K s->K+Fe r<=1900->((i=0/\o=none)\/(0<i/\o=some (l.getD (i-1) ((0:Int),[])).1))->Fb none 0 l=Fb o s r->Ends xN (L1 l l (l.length:Int) (i:Int) f.1.1 f.1.2 f.2.1 f.2.2) Q
 |[],i,K,o,s,f,h,hi,hf,hz,hk,ho,he=>by
  have:=drop_nil h hi;have e:i=l.length:=by omega
  subst e;have h1:E3 ((1,BA 1),(1,BA 1)) ((1:Int):Rat):=fJ 1 rfl;have z1:=Aay 1 (by decide);have hc:=E3.cmp hf h1;refine zj (Ap ..) (zk (w8 (by omega)) (zd rfl (zd (Ac (hf.DB (Cd hz (by omega))) (h1.DB (Cd z1 (by decide)))) (zd rfl (ze ?_)))));have ev:Dp (!bN f ((1,BA 1),(1,BA 1))==0) 15=Fb none 0 l:=by
   rw[he,Fb,hc,Ix];have e1:((1:Int):Rat)=1:=rfl;rw[e1];by_cases k:s=1
   ·subst k;rw[wc Rat.lt_irrefl,wc Rat.lt_irrefl];rfl
   ·rw[wc k];by_cases k1:s<1
    ·rw[wd k1];rfl
    ·have k2:1<s:=by
      rcases(Rat.le_total:s<=1\/1<=s)with x|x
      ·exact wh (Rat.le_antisymm x (qw.1 k1)) k
      ·exact Rat.not_le.1 fun y=>k (Rat.le_antisymm y x)
     rw[wc k1,wd k2];rfl
  rw[<-ev]at hq;exact hq _
 |c::r,i,K,o,s,f,h,hi,hf,hz,hk,ho,he=>by
  obtain⟨g1,g2,g3⟩:=drop_cons (d:=(((0:Int),[]):BB)) h;have hm:c∈l:=List.mem_of_mem_drop (by rw[h];exact List.mem_cons_self ..);have e1:zc .i64 ((i:Int)+1)=((i+1:Nat):Int):=by rw[wr _ (by omega) (by omega)];omega
  rw[GK]at he;refine zj (Ap ..) ?_;conv=>zeta
  rw[e1,zh,g2];refine zd (w4 (by omega)) (zd (Ac (w4 (by omega)) (w4 (by omega))) (zd rfl (zd rfl (zd (w4 (hl c hm)) (zd rfl (zg (fun k=>ze ?_) (fun k=>?_)))))))
  ·have k:jc [Dp (!qp c.1) 3,AF c.2]≠0:=by simpa using k
   have e:=Sp.step1 o c k;rw[wd (by rw[e];exact k),e]at he;rw[<-he];exact hq _
  ·have k:jc [Dp (!qp c.1) 3,AF c.2]=0:=by simpa using k
   obtain⟨k1,k2⟩:=Sp.step2 c k;obtain⟨rr,zz,_,sm,rb⟩:=D7 k2;have st:=fun o=>zK o c k1 k2
   have ht:Fe (c::r)=Sp.KJ c.2+1+Fe r:=by rw[Fe,wd k2]
   rw[ht]at hk;have s1:=Cd hz (by omega);have s2:=Cd zz (by omega);have next:(o=none\/0<i)->Ch o c=0->Ends xN (L1 l l (l.length:Int) ((i+1:Nat):Int) (UL f (JJ c.2)) (TL f (JJ c.2)) (TU f (JJ c.2)) (Us f (JJ c.2))) Q:=by
    intro _ hs0;rw[wc (by simpa using hs0)]at he;exact loop l h64 hl hq r (i+1) _ (some c.1) (s+AQ c.2) (Hu f (JJ c.2)) g3 g1 (E3.add hf rr s1 s2) (hz.add zz) (by omega) (.inr ⟨by omega,by rw[yo,g2]⟩) he
   refine zd rb (zd rr.n (zd rfl (zd sm (zd rfl (zg (fun p=>?_) (fun p=>?_))))))
   ·have p:0<i:=by have:=w6 p;omega
    rcases ho with ho|ho
    ·omega
    obtain⟨_,rfl⟩:=ho;have e2:zc .i64 ((i:Int)-1)=((i-1:Nat):Int):=by rw[wr _ (by omega) (by omega)];omega
    rw[e2,zh];have st:jc [Dp (decide (WG (JJ c.2)<=0)) 3,Dp (!Xq (JJ c.2)) 1,Dp (decide (c.1<=(l.getD (i-1) ((0:Int),[])).1)) 11]=Ch (some (l.getD (i-1) ((0:Int),[])).1) c:=st (some (l.getD (i-1) ((0:Int),[])).1)
    refine zd (Ac (w4 (by omega)) (w4 (by omega))) (zd rfl (zd rfl (zg (fun m=>ze ?_) (fun m=>?_))))
    ·have m:Ch (some (l.getD (i-1) ((0:Int),[])).1) c≠0:=by rw[<-st];simpa using m
     rw[wd m, <-st]at he;rw[he]at hq;exact hq _
    ·have m:Ch (some (l.getD (i-1) ((0:Int),[])).1) c=0:=by rw[<-st];simpa using m
     exact zd (Ac (hf.FO s1) (rr.FO s2)) (next (.inr p) m)
   ·have p:i=0:=by have:=w7 p;omega
    rcases ho with ho|ho
    ·obtain⟨_,rfl⟩:=ho;have st:jc [Dp (decide (WG (JJ c.2)<=0)) 3,Dp (!Xq (JJ c.2)) 1,Dp false 11]=Ch none c:=st none
     refine zd rfl (zd rfl (zg (fun m=>ze ?_) (fun m=>?_)))
     ·have m:Ch none c≠0:=by rw[<-st];simpa using m
      rw[wd m, <-st]at he;rw[he]at hq;exact hq _
     ·have m:Ch none c=0:=by rw[<-st];simpa using m
      exact zd (Ac (hf.FO s1) (rr.FO s2)) (next (.inl rfl) m)
    ·omega
end T63
theorem iV{α:Type}(l:List α):jc [Dp ((l.length:Int)==0) 12,Dp (decide ((l.length:Int)>64)) 5]=if l=[]then 12 else if 64<l.length then 5 else 0:=by
 rw[Jl,Ix,Ix];cases l with
 |nil=>rfl
 |cons x l=>
  have e:(((x::l).length:Int)==0)=false:=by
   rw[ya];simp;omega
  rw[e,wc (show ¬(if false=true then(12:Int)else 0)≠0 by decide),wc (List.cons_ne_nil x l)];by_cases k:64<(x::l).length
  ·rw[wd k,w4 (by omega)];rfl
  ·rw[wc k,w8 (by omega)];rfl
theorem Fm:E3 ((0,BA 0),(1,BA 1)) 0:=fJ 0 rfl
theorem I8:Dq 1 0:=⟨by decide,by decide⟩
theorem T63.ok:Ag Bh 63 Rg:=by
 refine Cn lS (fun(l:List BB) hl=>?_);have hl:Io l=true:=hl;obtain⟨h1,h2,h3⟩:=WW hl;have hq:∀e ob,e=AJ l->Ad Rg l (.dat i64 e) ob:=fun e ob h=>z8 rfl rfl h
 refine zr (T63.Am l) ?_;conv=>zeta
 rw[iV];refine zd rfl (zd rfl (zd rfl ?_));by_cases k:l=[]
 ·rw[wd k];exact zd rfl (ze (hq _ _ (by unfold AJ;rw[wd k])))
 rw[wc k];by_cases m:64<l.length
 ·rw[wd m];exact zd rfl (ze (hq _ _ (by unfold AJ;rw[wc k,wd m])))
 rw[wc m];have e:AJ l=Fb none 0 l:=by unfold AJ;rw[wc k,wc m]
 refine zk rfl (zd rfl ?_);exact T63.loop l (by omega) h2 (fun ob=>hq _ ob e.symm) l 0 1 none 0 ((0,BA 0),(1,BA 1)) rfl (Nat.zero_le _) Fm I8 (by omega) (.inl ⟨rfl,rfl⟩) rfl
theorem lR{u:List UInt8}(n:BT u=true):Fx u<=0↔AQ u<=0:=by
 have t:=(Gq n).1;have h:=Mi (AQ u);rw[t]at h;rw[h,fT];have k:=(Sp.neg_num (AQ u)).2;constructor
 ·intro h;exact qw.1 (fun x=>by have:=k.2 x;omega)
 ·intro h;rcases qu 0 (AQ u).num with x|x
  ·exact wh (k.1 x) (qw.2 h)
  ·exact x
end Go.Pe
namespace Go.Sp
theorem jF{n:Int}(h1:¬n< -999999999)(h2:¬n>999999999):isNum n=true:=by
 unfold isNum;rw[w4 (by omega),w4 (by omega)];rfl
theorem Ut{n:Int}(h:n< -999999999\/n>999999999):isNum n=false:=by
 unfold isNum;rcases h with h|h
 ·rw[w8 (by omega),Bool.false_and]
 ·rw[w8 (show ¬n<=999999999 by omega),Bool.and_false]
variable {o:Option Int}{c:BB}
theorem fA(h:isNum c.1=false):Ch o c=3:=by unfold Ch;rw[wd h]
theorem uV(h:isNum c.1=true)(k:AF c.2≠0):Ch o c=AF c.2:=by unfold Ch;rw[h,wc (by decide),wd k]
theorem uE(h:isNum c.1=true)(k:AF c.2=0)(p:AQ c.2<=0):Ch o c=3:=by unfold Ch;rw[h,wc (by decide),wc (by simpa using k),wd p]
theorem yG(h:isNum c.1=true)(k:AF c.2=0)(p:¬AQ c.2<=0)(d:S8 c.2=false):Ch o c=1:=by unfold Ch;rw[h,wc (by decide),wc (by simpa using k),wc p,wd d]
theorem xY(h:isNum c.1=true)(k:AF c.2=0)(p:¬AQ c.2<=0)(d:S8 c.2=true):Ch o c=if mF o c.1=true then 11 else 0:=by unfold Ch;rw[h,wc (by decide),wc (by simpa using k),wc p,d,wc (by decide)]
theorem pC{k:Nat}{q:Rat}(h:Dq k q):Nu k (Az q) q:=⟨rfl,h⟩
end Go.Sp
namespace Go.Pe
open Sp
open Go.Det
theorem pD:D3 T1:=Aa T24.ok (Aa T41.ok (Aa T133.ok (Aa T27.ok AO)))
namespace T62
variable {Q:PV->Ob->Prop}{l:List BB}{v:List UInt8}{i e:Int}
theorem yY(h:e≠0)(hq:∀ob,Q (.dat i64 e) ob):Ends T1 (L5 l v i e) Q:=zj (E5 ..) (zd (by simpa using h) (ze (hq _)))
theorem zL(h:e≠0)(hq:∀ob,Q (.dat i64 e) ob):Ends T1 (L4 l v i e) Q:=zj (CJ ..) (zk (by simpa using h) (yY h hq))
theorem yZ(h:e≠0)(hq:∀ob,Q (.dat i64 e) ob):Ends T1 (L3 l v i e) Q:=zj (CH ..) (zk (by simpa using h) (zL h hq))
theorem wR(h:e≠0)(hq:∀ob,Q (.dat i64 e) ob):Ends T1 (L2 l v i e) Q:=zj (AY ..) (zk (by simpa using h) (yZ h hq))
theorem loop(l:List BB)(h64:l.length<=64)(hl:∀c∈l,c.2.length<=1000000)(hq:∀ob,Q (.dat i64 (Fb none 0 l)) ob):∀(r:List BB) (i K:Nat) (o:Option Int) (s:Rat),l.drop i=r->i<=l.length->Dq K s->K+Fe r<=1900->((i=0/\o=none)\/(0<i/\o=some (l.getD (i-1) ((0:Int),[])).1))->Fb none 0 l=Fb o s r->Ends T1 (L1 l (Az s) (i:Int)) Q
 |[],i,K,o,s,h,hi,hz,hk,ho,he=>by
  have:=drop_nil h hi;have e:i=l.length:=by omega
  subst e;have ht:=W5 s 1;rw[Lq]at ht;rw[Fb]at he;refine zj (Ap ..) (zk (w8 (by omega)) (zg (fun c=>ze ?_) (fun c=>ze ?_)))
  ·have c:Az s≠[49]:=by simpa using c
   rw[w8 c]at ht;have:s≠1:=by simpa using ht.symm
   rw[wc this]at he;rw[<-he];exact hq _
  ·have c:Az s=[49]:=by simpa using c
   rw[w4 c]at ht;have:s=1:=by simpa using ht.symm
   rw[wd this]at he;rw[<-he];exact hq _
 |c::r,i,K,o,s,h,hi,hz,hk,ho,he=>by
  obtain⟨g1,g2,g3⟩:=drop_cons (d:=(((0:Int),[]):BB)) h;have hm:c∈l:=List.mem_of_mem_drop (by rw[h];exact List.mem_cons_self ..);have e1:zc .i64 ((i:Int)+1)=((i+1:Nat):Int):=by rw[wr _ (by omega) (by omega)];omega
  have bd:(decide ((0:Int)<=(i:Int))&&decide ((i:Int)<(l.length:Int)))=true:=Ac (w4 (by omega)) (w4 (by omega));have hlc:=hl c hm;rw[GK]at he;have bad:∀e:Int,Ch o c=e->e≠0->∀ob,Q (.dat i64 e) ob:=by
   intro e h1 h2 ob;rw[h1,wd h2]at he;rw[<-he];exact hq _
  refine zj (Ap ..) ?_;conv=>zeta
  rw[zh,g2];refine zd (w4 (by omega)) (zd bd (zg (fun k=>?_) (fun k=>?_)))
  ·have k:=w6 k;exact zk rfl (wR (by decide) (bad 3 (fA (Ut (.inl k))) (by decide)))
  have k1:=w7 k;refine zd bd (zg (fun k=>?_) (fun k=>?_))
  ·have k:=w6 k;exact zk rfl (wR (by decide) (bad 3 (fA (Ut (.inr k))) (by decide)))
  have k2:=w7 k;have kn:=jF k1 k2;refine zd rfl (zd bd (zd (w4 hlc) ?_));by_cases kc:AF c.2=0
  case neg=>exact wR kc (bad _ (uV kn kc) kc)
  rw[kc];have nw:=Su kc;have nb:=(Hr kc).1;have hsg:=lR nb;have ht:Fe (c::r)=Sp.KJ c.2+1+Fe r:=by rw[Fe,wd kc]
  rw[ht]at hk;refine zj (AY ..) ?_;conv=>zeta
  rw[zh,g2];refine zd rfl (zd bd (zd (w4 hlc) (zg (fun p=>?_) (fun p=>?_))))
  ·have p:=hsg.1 (w6 p);exact yZ (by decide) (bad 3 (uE kn kc p) (by decide))
  have kp:¬AQ c.2<=0:=fun x=>w7 p (hsg.2 x)
  refine zj (CH ..) ?_;conv=>zeta
  rw[zh,g2];refine zd rfl (zd bd (zd nb (zg (fun d=>?_) (fun d=>?_))))
  ·have d:S8 c.2=false:=by simpa using d
   exact zL (by decide) (bad 1 (yG kn kc kp d) (by decide))
  have kd:S8 c.2=true:=by simpa using d
  have sl:=xY (o:=o) kn kc kp kd;have next:mF o c.1=false->Ends T1 (L5 l (Az s) (i:Int) 0) Q:=by
   intro h0;rw[h0,wc (by decide)]at sl;rw[sl,wc (by decide)]at he;have ns:=pC hz;have es:J9 (Az s) c.2=Az (s+AQ c.2):=by unfold J9;rw[BX]
   refine zj (E5 ..) ?_;conv=>zeta
   rw[zh,g2,e1,es];exact zk rfl (zd bd (zd (Ac (ns.num (by omega)) nb) (loop l h64 hl hq r (i+1) _ (some c.1) (s+AQ c.2) g3 g1 (hz.add nw.z) (by omega) (.inr ⟨by omega,by rw[yo,g2]⟩) he)))
  refine zj (CJ ..) (zd rfl (zg (fun p=>?_) (fun p=>?_)))
  ·have p:0<i:=by have:=w6 p;omega
   rcases ho with ho|ho
   ·omega
   obtain⟨_,rfl⟩:=ho;have e2:zc .i64 ((i:Int)-1)=((i-1:Nat):Int):=by rw[wr _ (by omega) (by omega)];omega
   rw[e2,zh,zh,g2];refine zd (Ac (w4 (by omega)) (w4 (by omega))) (zd bd (zg (fun m=>?_) (fun m=>?_)))
   ·have m:c.1<=(l.getD (i-1) ((0:Int),[])).1:=w6 m;have m:mF (some (l.getD (i-1) ((0:Int),[])).1) c.1=true:=w4 m;rw[m,wd rfl]at sl;exact yY (by decide) (bad 11 sl (by decide))
   ·have m:¬c.1<=(l.getD (i-1) ((0:Int),[])).1:=w7 m;exact next (w8 m)
  ·have p:i=0:=by have:=w7 p;omega
   rcases ho with ho|ho
   ·obtain⟨_,rfl⟩:=ho;exact next rfl
   ·omega
end T62
theorem T62.ok:Ag Bh 62 Rg:=by
 refine Cn pD (fun(l:List BB) hl=>?_);have hl:Io l=true:=hl;obtain⟨h1,h2,h3⟩:=WW hl;have hq:∀e ob,e=AJ l->Ad Rg l (.dat i64 e) ob:=fun e ob h=>z8 rfl rfl h
 refine zr (T62.Am l) (zg (fun c=>ze (hq _ _ ?_)) (fun c=>zg (fun d=>ze (hq _ _ ?_)) (fun d=>?_)))
 ·have c:(l.length:Int)=0:=by simpa using c
  unfold AJ;rw[wd (yd.1 (by omega))]
 all_goals
  have c:l≠[]:=fun k=>by rw[k]at c;exact wh c (by decide)
 ·have d:=w6 d;unfold AJ;rw[wc c,wd (by omega)]
 ·have d:=w7 d;have e:AJ l=Fb none 0 l:=by unfold AJ;rw[wc c,wc (by omega)]
  have z:=T62.loop (Q:=Ad Rg l) l (by omega) h2 (fun ob=>hq _ ob e.symm) l 0 1 none 0 rfl (Nat.zero_le _) I8 (by omega) (.inl ⟨rfl,rfl⟩) rfl;rw[Y6]at z;exact z
section
open List Int Prod
namespace T59
def T(l:List (Int×List UInt8)):Tr:=tree wK false 9 59 (Af ([zi (yx i64 zq)]) l)
def L1(v14:List (Int×List UInt8))(v15 v16 o0:Int)(o0_1:List Int)(o0_2:Int)(o0_3:List Int):Tr:=re ((T []).L.R.L) (AD 34 [(5,.ptr 0 0),(14,.dat (zi (yx i64 zq)) v14),(15,.dat i64 v15),(16,.dat i64 v16)] [(0,.box [.dat i64 o0,.dat (jd (yv qd)) o0_1,.dat i64 o0_2,.dat (jd (yv qd)) o0_3])] 1)
theorem Am(l:List (Int×List UInt8)):T l=.ite (Io l) (.ite (AJ l !=0) (.leaf (.tup [.dat zq [],.dat i64 (AJ l)]) []) (.ite true (L1 l ((length l:Int)) 0 0 (BA 0) 1 (BA 1)) .fail)) .fail:=by kernel_rfl
theorem Ap(v14:List (Int×List UInt8))(v15 v16 o0:Int)(o0_1:List Int)(o0_2:Int)(o0_3:List Int):stepT wK (L1 v14 v15 v16 o0 o0_1 o0_2 o0_3)=let b':=getD v14 (toNat v16) (0,[]);let c':=((o0,o0_1),o0_2,o0_3);let e':=jd (yv qd);let d':=((fst b',BA (fst b')),1,BA 1);let a':=OX d' (JJ (snd b'));.ite (decide (v16<v15)) (.ite (decide (0<=v16)&&decide (v16<(length v14:Int))) (.ite true (.ite (Hn (snd b')) (.ite (Sp.FO d'&&Sp.FO (JJ (snd b'))) (.ite (Sp.FO c'&&Sp.FO a') (L1 v14 v15 (zc .i64 (v16+1)) (UL c' a') (TL c' a') (TU c' a') (Us c' a')) .fail) .fail) .fail) .fail) .fail) (.ite (Sp.DB c') (.leaf (.tup [.dat zq (MX c'),.dat i64 (MZ c')]) ([(0,.box [.dat i64 o0,.dat e' o0_1,.dat i64 o0_2,.dat e' o0_3])])) .fail):=by kernel_rfl
end T59
namespace T61
def T(l:List (Int×List UInt8))(n:Int):Tr:=tree wK false 9 61 (Af ([zi (yx i64 zq),yv yi]) (l,n))
def L1(v1:Int)(v16:List (Int×List UInt8))(v17 v18 o0:Int)(o0_1:List Int)(o0_2:Int)(o0_3:List Int):Tr:=re ((T [] 0).L.R.L) (AD 36 [(1,.dat i64 v1),(7,.ptr 0 0),(16,.dat (zi (yx i64 zq)) v16),(17,.dat i64 v17),(18,.dat i64 v18)] [(0,.box [.dat i64 o0,.dat (jd (yv qd)) o0_1,.dat i64 o0_2,.dat (jd (yv qd)) o0_3])] 1)
theorem Am(l:List (Int×List UInt8))(n:Int):T l n=.ite (Io l) (.ite (AJ l !=0) (.leaf (.tup [.dat zq [],.dat i64 (AJ l)]) []) (.ite true (L1 n l ((length l:Int)) 0 0 (BA 0) 1 (BA 1)) .fail)) .fail:=by kernel_rfl
theorem Ap(v1:Int)(v16:List (Int×List UInt8))(v17 v18 o0:Int)(o0_1:List Int)(o0_2:Int)(o0_3:List Int):stepT wK (L1 v1 v16 v17 v18 o0 o0_1 o0_2 o0_3)=let b':=((o0,o0_1),o0_2,o0_3);let c':=getD v16 (toNat v18) (0,[]);let d':=jd (yv qd);let e':=zc .i64 (v18+1);let a':=JJ (snd c');.ite (decide (v18<v17)) (.ite (decide (0<=v18)&&decide (v18<(length v16:Int))) (.ite (decide (fst c'<=v1)) (.ite (Hn (snd c')) (.ite (Sp.FO b'&&Sp.FO a') (L1 v1 v16 v17 e' (UL b' a') (TL b' a') (TU b' a') (Us b' a')) .fail) .fail) (L1 v1 v16 v17 e' o0 o0_1 o0_2 o0_3)) .fail) (.ite (Sp.DB b') (.leaf (.tup [.dat zq (MX b'),.dat i64 (MZ b')]) ([(0,.box [.dat i64 o0,.dat d' o0_1,.dat i64 o0_2,.dat d' o0_3])])) .fail):=by kernel_rfl
end T61
end
end Go.Pe
