import Derived.Test.YtlapcggejnojjaaGreatDoorX10
import Derived.Test.YtlapcggejnojjaaGreatDoorX09
/- A part of a proof (no law is stated here). Made by program out of texts by AI agents. -/
open Go.IntKind renaming wrap → zc, u64 → zd, u8 → zL, i64 → zO
open Go.Pe.Sh renaming list → ze, bool → zg, str → zh, int → zj, nlist → zu, pair → zF, T → ya
open Go.Sp renaming val → zf, u64 → zr, first → zH, AM → zR
open Go.Pe.Ends renaming tt → zi, An → zU, ite → zY
open Nat renaming add → zk, sub → zx, min_eq_left → zS
open UInt8 renaming toNat → zl
open Int renaming mul_le_mul_of_nonneg_right → zm, mul_assoc → zn, toNat_natCast → zo, mul_comm → zp, mul_add → zq, add_mul → zw, mul_le_mul_of_nonneg_left → zA, one_mul → zC, le_of_lt → zD, tmod → zE, mul_nonneg → zI, pow_succ → zM, mul_ediv_add_emod → zN, tdiv → zP, mul_sub → zV, sub_mul → zX, mul_zero → z6, add_zero → z7, lt_or_le → z8
open List renaming getD_eq_getElem?_getD → zt, replicate → zz, take_of_length_le → zG, length_take → zJ, getElem?_eq_getElem → zK, map → zQ, drop_eq_getElem_cons → zT, mem_append → zW
open Go.Pe.PV renaming agg → zy
open Option renaming getD → zB
open Min renaming min → zZ
section
namespace Go.Pe
open Sp
open Go.Det
noncomputable section
open List Int Prod
namespace T3
def T(s:List UInt8):Tr:=tree eK false 9 3 (Ah ([zh]) s)
theorem Ay(s:List UInt8):T s=let a':=decide (length s≤1000000);let b':Tr:=.ite true (.leaf (.dat zg true) []) .fail;.ite (decide ((length s:Int)>1300)) b' (.ite a' (.ite a' (.ite (Sp.isName s==Sp.isName s) (.ite a' (.ite a' (.ite (JK s==JK s) b' (.leaf (.bl false) [])) .fail) .fail) (.leaf (.bl false) [])) .fail) .fail):=by kernel_rfl
end T3
namespace T17
def T(h:List (Int×Int)):Tr:=tree aH false 9 17 (Ah ([ze (zF i64 i64)]) h)
def L1(v0:List (Int×Int))(v22:List (Int×Int))(v23 v24:Int)(o0:List (Int×Bool)):Tr:=re ((T []).L.L.L.R) (AB 63 [(0,.dat (ze (zF i64 i64)) v0),(4,PV.mp 0),(22,.dat (ze (zF i64 i64)) v22),(23,.dat i64 v23),(24,.dat i64 v24)] [(0,Obj.map i64 zg o0)] 1)
theorem Ay(h:List (Int×Int)):T h=let a':=(length h:Int);let b':=decide (a'>36);.ite true (.ite true (.ite (decide (2≤2)&&true&&decide (2≤1000000)) (.ite (zH [BS (a'==0) 12,BS b' 5] !=0) (.leaf (.dat i64 (zH [BS (a'==0) 12,BS b' 5])) ([(0,.arr false 24 i64 [BS (a'==0) 12,BS b' 5])])) (L1 h h (a') 0 [])) .fail) .fail) .fail:=by kernel_rfl
theorem Ap(v0:List (Int×Int))(v22:List (Int×Int))(v23 v24:Int)(o0:List (Int×Bool)):stepT aH (L1 v0 v22 v23 v24 o0)=let b':=getD v22 (toNat v24) (0,0);let f':=decide (2≤2)&&true&&decide (2≤1000000);let c':=zB (Dz i64 zg (snd b') o0) false;let d':=L1 v0 v22 v23 (zc .i64 (v24+1)) (FE i64 zg (snd b') true o0);let e':=decide (snd b'>(length v0:Int));let a':Tr:=.ite true (.ite true (.ite f' (.ite (zH [BS true 3,BS c' 9] !=0) (.leaf (.dat i64 (zH [BS true 3,BS c' 9])) ([(zk 1 1,.arr false 24 i64 [BS true 3,BS c' 9]),(1,.box [.dat i64 (fst b'),.dat i64 (snd b')]),(0,Obj.map i64 zg o0)])) d') .fail) .fail) .fail;.ite (decide (v24<v23)) (.ite (decide (0≤v24)&&decide (v24<(length v22:Int))) (.ite (decide (fst b'<3)) a' (.ite (decide (fst b'>6)) a' (.ite (decide (snd b'<1)) a' (.ite true (.ite true (.ite f' (.ite (zH [BS e' 3,BS c' 9] !=0) (.leaf (.dat i64 (zH [BS e' 3,BS c' 9])) ([(zk 1 1,.arr false 24 i64 [BS e' 3,BS c' 9]),(1,.box [.dat i64 (fst b'),.dat i64 (snd b')]),(0,Obj.map i64 zg o0)])) d') .fail) .fail) .fail)))) .fail) (.leaf (.dat i64 (0:Int)) ([(0,Obj.map i64 zg o0)])):=by kernel_rfl
end T17
namespace T18
def T(h:List (Int×Int)):Tr:=tree D0 false 9 18 (Ah ([ze (zF i64 i64)]) h)
def L1(v0:List (Int×Int))(v3:Int):Tr:=re ((T []).R.R) (AB 65 [(0,.dat (ze (zF i64 i64)) v0),(3,.dat i64 v3)] [] 0)
theorem Ay(h:List (Int×Int)):T h=.ite ((length h:Int)==0) (.leaf (.dat i64 (12:Int)) []) (.ite (decide ((length h:Int)>36)) (.leaf (.dat i64 (5:Int)) []) (L1 h 0)):=by kernel_rfl
def L2(v0:List (Int×Int))(v3 v4:Int):Tr:=re ((stepT D0 (L1 [] 0)).L.L.R.L.R.L.R.L.R) (AB 65 [(0,.dat (ze (zF i64 i64)) v0),(3,.dat i64 v3),(4,.dat i64 v4)] [] 0)
theorem Ap(v0:List (Int×Int))(v3:Int):stepT D0 (L1 v0 v3)=let b':Tr:=.leaf (.dat i64 (3:Int)) [];let c':=getD v0 (toNat v3) (0,0);let d':=(length v0:Int);let a':=decide (0≤v3)&&decide (v3<d');.ite (decide (v3<d')) (.ite a' (.ite (decide (fst c'<3)) b' (.ite a' (.ite (decide (fst c'>6)) b' (.ite a' (.ite (decide (snd c'<1)) b' (.ite a' (.ite (decide (snd c'>d')) b' (L2 v0 v3 0)) .fail)) .fail)) .fail)) .fail) (.leaf (.dat i64 (0:Int)) []):=by kernel_rfl
theorem AS(v0:List (Int×Int))(v3 v4:Int):stepT D0 (L2 v0 v3 v4)=.ite (decide (v4<v3)) (.ite (decide (0≤v4)&&decide (v4<(length v0:Int))) (.ite (decide (0≤v3)&&decide (v3<(length v0:Int))) (.ite (snd (getD v0 (toNat v4) (0,0))==snd (getD v0 (toNat v3) (0,0))) (.leaf (.dat i64 (9:Int)) []) (L2 v0 v3 (zc .i64 (v4+1)))) .fail) .fail) (L1 v0 (zc .i64 (v3+1))):=by kernel_rfl
end T18
namespace T108
def T(x:Int×List UInt8):Tr:=tree D0 false 9 108 (Ah ([zF i64 zh]) x)
theorem Ay(x:Int×List UInt8):T x=let a':=[(0,.box [.dat i64 (fst x),.dat zh (snd x)])];let c':Tr:=.leaf (.dat i64 (3:Int)) a';let d':Tr:=.leaf (.dat i64 (0:Int)) a';let b':Tr:=.ite (decide (fst x<1)) c' (.ite (decide (fst x>99)) c' d');.ite (snd x==[]) b' (.ite (snd x==[(99:UInt8)]) b' (.ite (snd x==[(120:UInt8)]) (.ite (fst x !=0) c' d') (.ite (snd x==[(45:UInt8)]) (.ite (fst x !=0) c' d') (.leaf (.dat i64 (13:Int)) a')))):=by kernel_rfl
end T108
namespace T51
def T(l:List (Int×List UInt8)):Tr:=tree Yl false 9 51 (Ah ([ze (zF i64 zh)]) l)
def L1(v6:List (Int×List UInt8))(v7 v8:Int):Tr:=re ((T [])) (AB 18 [(6,.dat (ze (zF i64 zh)) v6),(7,.dat i64 v7),(8,.dat i64 v8)] [] 0)
theorem Ay(l:List (Int×List UInt8)):T l=L1 l ((length l:Int)) 0:=by kernel_rfl
theorem Ap(v6:List (Int×List UInt8))(v7 v8:Int):stepT Yl (L1 v6 v7 v8)=let a':=getD v6 (toNat v8) (0,[]);.ite (decide (v8<v7)) (.ite (decide (0≤v8)&&decide (v8<(length v6:Int))) (.ite true (.ite (HP (fst a',snd a') !=0) (.leaf (.dat i64 (HP (fst a',snd a'))) ([(0,.box [.dat i64 (fst a'),.dat zh (snd a')])])) (L1 v6 v7 (zc .i64 (v8+1)))) .fail) .fail) (.leaf (.dat i64 (0:Int)) []):=by kernel_rfl
end T51
namespace T52
def T(l:List (Int×List UInt8)):Tr:=tree Yl false 9 52 (Ah ([ze (zF i64 zh)]) l)
def L1(v0:List (Int×List UInt8))(v3:Int):Tr:=re ((T [])) (AB 19 [(0,.dat (ze (zF i64 zh)) v0),(3,.dat i64 v3)] [] 0)
theorem Ay(l:List (Int×List UInt8)):T l=L1 l 0:=by kernel_rfl
theorem Ap(v0:List (Int×List UInt8))(v3:Int):stepT Yl (L1 v0 v3)=let a':=getD v0 (toNat v3) (0,[]);let b':=decide (v3<(length v0:Int));.ite (b') (.ite (decide (0≤v3)&&b') (.ite true (.ite (HP (fst a',snd a') !=0) (.leaf (.dat i64 (HP (fst a',snd a'))) []) (L1 v0 (zc .i64 (v3+1)))) .fail) .fail) (.leaf (.dat i64 (0:Int)) []):=by kernel_rfl
end T52
end
noncomputable section
open List Int Prod
namespace T44
def T(s:List UInt8):Tr:=tree Nx false 9 44 (Ah ([zh]) s)
def L1(v0:List UInt8)(v3:Int):Tr:=re ((T [])) (AB 17 [(0,.dat zh v0),(3,.dat i64 v3)] [] 0)
theorem Ay(s:List UInt8):T s=L1 s 0:=by kernel_rfl
theorem Ap(v0:List UInt8)(v3:Int):stepT Nx (L1 v0 v3)=let a':=(length v0:Int);.ite (decide (v3<a')) (.ite (decide (0≤v3)&&decide (v3<a')) (.ite ((↑(zl (getD v0 (toNat v3) (0:UInt8))):Int)==47) (.leaf (.dat i64 v3) []) (L1 v0 (zc .i64 (v3+1)))) .fail) (.leaf (.dat i64 a') []):=by kernel_rfl
end T44
namespace T45
def T(s:List UInt8):Tr:=tree Nx false 9 45 (Ah ([zh]) s)
def L1(s v0:List UInt8)(v3:Int):Tr:=re ((T s).R.L.L.R) (AB 20 [(0,.dat zh v0),(3,.dat i64 v3)] [] 0)
def L2(s v0:List UInt8)(v3:Int):Tr:=re ((T s).R.R) (AB 20 [(0,.dat zh v0),(3,.dat i64 v3)] [] 0)
theorem Ay(s:List UInt8):T s=let a':=(length s:Int);.ite (a'==0) (.leaf (.bl false) []) (.ite (decide (a'>1)) (.ite (decide (0<a')) (.ite ((↑(zl (getD s 0 (0:UInt8))):Int)==48) (.leaf (.bl false) []) (L1 s s 0)) .fail) (L2 s s 0)):=by kernel_rfl
theorem Ap(s v0:List UInt8)(v3:Int):stepT Nx (L1 s v0 v3)=let a':=decide (v3<(length v0:Int));let b':=(↑(zl (getD v0 (toNat v3) (0:UInt8))):Int);.ite (a') (.ite (decide (0≤v3)&&a') (.ite (decide (b'<48)) (.leaf (.bl false) []) (.ite (decide (0≤v3)&&a') (.ite (decide (b'>57)) (.leaf (.bl false) []) (L1 s v0 (zc .i64 (v3+1)))) .fail)) .fail) (.leaf (.bl true) []):=by kernel_rfl
theorem AS(s v0:List UInt8)(v3:Int):stepT Nx (L2 s v0 v3)=let a':=decide (v3<(length v0:Int));let b':=(↑(zl (getD v0 (toNat v3) (0:UInt8))):Int);.ite (a') (.ite (decide (0≤v3)&&a') (.ite (decide (b'<48)) (.leaf (.bl false) []) (.ite (decide (0≤v3)&&a') (.ite (decide (b'>57)) (.leaf (.bl false) []) (L2 s v0 (zc .i64 (v3+1)))) .fail)) .fail) (.leaf (.bl true) []):=by kernel_rfl
end T45
namespace T101
def T(n:Int):Tr:=tree XC false 9 101 (Ah ([zj zO]) n)
def L1(v0:Int)(v4:Bool):Tr:=re ((T 0)) (AB 25 [(0,.dat i64 v0),(2,.ptr 0 0),(3,.nil),(4,.dat zg v4)] [(0,.box [.bl false,.nil])] 1)
theorem Ay(n:Int):T n=L1 n (decide (n<0)):=by kernel_rfl
def L2(v0:Int)(v3n:Nat)(v4:Bool)(o1:List Int):Tr:=re ((stepT XC (L1 0 false)).L.L.L.L.L) (AB 25 [(0,.dat i64 v0),(2,.ptr 0 0),(3,.sl 1 1 0 v3n none),(4,.dat zg v4)] [(1,.arr false 3 i64 o1),(0,.box [.bl false,.nil])] 2)
theorem Ap(v0:Int)(v4:Bool):stepT XC (L1 v0 v4)=let a':=decide (1≤1)&&decide (0<1)&&decide ((2*1+1000)*8≤281474976710656);let b':=zc .i64 (zP v0 1000000000);.ite (v0 !=0) (.ite true (.ite (decide (zE v0 1000000000<0)) (.ite a' (.ite true (L2 b' 1 v4 ([zc .i64 (0-zE v0 1000000000)])) .fail) .fail) (.ite a' (.ite true (L2 b' 1 v4 ([zE v0 1000000000])) .fail) .fail)) .fail) (.ite (decide (0≤20000)) (.leaf (zy [.dat zg (Sp.DY v4 []),.dat (ze i64) (Sp.Ax [])]) ([(0,.box [.dat zg (Sp.DY v4 []),.dat (ze i64) (Sp.Ax [])])])) .fail):=by kernel_rfl
theorem AS(v0:Int)(v3n:Nat)(v4:Bool)(o1:List Int):stepT XC (L2 v0 v3n v4 o1)=let a':=decide (1≤1)&&true&&decide (v3n=length o1)&&decide ((2*(v3n+1)+1000)*8≤281474976710656);let b':=zc .i64 (zP v0 1000000000);let c':=Sp.DY v4 (take v3n o1);let d':=Sp.Ax (take v3n o1);.ite (v0 !=0) (.ite true (.ite (decide (zE v0 1000000000<0)) (.ite a' (.ite true (L2 b' (zk v3n 1) v4 (o1++[zc .i64 (0-zE v0 1000000000)])) .fail) .fail) (.ite a' (.ite true (L2 b' (zk v3n 1) v4 (o1++[zE v0 1000000000])) .fail) .fail)) .fail) (.ite (decide (0+v3n≤length o1)&&true&&decide (length (take v3n o1)≤20000)) (.leaf (zy [.dat zg c',.dat (ze i64) d']) ([(1,.arr true 3 i64 o1),(0,.box [.dat zg c',.dat (ze i64) d'])])) .fail):=by kernel_rfl
end T101
end
end Go.Pe
end
section
namespace Go.Pe
open Sp
open Go.Det
noncomputable section
open List Int Prod
namespace T46
def T(a:List UInt8):Tr:=tree eP false 9 46 (Ah ([zh]) a)
theorem Ay(a:List UInt8):T a=let b':=take (toNat (B5 a)) a;let c':=zc .i64 (B5 a+1);let a':=take (zx (length a) (toNat c')) (drop (toNat c') a);.ite (decide (length a≤1000000)) (.ite (B5 a==(length a:Int)) (.ite (Fg a) (.ite true (.leaf (.tup [zy [.dat zg (DK a),.dat (ze i64) (DM a)],zy [.dat zg false,.dat (ze i64) (Sp.rW 1)]]) ([(zk 0 1,.box [.dat zg false,.dat (ze i64) (Sp.rW 1)]),(0,.box [.dat zg (DK a),.dat (ze i64) (DM a)])])) .fail) .fail) (.ite (decide (0≤B5 a)&&decide (0≤toNat (B5 a))&&decide (toNat (B5 a)≤length a)) (.ite (decide (0≤zc .i64 (B5 a+1))&&true&&decide (toNat c'≤length a)&&decide (length a≤length a)) (.ite (Fg b') (.ite (Fg a') (.leaf (.tup [zy [.dat zg (DK b'),.dat (ze i64) (DM b')],zy [.dat zg (DK a'),.dat (ze i64) (DM a')]]) ([(zk 0 1,.box [.dat zg (DK a'),.dat (ze i64) (DM a')]),(0,.box [.dat zg (DK b'),.dat (ze i64) (DM b')])])) .fail) .fail) .fail) .fail)) .fail:=by kernel_rfl
end T46
end
end Go.Pe
end
section
namespace Go.Pe
open Sp
open Go.Det
noncomputable section
open List Int Prod
namespace T11
def T(a:List UInt8):Tr:=tree Pc false 9 11 (Ah ([zh]) a)
def L1(v0 v3:List UInt8):Tr:=re ((T []).L.L.L.L) (AB 96 [(0,.dat zh v0),(3,.dat zh v3)] [] 0)
theorem Ay(a:List UInt8):T a=.ite (decide ((length a:Int)>0)) (.ite (decide (0<(length a:Int))) (.ite ((↑(zl (getD a 0 (0:UInt8))):Int)==45) (.ite (decide (1≤length a)&&decide (length a≤length a)) (L1 a (take (zx (length a) 1) (drop 1 a))) .fail) (L1 a a)) .fail) (L1 a a):=by kernel_rfl
def L2(v3:List UInt8)(v4:Int):Tr:=re ((stepT Pc (L1 [] [])).L.L.L.R.L.L.L.R) (AB 96 [(3,.dat zh v3),(4,.dat i64 v4)] [] 0)
theorem Ap(v0 v3:List UInt8):stepT Pc (L1 v0 v3)=let b':=B5 v3;let c':Tr:=.leaf (.dat i64 (1:Int)) [];let a':=decide (0≤B5 v3)&&decide (0≤toNat b')&&decide (toNat b'≤length v3);.ite (decide (length v3≤1000000)) (.ite a' (.ite (decide (length (take (toNat b') v3)≤1000000)) (.ite (!AT (take (toNat b') v3)) c' (.ite (decide (0<(length v0:Int))) (.ite ((↑(zl (getD v0 0 (0:UInt8))):Int)==45) (.ite a' (.ite (take (toNat b') v3==[(48:UInt8)]) c' (L2 v3 b')) .fail) (L2 v3 b')) .fail)) .fail) .fail) .fail:=by kernel_rfl
def L3(v3:List UInt8)(v4:Int):Tr:=re ((stepT Pc (L2 [] 0)).L.L.L.R.L.R.L.R) (AB 96 [(3,.dat zh v3),(4,.dat i64 v4)] [] 0)
theorem AS(v3:List UInt8)(v4:Int):stepT Pc (L2 v3 v4)=let d':Tr:=.leaf (.dat i64 (1:Int)) [];let e':=zc .i64 (v4+1);let a':=decide (0≤zc .i64 (v4+1))&&true&&decide (toNat e'≤length v3)&&decide (length v3≤length v3);let b':=toNat e';let c':=zx (length v3) b';.ite (decide (v4<(length v3:Int))) (.ite a' (.ite (decide (length (take c' (drop b' v3))≤1000000)) (.ite (!AT (take c' (drop b' v3))) d' (.ite a' (.ite (take c' (drop b' v3)==[(48:UInt8)]) d' (.ite a' (.ite (take c' (drop b' v3)==[(49:UInt8)]) d' (L3 v3 v4)) .fail)) .fail)) .fail) .fail) (L3 v3 v4):=by kernel_rfl
def L4(v3:List UInt8)(v4:Int):Tr:=re ((stepT Pc (L3 [] 0)).R.R) (AB 96 [(3,.dat zh v3),(4,.dat i64 v4)] [] 0)
theorem BD(v3:List UInt8)(v4:Int):stepT Pc (L3 v3 v4)=let a':Tr:=.leaf (.dat i64 (4:Int)) [];.ite (decide (v4>600)) a' (.ite (decide (zc .i64 (zc .i64 ((length v3:Int)-v4)-1)>600)) a' (L4 v3 v4)):=by kernel_rfl
def L5(o1:Bool)(o1_1:List Int)(o0:Bool)(o0_1:List Int):Tr:=re ((stepT Pc (L4 [] 0)).L.L) (AB 96 [(5,.ptr 0 0),(6,.ptr 1 0)] [(1,.box [.dat zg o1,.dat (ze i64) o1_1]),(0,.box [.dat zg o0,.dat (ze i64) o0_1])] 2)
theorem CG(v3:List UInt8)(v4:Int):stepT Pc (L4 v3 v4)=.ite (decide (v4<(length v3:Int))) (.ite (Xs v3) (L5 (Jy v3) (Gx v3) (JA v3) (Gv v3)) .fail) (.leaf (.dat i64 (0:Int)) []):=by kernel_rfl
def L6(v7:List Int):Tr:=re ((stepT Pc (L5 false [] false [])).L) (AB 96 [(7,.dat (ze i64) v7)] [] 0)
theorem Dk(o1:Bool)(o1_1:List Int)(o0:Bool)(o0_1:List Int):stepT Pc (L5 o1 o1_1 o0 o0_1)=.ite (B3 o0_1&&B3 o1_1&&decide (length o0_1≤9000)&&decide (length o1_1≤9000)) (L6 (KR o0_1 o1_1)) .fail:=by kernel_rfl
theorem HC(v7:List Int):stepT Pc (L6 v7)=let a':Tr:=.leaf (.dat i64 (1:Int)) [];.ite ((length v7:Int) !=1) a' (.ite (decide (0<(length v7:Int))) (.ite (getD v7 0 0 !=1) a' (.leaf (.dat i64 (0:Int)) [])) .fail):=by kernel_rfl
end T11
end
end Go.Pe
end
section
namespace Go.Pe
open Sp
open Go.Det
noncomputable section
open List Int Prod
namespace T38
def T(l:List Int):Tr:=tree Nx false 9 38 (Ah ([ze i64]) l)
def L1(v5:List Int)(v6 v7:Int):Tr:=re ((T [])) (AB 15 [(5,.dat (ze i64) v5),(6,.dat i64 v6),(7,.dat i64 v7)] [] 0)
theorem Ay(l:List Int):T l=L1 l ((length l:Int)) 0:=by kernel_rfl
theorem Ap(v5:List Int)(v6 v7:Int):stepT Nx (L1 v5 v6 v7)=.ite (decide (v7<v6)) (.ite (decide (0≤v7)&&decide (v7<(length v5:Int))) (.ite (getD v5 (toNat v7) 0 !=0) (.leaf (.dat i64 (getD v5 (toNat v7) 0)) []) (L1 v5 v6 (zc .i64 (v7+1)))) .fail) (.leaf (.dat i64 (0:Int)) []):=by kernel_rfl
end T38
namespace T39
def T(b:Bool)(e:Int):Tr:=tree Nx false 9 39 (Ah ([zg,zj zO]) (b,e))
theorem Ay(b:Bool)(e:Int):T b e=.ite b (.leaf (.dat i64 e) []) (.leaf (.dat i64 (0:Int)) []):=by kernel_rfl
end T39
namespace T10
def T(a:List UInt8):Tr:=tree Jg false 9 10 (Ah ([zh]) a)
def L1(v5 v6:List UInt8)(v7:Bool):Tr:=re ((T []).L.L.L.L.L) (AB 76 [(5,.dat zh v5),(6,.dat zh v6),(7,.dat zg v7),(8,.bl true)] [] 0)
def L2(v5 v6:List UInt8)(v7 v8:Bool):Tr:=re ((T []).L.L.L.L.R) (AB 76 [(5,.dat zh v5),(6,.dat zh v6),(7,.dat zg v7),(8,.dat zg v8)] [] 0)
def L3(v5 v6:List UInt8)(v7:Bool):Tr:=re ((T []).L.L.L.R) (AB 76 [(5,.dat zh v5),(6,.dat zh v6),(7,.dat zg v7),(8,.bl false)] [] 0)
theorem Ay(a:List UInt8):T a=let a':=AU (B8 a);let b':=Sp.A8 (B8 a);let c':=Cb (B8 a);.ite (Wb a [(45:UInt8)]) (.ite (cR (B8 a) [(47:UInt8)]) (.ite (decide (length a'≤1000000)) (.ite (AT a') (.ite (!Sp.preB a) (L1 a' b' c') (L2 a' b' c' (!AU (B8 a)==[(48:UInt8)]))) (L3 a' b' c')) .fail) .fail) .fail:=by kernel_rfl
def L4(v5 v6:List UInt8)(v7 v8:Bool):Tr:=re ((stepT Jg (L1 [] [] false)).L.L.L.L) (AB 76 [(5,.dat zh v5),(6,.dat zh v6),(7,.dat zg v7),(8,.dat zg v8)] [] 0)
def L5(v5 v6:List UInt8)(v7:Bool):Tr:=re ((stepT Jg (L1 [] [] false)).L.L.L.R) (AB 76 [(5,.dat zh v5),(6,.dat zh v6),(7,.dat zg v7),(8,.bl false)] [] 0)
def L6(v5 v6:List UInt8)(v7:Bool):Tr:=re ((stepT Jg (L1 [] [] false)).R) (AB 76 [(5,.dat zh v5),(6,.dat zh v6),(7,.dat zg v7),(8,.bl true)] [] 0)
theorem Ap(v5 v6:List UInt8)(v7:Bool):stepT Jg (L1 v5 v6 v7)=.ite v7 (.ite (decide (length v6≤1000000)) (.ite (AT v6) (.ite (!v6==[(48:UInt8)]) (L4 v5 v6 v7 (!v6==[(49:UInt8)])) (L5 v5 v6 v7)) (L5 v5 v6 v7)) .fail) (L6 v5 v6 v7):=by kernel_rfl
theorem AS(v5 v6:List UInt8)(v7 v8:Bool):stepT Jg (L2 v5 v6 v7 v8)=.ite v7 (.ite v8 (.ite (decide (length v6≤1000000)) (.ite (AT v6) (.ite (!v6==[(48:UInt8)]) (L4 v5 v6 v7 (!v6==[(49:UInt8)])) (L5 v5 v6 v7)) (L5 v5 v6 v7)) .fail) (L5 v5 v6 v7)) (L4 v5 v6 v7 v8):=by kernel_rfl
theorem BD(v5 v6:List UInt8)(v7:Bool):stepT Jg (L3 v5 v6 v7)=.ite v7 (L5 v5 v6 v7) (L5 v5 v6 v7):=by kernel_rfl
def L7(v5 v6:List UInt8)(v7:Bool)(v9:Int):Tr:=re ((stepT Jg (L4 [] [] false false)).L.L.L.L) (AB 76 [(5,.dat zh v5),(6,.dat zh v6),(7,.dat zg v7),(9,.dat i64 v9)] [] 0)
theorem CG(v5 v6:List UInt8)(v7 v8:Bool):stepT Jg (L4 v5 v6 v7 v8)=let a':=decide (2≤2)&&true&&decide (2≤1000000);.ite true (.ite (decide ((length v5:Int)>600)) (.ite true (.ite a' (L7 v5 v6 v7 (zH [BS (!v8) 1,BS true 4])) .fail) .fail) (.ite true (.ite a' (L7 v5 v6 v7 (zH [BS (!v8) 1,BS (decide ((length v6:Int)>600)) 4])) .fail) .fail)) .fail:=by kernel_rfl
theorem Dk(v5 v6:List UInt8)(v7:Bool):stepT Jg (L5 v5 v6 v7)=.ite true (.ite (decide ((length v5:Int)>600)) (.ite true (.ite true (L7 v5 v6 v7 (zH [BS true 1,BS true 4])) .fail) .fail) (.ite true (.ite (decide (2≤2)&&true&&decide (2≤1000000)) (L7 v5 v6 v7 (zH [BS true 1,BS (decide ((length v6:Int)>600)) 4])) .fail) .fail)) .fail:=by kernel_rfl
theorem HC(v5 v6:List UInt8)(v7:Bool):stepT Jg (L6 v5 v6 v7)=.ite true (.ite (decide ((length v5:Int)>600)) (.ite true (.ite true (L7 v5 v6 v7 (zH [BS false 1,BS true 4])) .fail) .fail) (.ite true (.ite (decide (2≤2)&&true&&decide (2≤1000000)) (L7 v5 v6 v7 (zH [BS false 1,BS (decide ((length v6:Int)>600)) 4])) .fail) .fail)) .fail:=by kernel_rfl
def L8(v5 v6:List UInt8)(v7:Bool):Tr:=re ((stepT Jg (L7 [] [] false 0)).R) (AB 76 [(5,.dat zh v5),(6,.dat zh v6),(7,.dat zg v7)] [] 0)
theorem Dj(v5 v6:List UInt8)(v7:Bool)(v9:Int):stepT Jg (L7 v5 v6 v7 v9)=.ite (v9 !=0) (.leaf (.dat i64 v9) []) (L8 v5 v6 v7):=by kernel_rfl
def L9(v10:Bool):Tr:=re ((stepT Jg (L8 [] [] false)).L.L.L.L.L.L) (AB 76 [(10,.dat zg v10)] [] 0)
def Za:Tr:=re ((stepT Jg (L8 [] [] false)).R) (AB 76 [(10,.bl false)] [] 0)
theorem J6(v5 v6:List UInt8)(v7:Bool):stepT Jg (L8 v5 v6 v7)=let a':=(QA (Eh v5,D7 v5) (Eh v6,D7 v6),Px (Eh v5,D7 v5) (Eh v6,D7 v6));.ite v7 (.ite (Fg v5) (.ite (Fg v6) (.ite (BF (Eh v5,D7 v5)&&BF (Eh v6,D7 v6)) (.ite true (.ite (BF a'&&BF (1,EG 1)) (L9 (V9 a' (1,EG 1) !=0)) .fail) .fail) .fail) .fail) .fail) Za:=by kernel_rfl
theorem cS(v10:Bool):stepT Jg (L9 v10)=.ite true (.leaf (.dat i64 (BS v10 1)) []) .fail:=by kernel_rfl
theorem OB:stepT Jg Za=.ite true (.leaf (.dat i64 (BS false 1)) []) .fail:=by kernel_rfl
end T10
end
end Go.Pe
end
section
namespace Go.Pe
open Sp
open Go.Det
noncomputable section
open List Int Prod
namespace T41
def T(s:List UInt8):Tr:=tree ML false 9 41 (Ah ([zh]) s)
def L1(v0:List UInt8)(v3:Bool)(o1 o0:Int):Tr:=re ((T []).L.L.L.L.L.L) (AB 41 [(0,.dat zh v0),(2,.ptr 0 0),(3,.dat zg v3),(4,.ptr 1 0)] [(1,.box [.dat i64 o1,.nil]),(0,.box [.dat i64 o0,.nil])] 2)
def L2(v0:List UInt8)(o1 o0:Int):Tr:=re ((T []).R.L.L.L.L) (AB 41 [(0,.dat zh v0),(2,.ptr 0 0),(3,.bl false),(4,.ptr 1 0)] [(1,.box [.dat i64 o1,.nil]),(0,.box [.dat i64 o0,.nil])] 2)
theorem Ay(s:List UInt8):T s=let a':=take 1 s==[(45:UInt8)];let b':=decide ((length s:Int)≥1);let c':=decide (1≤length s)&&decide (length s≤length s);let d':=decide (1≤length s);let e':=take (zx (length s) 1) (drop 1 s);.ite b' (.ite d' (.ite b' (.ite d' (.ite a' (.ite c' (L1 e' a' 0 0) .fail) (L1 s a' 0 0)) .fail) (L1 s a' 0 0)) .fail) (.ite b' (.ite d' (.ite a' (.ite c' (L2 e' 0 0) .fail) (L2 s 0 0)) .fail) (L2 s 0 0)):=by kernel_rfl
def L3(v0:List UInt8)(v3:Bool)(o1 o0:Int)(v5:List UInt8)(v6:Int)(v47n:Nat)(v48 v49:Int)(o2:List Int)(o1':Int)(o0':Int):Tr:=re ((stepT ML (L1 v0 v3 o1 o0)).L.L.L.L.L.L.L.R) (AB 77 [(5,.dat zh v5),(6,.dat i64 v6),(47,.sl 2 1 0 v47n none),(48,.dat i64 v48),(49,.dat i64 v49)] [(2,.arr false 5 (zj zL) o2),(1,.box [.dat i64 o1',.nil]),(0,.box [.dat i64 o0',.nil])] 3)
theorem Ap(v0:List UInt8)(v3:Bool)(o1 o0:Int):stepT ML (L1 v0 v3 o1 o0)=let d':=(length v0:Int);let g':=zu (zj zd);let a':=take (toNat (Dr 18 d')) v0;let b':=take (zx (length a') 1) (drop 1 a');let c':=(↑(length a'):Int);let e':=decide (1≤length a')&&decide (length a'≤length a');let f':=(↑(zl (getD a' 0 (0:UInt8))):Int);let h':=decide (0<c');.ite (decide (d'>0)) (.ite (decide (0≤Dr 18 d')&&decide (0≤toNat (Dr 18 d'))&&decide (toNat (Dr 18 d')≤length v0)) (.ite h' (.ite (decide (c'<19)) (.ite h' (.ite (f'==45) (.ite e' (.ite (decide ((↑(length b'):Int)<1)) .fail (L3 v0 v3 o1 o0 a' 0 (length b') ((↑(length b'):Int)) 0 (zQ (fun b=>(↑(zl b):Int)) b') o1 o0)) .fail) (.ite h' (.ite (f'==43) (.ite e' (.ite (decide ((↑(length b'):Int)<1)) .fail (L3 v0 v3 o1 o0 a' 0 (length b') ((↑(length b'):Int)) 0 (zQ (fun b=>(↑(zl b):Int)) b') o1 o0)) .fail) (L3 v0 v3 o1 o0 a' 0 (length a') (c') 0 (zQ (fun b=>(↑(zl b):Int)) a') o1 o0)) .fail)) .fail) (.ite false .fail .fail)) (.ite false .fail .fail)) .fail) (.ite v3 (.ite (EB (o1,[])) (.leaf (zy [.dat i64 (GM (o1,[])),.dat g' (Gq (o1,[]))]) ([(1,.box [.dat i64 o1,.nil]),(0,.box [.dat i64 (GM (o1,[])),.dat g' (Gq (o1,[]))])])) .fail) (.leaf (zy [.dat i64 o1,.nil]) ([(1,.box [.dat i64 o1,.nil]),(0,.box [.dat i64 o1,.nil])]))):=by kernel_rfl
def L4(v0:List UInt8)(o1 o0:Int)(v5:List UInt8)(v6:Int)(v47n:Nat)(v48 v49:Int)(o2:List Int)(o1':Int)(o0':Int):Tr:=re ((stepT ML (L2 v0 o1 o0)).L.L.L.L.L.L.L.R) (AB 77 [(5,.dat zh v5),(6,.dat i64 v6),(47,.sl 2 1 0 v47n none),(48,.dat i64 v48),(49,.dat i64 v49)] [(2,.arr false 5 (zj zL) o2),(1,.box [.dat i64 o1',.nil]),(0,.box [.dat i64 o0',.nil])] 3)
theorem AS(v0:List UInt8)(o1 o0:Int):stepT ML (L2 v0 o1 o0)=let d':=(length v0:Int);let a':=take (toNat (Dr 18 d')) v0;let b':=take (zx (length a') 1) (drop 1 a');let c':=(↑(length a'):Int);let e':=decide (1≤length a')&&decide (length a'≤length a');let f':=(↑(zl (getD a' 0 (0:UInt8))):Int);let g':=decide (0<c');.ite (decide (d'>0)) (.ite (decide (0≤Dr 18 d')&&decide (0≤toNat (Dr 18 d'))&&decide (toNat (Dr 18 d')≤length v0)) (.ite g' (.ite (decide (c'<19)) (.ite g' (.ite (f'==45) (.ite e' (.ite (decide ((↑(length b'):Int)<1)) .fail (L4 v0 o1 o0 a' 0 (length b') ((↑(length b'):Int)) 0 (zQ (fun b=>(↑(zl b):Int)) b') o1 o0)) .fail) (.ite g' (.ite (f'==43) (.ite e' (.ite (decide ((↑(length b'):Int)<1)) .fail (L4 v0 o1 o0 a' 0 (length b') ((↑(length b'):Int)) 0 (zQ (fun b=>(↑(zl b):Int)) b') o1 o0)) .fail) (L4 v0 o1 o0 a' 0 (length a') (c') 0 (zQ (fun b=>(↑(zl b):Int)) a') o1 o0)) .fail)) .fail) (.ite false .fail .fail)) (.ite false .fail .fail)) .fail) (.leaf (zy [.dat i64 o1,.nil]) ([(1,.box [.dat i64 o1,.nil]),(0,.box [.dat i64 o1,.nil])])):=by kernel_rfl
def L5(v0:List UInt8)(v3:Bool)(o1:Int)(o1_1:List Int)(o0:Int):Tr:=re ((stepT ML (L3 [] false 0 0 [] 0 0 0 0 [] 0 0)).R.L.L.L.L.L.L.L.L) (AB 41 [(0,.dat zh v0),(2,.ptr 0 0),(3,.dat zg v3),(4,.ptr 1 0)] [(1,.box [.dat i64 o1,.dat (zu (zj zd)) o1_1]),(0,.box [.dat i64 o0,.nil])] 2)
theorem BD(v0:List UInt8)(v3:Bool)(o1 o0:Int)(v5:List UInt8)(v6:Int)(v47n:Nat)(v48 v49:Int)(o2:List Int)(o1':Int)(o0':Int):stepT ML (L3 v0 v3 o1 o0 v5 v6 v47n v48 v49 o2 o1' o0')=let b':=Dr 18 (length v0:Int);let d':=(zc .i64 (0-v6),EG (zc .i64 (0-v6)));let i':=getD o2 (toNat v49) 0-48;let a':=(Qb (10,EG 10) b',Qc (10,EG 10) b');let e':=decide (0≤Dr 18 (length v0:Int))&&true&&decide (toNat b'≤length v0)&&decide (length v0≤length v0);let f':=take (zx (length v0) (toNat b')) (drop (toNat b') v0);let g':=BF (10,EG 10)&&WL (Sp.vI (10,EG 10)) b';let c':=(HE (o1',[]) a',HJ (o1',[]) a');let h':=BF (o1',[])&&BF a';.ite (decide (v49<v48)) (.ite (decide (0≤v49)&&decide (v49<(↑v47n:Int))) (.ite (decide (toNat v49<length o2)) (.ite (decide (zc .u8 i'>9)) .fail (L3 v0 v3 o1 o0 v5 (zc .i64 (zc .i64 (v6*10)+zc .i64 (zc .u8 i'))) v47n v48 (zc .i64 (v49+1)) o2 o1' o0')) .fail) .fail) (.ite (decide (0<(length v5:Int))) (.ite ((↑(zl (getD v5 0 (0:UInt8))):Int)==45) (.ite true (.ite g' (.ite h' (.ite true (.ite (BF c'&&BF d') (.ite e' (L5 f' v3 (JS c' d') (J4 c' d') o0') .fail) .fail) .fail) .fail) .fail) .fail) (.ite true (.ite g' (.ite h' (.ite true (.ite (BF c'&&BF (v6,EG v6)) (.ite e' (L5 f' v3 (JS c' (v6,EG v6)) (J4 c' (v6,EG v6)) o0') .fail) .fail) .fail) .fail) .fail) .fail)) .fail):=by kernel_rfl
def L7(v0:List UInt8)(v3:Bool)(o1:Int)(o1_1:List Int)(o0:Int)(v5:List UInt8)(v6:Int)(v47n:Nat)(v48 v49:Int)(o2:List Int)(o1':Int)(o1_1':List Int)(o0':Int):Tr:=re ((stepT ML (L5 v0 v3 o1 o1_1 o0)).L.L.L.L.L.L.L.R) (AB 77 [(5,.dat zh v5),(6,.dat i64 v6),(47,.sl 2 1 0 v47n none),(48,.dat i64 v48),(49,.dat i64 v49)] [(2,.arr false 5 (zj zL) o2),(1,.box [.dat i64 o1',.dat (zu (zj zd)) o1_1']),(0,.box [.dat i64 o0',.nil])] 3)
theorem Dk(v0:List UInt8)(v3:Bool)(o1:Int)(o1_1:List Int)(o0:Int):stepT ML (L5 v0 v3 o1 o1_1 o0)=let c':=zu (zj zd);let e':=(length v0:Int);let a':=take (toNat (Dr 18 e')) v0;let b':=take (zx (length a') 1) (drop 1 a');let d':=(↑(length a'):Int);let f':=decide (1≤length a')&&decide (length a'≤length a');let g':=(↑(zl (getD a' 0 (0:UInt8))):Int);let h':=decide (0<d');.ite (decide (e'>0)) (.ite (decide (0≤Dr 18 e')&&decide (0≤toNat (Dr 18 e'))&&decide (toNat (Dr 18 e')≤length v0)) (.ite h' (.ite (decide (d'<19)) (.ite h' (.ite (g'==45) (.ite f' (.ite (decide ((↑(length b'):Int)<1)) .fail (L7 v0 v3 o1 o1_1 o0 a' 0 (length b') ((↑(length b'):Int)) 0 (zQ (fun b=>(↑(zl b):Int)) b') o1 o1_1 o0)) .fail) (.ite h' (.ite (g'==43) (.ite f' (.ite (decide ((↑(length b'):Int)<1)) .fail (L7 v0 v3 o1 o1_1 o0 a' 0 (length b') ((↑(length b'):Int)) 0 (zQ (fun b=>(↑(zl b):Int)) b') o1 o1_1 o0)) .fail) (L7 v0 v3 o1 o1_1 o0 a' 0 (length a') (d') 0 (zQ (fun b=>(↑(zl b):Int)) a') o1 o1_1 o0)) .fail)) .fail) (.ite false .fail .fail)) (.ite false .fail .fail)) .fail) (.ite v3 (.ite (EB (o1,o1_1)) (.leaf (zy [.dat i64 (GM (o1,o1_1)),.dat c' (Gq (o1,o1_1))]) ([(1,.box [.dat i64 o1,.dat c' o1_1]),(0,.box [.dat i64 (GM (o1,o1_1)),.dat c' (Gq (o1,o1_1))])])) .fail) (.leaf (zy [.dat i64 o1,.dat c' o1_1]) ([(1,.box [.dat i64 o1,.dat c' o1_1]),(0,.box [.dat i64 o1,.dat c' o1_1])]))):=by kernel_rfl
theorem Dj(v0:List UInt8)(v3:Bool)(o1:Int)(o1_1:List Int)(o0:Int)(v5:List UInt8)(v6:Int)(v47n:Nat)(v48 v49:Int)(o2:List Int)(o1':Int)(o1_1':List Int)(o0':Int):stepT ML (L7 v0 v3 o1 o1_1 o0 v5 v6 v47n v48 v49 o2 o1' o1_1' o0')=let c':=Dr 18 (length v0:Int);let d':=(zc .i64 (0-v6),EG (zc .i64 (0-v6)));let i':=getD o2 (toNat v49) 0-48;let a':=(Qb (10,EG 10) c',Qc (10,EG 10) c');let e':=decide (0≤Dr 18 (length v0:Int))&&true&&decide (toNat c'≤length v0)&&decide (length v0≤length v0);let f':=take (zx (length v0) (toNat c')) (drop (toNat c') v0);let g':=BF (10,EG 10)&&WL (Sp.vI (10,EG 10)) c';let b':=(HE (o1',o1_1') a',HJ (o1',o1_1') a');let h':=BF (o1',o1_1')&&BF a';.ite (decide (v49<v48)) (.ite (decide (0≤v49)&&decide (v49<(↑v47n:Int))) (.ite (decide (toNat v49<length o2)) (.ite (decide (zc .u8 i'>9)) .fail (L7 v0 v3 o1 o1_1 o0 v5 (zc .i64 (zc .i64 (v6*10)+zc .i64 (zc .u8 i'))) v47n v48 (zc .i64 (v49+1)) o2 o1' o1_1' o0')) .fail) .fail) (.ite (decide (0<(length v5:Int))) (.ite ((↑(zl (getD v5 0 (0:UInt8))):Int)==45) (.ite true (.ite g' (.ite h' (.ite true (.ite (BF b'&&BF d') (.ite e' (L5 f' v3 (JS b' d') (J4 b' d') o0') .fail) .fail) .fail) .fail) .fail) .fail) (.ite true (.ite g' (.ite h' (.ite true (.ite (BF b'&&BF (v6,EG v6)) (.ite e' (L5 f' v3 (JS b' (v6,EG v6)) (J4 b' (v6,EG v6)) o0') .fail) .fail) .fail) .fail) .fail) .fail)) .fail):=by kernel_rfl
end T41
end
noncomputable section
open List Int Prod
namespace T87
def T(s t:List UInt8):Tr:=tree R5 false 9 87 (Ah ([zh,zh]) (s,t))
def L1(s t v0:List UInt8)(v4:Int)(o0:List Bool):Tr:=re ((T s t).R.R.L.L.R) (AB 21 [(0,.dat zh v0),(2,.ptr 0 0),(4,.dat i64 v4)] [(0,.arr false 196 zg o0)] 1)
def L2(s t v0:List UInt8)(v4:Int)(o0:List Bool):Tr:=re ((T s t).R.R.R) (AB 21 [(0,.dat zh v0),(2,.ptr 0 0),(4,.dat i64 v4)] [(0,.arr false 196 zg o0)] 1)
theorem Ay(s t:List UInt8):T s t=let a':=decide (0<(length t:Int));let b':Tr:=.leaf (.dat zh s) [];.ite (s==[]) b' (.ite (t==[]) b' (.ite ((length t:Int)==1) (.ite a' (.ite (decide ((↑(zl (getD t 0 (0:UInt8))):Int)<128)) (.ite a' (.ite a' (.ite false (.ite false b' .fail) .fail) .fail) .fail) (L1 s t t 0 Sp.Zk)) .fail) (L2 s t t 0 Sp.Zk))):=by kernel_rfl
def L4(s t v0:List UInt8)(v4:Int)(o0:List Bool)(v0':List UInt8)(o1:List Bool)(o0':List Bool):Tr:=re ((stepT R5 (L2 s t v0 v4 o0)).R.L.L.L.L) (AB 22 [(0,.dat zh v0'),(1,.ptr 1 0)] [(1,.arr false 196 zg o1),(0,.arr false 196 zg o0')] 2)
theorem AS(s t v0:List UInt8)(v4:Int)(o0:List Bool):stepT R5 (L2 s t v0 v4 o0)=let a':=(↑(zl (getD v0 (toNat v4) (0:UInt8))):Int);let b':=decide (length o0=256);let c':=decide (v4<(length v0:Int));.ite (c') (.ite (decide (0≤v4)&&c') (.ite (decide (a'≥128)) (.ite b' (.ite b' (.ite (decide (256=256)) (.ite true (.ite false (.ite false (.leaf (.dat zh s) ([(1,.arr false 196 zg (Sp.SJ o0)),(0,.arr false 196 zg (Sp.SJ o0))])) .fail) .fail) .fail) .fail) .fail) .fail) (.ite (decide ((0:ya (zj zL))≤a')&&decide (a'<(↑256:Int))) (.ite (decide (toNat a'<length o0)) (L2 s t v0 (zc .i64 (v4+1)) (set o0 (toNat a') true)) .fail) .fail)) .fail) (.ite b' (.ite b' (.ite (decide (256=256)) (.ite true (L4 s t v0 v4 o0 s ((Sp.SJ o0)) ((Sp.SJ o0))) .fail) .fail) .fail) .fail):=by kernel_rfl
def L7(s t v0:List UInt8)(v4:Int)(o0:List Bool)(v0':List UInt8)(o1:List Bool)(o0':List Bool)(v0'':List UInt8)(o1':List Bool)(o0'':List Bool):Tr:=re ((stepT R5 (L4 s t v0 v4 o0 v0' o1 o0')).L.L.L.L.L) (AB 16 [(0,.dat zh v0''),(1,.ptr 1 0)] [(1,.arr false 196 zg o1'),(0,.arr false 196 zg o0'')] 2)
def L8(s t v0:List UInt8)(v4:Int)(o0:List Bool)(v0':List UInt8)(o1:List Bool)(o0':List Bool)(v0'':List UInt8)(o1':List Bool)(o0'':List Bool):Tr:=re ((stepT R5 (L4 s t v0 v4 o0 v0' o1 o0')).R) (AB 16 [(0,.dat zh v0''),(1,.ptr 1 0)] [(1,.arr false 196 zg o1'),(0,.arr false 196 zg o0'')] 2)
theorem CG(s t v0:List UInt8)(v4:Int)(o0:List Bool)(v0':List UInt8)(o1:List Bool)(o0':List Bool):stepT R5 (L4 s t v0 v4 o0 v0' o1 o0')=let b':=(↑(length v0'):Int);let c':=zc .i64 (b'-1);let d':=decide (0≤zc .i64 (b'-1));let a':=(↑(zl (getD v0' (toNat c') (0:UInt8))):Int);.ite (decide (b'>0)) (.ite (d'&&decide (zc .i64 (b'-1)<b')) (.ite (decide ((0:ya (zj zL))≤a')&&decide (a'<(↑256:Int))) (.ite (decide (toNat a'<length o1)) (.ite (!getD o1 (toNat a') false) (L7 s t v0 v4 o0 v0' o1 o0' v0' o1 o0') (.ite (d'&&decide (0≤toNat c')&&decide (toNat c'≤length v0')) (L4 s t v0 v4 o0 (take (toNat c') v0') o1 o0') .fail)) .fail) .fail) .fail) (L8 s t v0 v4 o0 v0' o1 o0' v0' o1 o0'):=by kernel_rfl
theorem Dj(s t v0:List UInt8)(v4:Int)(o0:List Bool)(v0':List UInt8)(o1:List Bool)(o0':List Bool)(v0'':List UInt8)(o1':List Bool)(o0'':List Bool):stepT R5 (L7 s t v0 v4 o0 v0' o1 o0' v0'' o1' o0'')=let a':=(↑(zl (getD v0'' 0 (0:UInt8))):Int);let b':Tr:=.leaf (.dat zh v0'') ([(1,.arr false 196 zg o1'),(0,.arr false 196 zg o0'')]);.ite (decide ((↑(length v0''):Int)>0)) (.ite (decide (0<(↑(length v0''):Int))) (.ite (decide ((0:ya (zj zL))≤a')&&decide (a'<(↑256:Int))) (.ite (decide (toNat a'<length o1')) (.ite (!getD o1' (toNat a') false) b' (.ite (decide (1≤length v0'')&&decide (length v0''≤length v0'')) (L7 s t v0 v4 o0 v0' o1 o0' (take (zx (length v0'') 1) (drop 1 v0'')) o1' o0'') .fail)) .fail) .fail) .fail) b':=by kernel_rfl
theorem J6(s t v0:List UInt8)(v4:Int)(o0:List Bool)(v0':List UInt8)(o1:List Bool)(o0':List Bool)(v0'':List UInt8)(o1':List Bool)(o0'':List Bool):stepT R5 (L8 s t v0 v4 o0 v0' o1 o0' v0'' o1' o0'')=let a':=(↑(zl (getD v0'' 0 (0:UInt8))):Int);let b':Tr:=.leaf (.dat zh v0'') ([(1,.arr false 196 zg o1'),(0,.arr false 196 zg o0'')]);.ite (decide ((↑(length v0''):Int)>0)) (.ite (decide (0<(↑(length v0''):Int))) (.ite (decide ((0:ya (zj zL))≤a')&&decide (a'<(↑256:Int))) (.ite (decide (toNat a'<length o1')) (.ite (!getD o1' (toNat a') false) b' (.ite (decide (1≤length v0'')&&decide (length v0''≤length v0'')) (L8 s t v0 v4 o0 v0' o1 o0' (take (zx (length v0'') 1) (drop 1 v0'')) o1' o0'') .fail)) .fail) .fail) .fail) b':=by kernel_rfl
end T87
end
noncomputable section
open List Int Prod
namespace T37
def T(s:List UInt8):Tr:=tree eT false 9 37 (Ah ([zh]) s)
theorem Ay(s:List UInt8):T s=.ite (!s==[]) (.ite (Sp.Y8 s [(48:UInt8),(49:UInt8),(50:UInt8),(51:UInt8),(52:UInt8),(53:UInt8),(54:UInt8),(55:UInt8),(56:UInt8),(57:UInt8)]) (.ite (Sp.KW s==[]) (.ite (decide (0<(length s:Int))) (.ite ((↑(zl (getD s 0 (0:UInt8))):Int) !=48) (.leaf (.bl true) []) (.leaf (.dat zg (s==[(48:UInt8)])) [])) .fail) (.leaf (.bl false) [])) .fail) (.leaf (.bl false) []):=by kernel_rfl
end T37
namespace T35
def T(s t:List UInt8):Tr:=tree Nx false 9 35 (Ah ([zh,zh]) (s,t))
theorem Ay(s t:List UInt8):T s t=let a':=(length t:Int);let b':Tr:=.leaf (.tup [.dat zh s,.bl false]) [];let c':=decide (toNat a'≤length s);.ite (decide ((length s:Int)≥a')) (.ite (decide (0≤a')&&decide (0≤toNat a')&&c') (.ite (!take (toNat a') s==t) b' (.ite (decide (0≤a')&&true&&c'&&decide (length s≤length s)) (.leaf (.tup [.dat zh (take (zx (length s) (toNat a')) (drop (toNat a') s)),.bl true]) []) .fail)) .fail) b':=by kernel_rfl
end T35
end
noncomputable section
open List Int Prod
namespace T36
def T(s t:List UInt8):Tr:=tree fC false 9 36 (Ah ([zh,zh]) (s,t))
theorem Ay(s t:List UInt8):T s t=let b':=(↑(zl (getD t 0 (0:UInt8))):Int);let c':=(length t:Int);let d':Tr:=.leaf (.tup [.dat zh s,.dat zh [],.bl false]) [];let g':=decide (length s≤length s);let i':=Bb [zj zL];let e':=zc .i64 (Sp.Lm s b'+c');let f':=zc .i64 ((-1)+c');let h':=zc .i64 (0+c');let j':=Sp.Lm s b';let a':Tr:=.ite true (.ite (decide (0≤length s)) (.ite (decide (0≤zc .i64 (0+c'))&&true&&decide (toNat h'≤length s)&&g') (.leaf (.tup [.dat zh (take 0 s),.dat zh (take (zx (length s) (toNat h')) (drop (toNat h') s)),.bl true]) []) .fail) .fail) d';.ite (c'==0) a' (.ite (t==s) a' (.ite (c'==1) (.ite (decide (0<c')) (.ite (decide ((0:ya i')≤b')&&decide (b'<(256:ya i'))) (.ite (decide (Sp.Lm s b'≥0)) (.ite (decide (0≤Sp.Lm s b')&&decide (0≤toNat j')&&decide (toNat j'≤length s)) (.ite (decide (0≤zc .i64 (Sp.Lm s b'+c'))&&true&&decide (toNat e'≤length s)&&g') (.leaf (.tup [.dat zh (take (toNat j') s),.dat zh (take (zx (length s) (toNat e')) (drop (toNat e') s)),.bl true]) []) .fail) .fail) d') .fail) .fail) (.ite (decide (c'≥(length s:Int))) (.ite false (.ite (false&&decide (0≤length s)) (.ite (decide (0≤zc .i64 ((-1)+c'))&&true&&decide (toNat f'≤length s)&&g') (.leaf (.tup [.dat zh (take 0 s),.dat zh (take (zx (length s) (toNat f')) (drop (toNat f') s)),.bl true]) []) .fail) .fail) d') .fail))):=by kernel_rfl
end T36
end
end Go.Pe
end
section
namespace Go.Pe
open Sp
open Go.Det
noncomputable section
open List Int Prod
namespace T162
def T(w:List Int):Tr:=tree Ur false 9 162 (Ah ([ze i64]) w)
def L1(v0:List Int):Tr:=re ((T [])) (AB 21 [(0,.dat (ze i64) v0)] [] 0)
theorem Ay(w:List Int):T w=L1 w:=by kernel_rfl
theorem Ap(v0:List Int):stepT Ur (L1 v0)=let b':=(length v0:Int);let d':Tr:=.leaf (.dat (ze i64) v0) [];let a':=zc .i64 (b'-1);let c':=decide (0≤zc .i64 (b'-1));.ite (decide (b'>0)) (.ite (c'&&decide (zc .i64 (b'-1)<b')) (.ite (getD v0 (toNat a') 0==0) (.ite (c'&&decide (0≤toNat a')&&decide (toNat a'≤length v0)) (L1 (take (toNat a') v0)) .fail) d') .fail) d':=by kernel_rfl
end T162
namespace T159
def T(n:Bool)(w:List Int):Tr:=tree RR false 9 159 (Ah ([zg,ze i64]) (n,w))
theorem Ay(n:Bool)(w:List Int):T n w=let a':=decide ((↑(length (Ax w)):Int)>0);.ite (decide (length w≤20000)) (.ite n (.leaf (zy [.dat zg a',.dat (ze i64) (Ax w)]) ([(0,.box [.dat zg a',.dat (ze i64) (Ax w)])])) (.leaf (zy [.bl false,.dat (ze i64) (Ax w)]) ([(0,.box [.bl false,.dat (ze i64) (Ax w)])]))) .fail:=by kernel_rfl
end T159
namespace T160
def T(a b:List Int):Tr:=tree Ur false 9 160 (Ah ([ze i64,ze i64]) (a,b))
def L1(v0 v1:List Int)(v5:Int):Tr:=re ((T [] []).R) (AB 41 [(0,.dat (ze i64) v0),(1,.dat (ze i64) v1),(5,.dat i64 v5)] [] 0)
theorem Ay(a b:List Int):T a b=let a':=(length a:Int);.ite (a' !=(length b:Int)) (.ite (decide (a'<(length b:Int))) (.leaf (.dat i64 (-1:Int)) []) (.leaf (.dat i64 (1:Int)) [])) (L1 a b (zc .i64 (a'-1))):=by kernel_rfl
theorem Ap(v0 v1:List Int)(v5:Int):stepT Ur (L1 v0 v1 v5)=let a':=decide (0≤v5)&&decide (v5<(length v0:Int));let b':=decide (0≤v5)&&decide (v5<(length v1:Int));.ite (decide (v5≥0)) (.ite a' (.ite b' (.ite (decide (getD v0 (toNat v5) 0<getD v1 (toNat v5) 0)) (.leaf (.dat i64 (-1:Int)) []) (.ite a' (.ite b' (.ite (decide (getD v0 (toNat v5) 0>getD v1 (toNat v5) 0)) (.leaf (.dat i64 (1:Int)) []) (L1 v0 v1 (zc .i64 (v5-1)))) .fail) .fail)) .fail) .fail) (.leaf (.dat i64 (0:Int)) []):=by kernel_rfl
end T160
namespace T163
def T(a b:List Int):Tr:=tree RR false 9 163 (Ah ([ze i64,ze i64]) (a,b))
def L1(v0 v1:List Int)(v5n:Nat)(v6:Int)(o0:List Int):Tr:=re ((T [] []).L) (AB 72 [(0,.dat (ze i64) v0),(1,.dat (ze i64) v1),(5,.sl 0 1 0 v5n none),(6,.dat i64 v6)] [(0,.arr false 3 i64 o0)] 1)
theorem Ay(a b:List Int):T a b=let a':=(length a:Int)+(length b:Int);let b':=zc .i64 a';.ite (decide (0≤zc .i64 a')&&decide (zc .i64 a'=zc .i64 a')&&decide (8*toNat b'≤281474976710656)&&decide (zc .i64 a'<9223372036854775808)) (L1 a b (toNat b') 0 (replicate (toNat b') 0)) .fail:=by kernel_rfl
def L2(v0 v1:List Int)(v5n:Nat)(v6 v7 v8:Int)(o0:List Int):Tr:=re ((stepT RR (L1 [] [] 0 0 [])).L) (AB 72 [(0,.dat (ze i64) v0),(1,.dat (ze i64) v1),(5,.sl 0 1 0 v5n none),(6,.dat i64 v6),(7,.dat i64 v7),(8,.dat i64 v8)] [(0,.arr false 3 i64 o0)] 1)
theorem Ap(v0 v1:List Int)(v5n:Nat)(v6:Int)(o0:List Int):stepT RR (L1 v0 v1 v5n v6 o0)=.ite (decide (v6<(length v0:Int))) (L2 v0 v1 v5n v6 0 0 o0) (.ite (decide (0+v5n≤length o0)&&true&&decide (length (take v5n o0)≤20000)) (.leaf (.dat (ze i64) (Ax (take v5n o0))) ([(0,.arr true 3 i64 o0)])) .fail):=by kernel_rfl
theorem AS(v0 v1:List Int)(v5n:Nat)(v6 v7 v8:Int)(o0:List Int):stepT RR (L2 v0 v1 v5n v6 v7 v8 o0)=let c':=decide (0≤zc .i64 (v6+v8))&&decide (zc .i64 (v6+v8)<(↑v5n:Int));let d':=zc .i64 (v6+v8);let i':=(length v1:Int);let a':=zc .i64 (zc .i64 (getD o0 (toNat d') 0+zc .i64 (getD v0 (toNat v6) 0*getD v1 (toNat v8) 0))+v7);let b':=v6+i';let g':=decide (toNat d'<length o0);let e':=decide (0≤zc .i64 b')&&decide (zc .i64 b'<(↑v5n:Int));let f':=zc .i64 b';let h':=decide (toNat f'<length o0);.ite (decide (v8<i')) (.ite c' (.ite g' (.ite (decide (0≤v6)&&decide (v6<(length v0:Int))) (.ite (decide (0≤v8)&&decide (v8<i')) (.ite true (.ite c' (.ite g' (.ite true (L2 v0 v1 v5n v6 (zc .i64 (zP a' 1000000000)) (zc .i64 (v8+1)) (set o0 (toNat d') (zE a' 1000000000))) .fail) .fail) .fail) .fail) .fail) .fail) .fail) .fail) (.ite e' (.ite h' (.ite e' (.ite h' (L1 v0 v1 v5n (zc .i64 (v6+1)) (set o0 (toNat f') (zc .i64 (getD o0 (toNat f') 0+v7)))) .fail) .fail) .fail) .fail):=by kernel_rfl
end T163
namespace T161
def T(a:List Int)(d:Int):Tr:=tree RR false 9 161 (Ah ([ze i64,zj zO]) (a,d))
def L1(v0:List Int)(v1:Int)(v6n:Nat)(v7 v8:Int)(o0:List Int):Tr:=re ((T [] 0).L) (AB 39 [(0,.dat (ze i64) v0),(1,.dat i64 v1),(6,.sl 0 1 0 v6n none),(7,.dat i64 v7),(8,.dat i64 v8)] [(0,.arr false 3 i64 o0)] 1)
theorem Ay(a:List Int)(d:Int):T a d=let a':=(length a:Int);.ite (decide (0≤a')&&decide (a'=a')&&decide (8*toNat a'≤281474976710656)&&decide (a'<9223372036854775808)) (L1 a d (toNat a') 0 (zc .i64 (a'-1)) (replicate (toNat a') 0)) .fail:=by kernel_rfl
theorem Ap(v0:List Int)(v1:Int)(v6n:Nat)(v7 v8:Int)(o0:List Int):stepT RR (L1 v0 v1 v6n v7 v8 o0)=let a':=zc .i64 (zc .i64 (v7*1000000000)+getD v0 (toNat v8) 0);.ite (decide (v8≥0)) (.ite (decide (0≤v8)&&decide (v8<(length v0:Int))) (.ite (decide (v1≠0)) (.ite (decide (0≤v8)&&decide (v8<(↑v6n:Int))) (.ite (decide (toNat v8<length o0)) (.ite (decide (v1≠0)) (L1 v0 v1 v6n (zE a' v1) (zc .i64 (v8-1)) (set o0 (toNat v8) (zc .i64 (zP a' v1)))) .fail) .fail) .fail) .fail) .fail) (.ite (decide (0+v6n≤length o0)&&true&&decide (length (take v6n o0)≤20000)) (.leaf (.tup [.dat (ze i64) (Ax (take v6n o0)),.dat i64 v7]) ([(0,.arr true 3 i64 o0)])) .fail):=by kernel_rfl
end T161
namespace T102
def T(a b:List Int):Tr:=tree Jf false 9 102 (Ah ([ze i64,ze i64]) (a,b))
def L1(v0:List Int)(v8n:Nat)(v9:List Int)(v10:Int)(v11n:Nat)(o1 o0:List Int):Tr:=re ((T [] []).L.R.R.L.L.L.L.L) (AB 206 [(0,.dat (ze i64) v0),(8,.sl 0 1 0 v8n none),(9,.dat (ze i64) v9),(10,.dat i64 v10),(11,.sl 1 1 0 v11n none)] [(1,.arr false 3 i64 o1),(0,.arr true 3 i64 o0)] 2)
theorem Ay(a b:List Int):T a b=let c':=(length b:Int);let e':=getD b (toNat (zc .i64 (c'-1))) 0+1;let a':=zP 1000000000 (zc .i64 e');let b':=AQ a*AQ [zc .i64 a'];let d':=Cj (AQ b*AQ [zc .i64 a']);.ite (B3 a&&B3 b) (.ite (decide (BO (AQ a) (AQ b)<0)) (.leaf (.tup [.nil,.dat (ze i64) a]) []) (.ite (c'==1) (.ite (decide (0<c')) (.ite (HD a&&decide (0<getD b 0 0)&&decide (getD b 0 0<1000000000)) (.ite (decide (1≤1)&&true&&decide (1≤20000)) (.leaf (.tup [.dat (ze i64) (Cj (AQ a/getD b 0 0)),.dat (ze i64) (Ax [AQ a % getD b 0 0])]) ([(0,.arr true 3 i64 [AQ a % getD b 0 0])])) .fail) .fail) .fail) (.ite (decide (0≤zc .i64 (c'-1))&&decide (zc .i64 (c'-1)<c')) (.ite (decide (zc .i64 e'≠0)) (.ite (decide (1≤1)&&true&&(Sp.hR b&&Sp.hR [zc .i64 a'])) (.ite (decide (1≤1)&&true&&(Sp.hR a&&Sp.hR [zc .i64 a'])) (.ite (decide ((2*(0+length (Cj b'))+1000)*8≤281474976710656)) (L1 a 1 d' ((↑(length d'):Int)) (zk 0 (length (Cj b'))) ([]++Cj b') ([zc .i64 a'])) .fail) .fail) .fail) .fail) .fail))) .fail:=by kernel_rfl
def L2(v8n:Nat)(v9:List Int)(v10:Int)(v11n v12n:Nat)(v13:Int)(o2 o1 o0:List Int):Tr:=re ((stepT Jf (L1 [] 0 [] 0 0 [] [])).R.L) (AB 206 [(8,.sl 0 1 0 v8n none),(9,.dat (ze i64) v9),(10,.dat i64 v10),(11,.sl 1 1 0 v11n none),(12,.sl 2 1 0 v12n none),(13,.dat i64 v13)] [(2,.arr false 3 i64 o2),(1,.arr false 3 i64 o1),(0,.arr true 3 i64 o0)] 3)
theorem Ap(v0:List Int)(v8n:Nat)(v9:List Int)(v10:Int)(v11n:Nat)(o1 o0:List Int):stepT Jf (L1 v0 v8n v9 v10 v11n o1 o0)=let a':=(↑v11n:Int)-v10;let b':=zc .i64 a';.ite (decide ((↑v11n:Int)<zc .i64 ((length v0:Int)+1))) (.ite (decide (v11n=length o1)&&decide ((2*(v11n+1)+1000)*8≤281474976710656)) (L1 v0 v8n v9 v10 (zk v11n 1) (o1++[0]) o0) .fail) (.ite (decide (0≤zc .i64 a')&&decide (zc .i64 a'=zc .i64 a')&&decide (8*toNat b'≤281474976710656)&&decide (zc .i64 a'<9223372036854775808)) (L2 v8n v9 v10 v11n (toNat b') (zc .i64 (zc .i64 a'-1)) (replicate (toNat b') 0) o1 o0) .fail):=by kernel_rfl
def L3(v8n:Nat)(v9:List Int)(v10:Int)(v11n v12n:Nat)(v13:Int)(o2 o1 o0:List Int)(v0n:Nat)(v1:List Int)(v2 v7:Int)(v9':Int)(v10':Int)(o2':List Int)(o1':List Int)(o0':List Int):Tr:=re ((stepT Jf (L2 v8n v9 v10 v11n v12n v13 o2 o1 o0)).L.L.L.L.L.L.L.L.L) (AB 77 [(0,.sl 1 1 0 v0n none),(1,.dat (ze i64) v1),(2,.dat i64 v2),(7,.dat i64 v7),(9,.dat i64 v9'),(10,.dat i64 v10')] [(2,.arr false 3 i64 o2'),(1,.arr false 3 i64 o1'),(0,.arr true 3 i64 o0')] 3)
theorem AS(v8n:Nat)(v9:List Int)(v10:Int)(v11n v12n:Nat)(v13:Int)(o2 o1 o0:List Int):stepT Jf (L2 v8n v9 v10 v11n v12n v13 o2 o1 o0)=let a':=(length v9:Int);let f':=take (toNat v10) o1;let c':=toNat (zc .i64 (a'-1));let d':=zc .i64 (v13+a')-1;let e':=decide (0≤zc .i64 (a'-1))&&decide (zc .i64 (a'-1)<a');let g':=zc .i64 (v13+a');let b':=zc .i64 (zc .i64 (getD o1 (toNat g') 0*1000000000)+getD o1 (toNat (zc .i64 d')) 0);let h':=decide (getD v9 c' 0≠0);.ite (decide (v13≥0)) (.ite (decide (0≤zc .i64 (v13+a'))&&decide (zc .i64 (v13+a')<(↑v11n:Int))) (.ite (decide (toNat g'<length o1)) (.ite (decide (0≤zc .i64 d')&&decide (zc .i64 d'<(↑v11n:Int))) (.ite (decide (toNat (zc .i64 d')<length o1)) (.ite e' (.ite h' (.ite e' (.ite h' (L3 v8n v9 v10 v11n v12n v13 o2 o1 o0 v11n v9 v13 (a') (zc .i64 (zP b' (getD v9 c' 0))) (zE b' (getD v9 c' 0)) o2 o1 o0) .fail) .fail) .fail) .fail) .fail) .fail) .fail) .fail) (.ite (decide (0≤v10)&&true&&decide (0≤toNat v10)&&decide (toNat v10≤zB none v11n)&&decide (zB none v11n≤zB none v11n)&&true) (.ite (decide (0<(↑v8n:Int))) (.ite (decide (0<length o0)) (.ite (decide (0+toNat v10≤length o1)&&true&&decide (length f'≤20000)) (.ite (HD (Ax f')&&decide (0<getD o0 0 0)&&decide (getD o0 0 0<1000000000)) (.ite (decide (0+v12n≤length o2)&&true&&decide (length (take v12n o2)≤20000)) (.leaf (.tup [.dat (ze i64) (Ax (take v12n o2)),.dat (ze i64) (Cj (AQ (Ax f')/getD o0 0 0))]) ([(2,.arr true 3 i64 o2),(1,.arr true 3 i64 o1),(0,.arr true 3 i64 o0)])) .fail) .fail) .fail) .fail) .fail) .fail):=by kernel_rfl
def L4(v8n:Nat)(v9:List Int)(v10:Int)(v11n v12n:Nat)(v13 v14 v15 v16:Int)(o2 o1 o0:List Int):Tr:=re ((stepT Jf (L3 0 [] 0 0 0 0 [] [] [] 0 [] 0 0 0 0 [] [] [])).L.L.L) (AB 206 [(8,.sl 0 1 0 v8n none),(9,.dat (ze i64) v9),(10,.dat i64 v10),(11,.sl 1 1 0 v11n none),(12,.sl 2 1 0 v12n none),(13,.dat i64 v13),(14,.dat i64 v14),(15,.dat i64 v15),(16,.dat i64 v16)] [(2,.arr false 3 i64 o2),(1,.arr false 3 i64 o1),(0,.arr true 3 i64 o0)] 3)
theorem BD(v8n:Nat)(v9:List Int)(v10:Int)(v11n v12n:Nat)(v13:Int)(o2 o1 o0:List Int)(v0n:Nat)(v1:List Int)(v2 v7:Int)(v9':Int)(v10':Int)(o2':List Int)(o1':List Int)(o0':List Int):stepT Jf (L3 v8n v9 v10 v11n v12n v13 o2 o1 o0 v0n v1 v2 v7 v9' v10' o2' o1' o0')=let b':=zc .i64 (v2+v7)-2;let c':=v10'+getD v1 (toNat (zc .i64 (v7-1))) 0;let d':=zc .i64 (v9'-1);let a':Tr:=.ite (decide (0≤zc .i64 (v7-1))&&decide (zc .i64 (v7-1)<(length v1:Int))) (.ite (decide (zc .i64 c'≥1000000000)) (L4 v8n v9 v10 v11n v12n v13 d' 0 0 o2' o1' o0') (L3 v8n v9 v10 v11n v12n v13 o2 o1 o0 v0n v1 v2 v7 d' (zc .i64 c') o2' o1' o0')) .fail;.ite (decide (v9'≥1000000000)) a' (.ite (decide (0≤zc .i64 (v7-2))&&decide (zc .i64 (v7-2)<(length v1:Int))) (.ite (decide (0≤zc .i64 b')&&decide (zc .i64 b'<(↑v0n:Int))) (.ite (decide (toNat (zc .i64 b')<length o1')) (.ite (decide (zc .i64 (v9'*getD v1 (toNat (zc .i64 (v7-2))) 0)>zc .i64 (zc .i64 (v10'*1000000000)+getD o1' (toNat (zc .i64 b')) 0))) a' (L4 v8n v9 v10 v11n v12n v13 v9' 0 0 o2' o1' o0')) .fail) .fail) .fail):=by kernel_rfl
def L5(v8n:Nat)(v9:List Int)(v10:Int)(v11n v12n:Nat)(v13 v14 v19 v20:Int)(o2 o1 o0:List Int):Tr:=re ((stepT Jf (L4 0 [] 0 0 0 0 0 0 0 [] [] [])).R.L.L.L.L.L.L.L) (AB 206 [(8,.sl 0 1 0 v8n none),(9,.dat (ze i64) v9),(10,.dat i64 v10),(11,.sl 1 1 0 v11n none),(12,.sl 2 1 0 v12n none),(13,.dat i64 v13),(14,.dat i64 v14),(19,.dat i64 v19),(20,.dat i64 v20)] [(2,.arr false 3 i64 o2),(1,.arr false 3 i64 o1),(0,.arr true 3 i64 o0)] 3)
theorem CG(v8n:Nat)(v9:List Int)(v10:Int)(v11n v12n:Nat)(v13 v14 v15 v16:Int)(o2 o1 o0:List Int):stepT Jf (L4 v8n v9 v10 v11n v12n v13 v14 v15 v16 o2 o1 o0)=let c':=decide (0≤zc .i64 (v16+v13))&&decide (zc .i64 (v16+v13)<(↑v11n:Int));let d':=decide (0≤zc .i64 (v13+v10))&&decide (zc .i64 (v13+v10)<(↑v11n:Int));let e':=zc .i64 (zc .i64 (v14*getD v9 (toNat v16) 0)+v15);let f':=zc .i64 (v16+v13);let g':=zc .i64 (v13+v10);let j':=zc .i64 (v16+1);let a':=set o1 (toNat g') (zc .i64 (getD o1 (toNat g') 0-v15));let b':=getD o1 (toNat f') 0-zE e' 1000000000;let h':=decide (toNat f'<length o1);let i':=decide (toNat g'<length o1);let k':=zP e' 1000000000;.ite (decide (v16<v10)) (.ite (decide (0≤v16)&&decide (v16<(length v9:Int))) (.ite c' (.ite h' (.ite true (.ite true (.ite (decide (zc .i64 b'<0)) (.ite c' (.ite h' (L4 v8n v9 v10 v11n v12n v13 v14 (zc .i64 (zc .i64 k'+1)) j' o2 (set o1 (toNat f') (zc .i64 (zc .i64 b'+1000000000))) o0) .fail) .fail) (.ite c' (.ite h' (L4 v8n v9 v10 v11n v12n v13 v14 (zc .i64 k') j' o2 (set o1 (toNat f') (zc .i64 b')) o0) .fail) .fail)) .fail) .fail) .fail) .fail) .fail) (.ite d' (.ite i' (.ite d' (.ite i' (.ite d' (.ite (decide (toNat g'<length a')) (.ite (decide (getD a' (toNat g') 0<0)) (L5 v8n v9 v10 v11n v12n v13 (zc .i64 (v14-1)) 0 0 o2 a' o0) (.ite (decide (0≤v13)&&decide (v13<(↑v12n:Int))) (.ite (decide (toNat v13<length o2)) (L2 v8n v9 v10 v11n v12n (zc .i64 (v13-1)) (set o2 (toNat v13) v14) a' o0) .fail) .fail)) .fail) .fail) .fail) .fail) .fail) .fail):=by kernel_rfl
theorem Dk(v8n:Nat)(v9:List Int)(v10:Int)(v11n v12n:Nat)(v13 v14 v19 v20:Int)(o2 o1 o0:List Int):stepT Jf (L5 v8n v9 v10 v11n v12n v13 v14 v19 v20 o2 o1 o0)=let b':=decide (0≤zc .i64 (v20+v13))&&decide (zc .i64 (v20+v13)<(↑v11n:Int));let c':=decide (0≤zc .i64 (v13+v10))&&decide (zc .i64 (v13+v10)<(↑v11n:Int));let d':=zc .i64 (v20+v13);let e':=zc .i64 (v13+v10);let a':=zc .i64 (zc .i64 (getD o1 (toNat d') 0+getD v9 (toNat v20) 0)+v19);let f':=decide (toNat d'<length o1);let g':=decide (toNat e'<length o1);.ite (decide (v20<v10)) (.ite b' (.ite f' (.ite (decide (0≤v20)&&decide (v20<(length v9:Int))) (.ite true (.ite b' (.ite f' (.ite true (L5 v8n v9 v10 v11n v12n v13 v14 (zc .i64 (zP a' 1000000000)) (zc .i64 (v20+1)) o2 (set o1 (toNat d') (zE a' 1000000000)) o0) .fail) .fail) .fail) .fail) .fail) .fail) .fail) (.ite c' (.ite g' (.ite c' (.ite g' (.ite (decide (0≤v13)&&decide (v13<(↑v12n:Int))) (.ite (decide (toNat v13<length o2)) (L2 v8n v9 v10 v11n v12n (zc .i64 (v13-1)) (set o2 (toNat v13) v14) (set o1 (toNat e') (zc .i64 (getD o1 (toNat e') 0+v19))) o0) .fail) .fail) .fail) .fail) .fail) .fail):=by kernel_rfl
end T102
namespace T47
def T(a b:List Int):Tr:=tree bS false 9 47 (Ah ([ze i64,ze i64]) (a,b))
def L1(v0 v1:List Int):Tr:=re ((T [] [])) (AB 19 [(0,.dat (ze i64) v0),(1,.dat (ze i64) v1)] [] 0)
theorem Ay(a b:List Int):T a b=L1 a b:=by kernel_rfl
theorem Ap(v0 v1:List Int):stepT bS (L1 v0 v1)=.ite (decide ((length v1:Int)>0)) (.ite (B3 v0&&B3 v1&&decide (length v0≤9000)&&decide (length v1≤9000)&&decide (0<AQ v1)) (L1 v1 (Cj (AQ v0 % AQ v1))) .fail) (.leaf (.dat (ze i64) v0) []):=by kernel_rfl
end T47
namespace T158
def T(s:List UInt8):Tr:=tree Ur false 9 158 (Ah ([zh]) s)
def L1(v0:List UInt8)(v3 v4:Int):Tr:=re ((T [])) (AB 20 [(0,.dat zh v0),(3,.dat i64 v3),(4,.dat i64 v4)] [] 0)
theorem Ay(s:List UInt8):T s=L1 s 0 0:=by kernel_rfl
theorem Ap(v0:List UInt8)(v3 v4:Int):stepT Ur (L1 v0 v3 v4)=let a':=decide (v4<(length v0:Int));.ite (a') (.ite (decide (0≤v4)&&a') (L1 v0 (zc .i64 (zc .i64 (zc .i64 (10*v3)+zc .i64 (↑(zl (getD v0 (toNat v4) (0:UInt8))):Int))-48)) (zc .i64 (v4+1))) .fail) (.leaf (.dat i64 v3) []):=by kernel_rfl
end T158
namespace T100
def T(s:List UInt8):Tr:=tree Ts false 9 100 (Ah ([zh]) s)
def L1(v0:List UInt8)(v3:Bool):Tr:=re ((T []).L.L.L.L) (AB 40 [(0,.dat zh v0),(2,.ptr 0 0),(3,.dat zg v3),(4,.nil)] [(0,.box [.bl false,.nil])] 1)
def L2(v0:List UInt8):Tr:=re ((T []).R) (AB 40 [(0,.dat zh v0),(2,.ptr 0 0),(3,.bl false),(4,.nil)] [(0,.box [.bl false,.nil])] 1)
theorem Ay(s:List UInt8):T s=let a':=(↑(zl (getD s 0 (0:UInt8))):Int)==45;.ite (decide ((length s:Int)>0)) (.ite (decide (0<(length s:Int))) (.ite a' (.ite (decide (1≤length s)&&decide (length s≤length s)) (L1 (take (zx (length s) 1) (drop 1 s)) a') .fail) (L1 s a')) .fail) (L2 s):=by kernel_rfl
def L3(v0:List UInt8)(v3:Bool)(v4n:Nat)(o1:List Int):Tr:=re ((stepT Ts (L1 [] false)).L.L.L.L.L) (AB 40 [(0,.dat zh v0),(2,.ptr 0 0),(3,.dat zg v3),(4,.sl 1 1 0 v4n none)] [(1,.arr false 3 i64 o1),(0,.box [.bl false,.nil])] 2)
theorem Ap(v0:List UInt8)(v3:Bool):stepT Ts (L1 v0 v3)=let b':=decide (1≤1)&&decide (0<1)&&decide ((2*1+1000)*8≤281474976710656);let e':=(length v0:Int);let g':=DY v3 [Bf v0];let h':=Ax [Bf v0];let a':=zc .i64 (e'-9);let d':=decide (0≤zc .i64 (e'-9));let c':=take (zx (length v0) (toNat a')) (drop (toNat a') v0);let f':=decide (toNat a'≤length v0);.ite (decide (e'>9)) (.ite (d'&&true&&f'&&decide (length v0≤length v0)) (.ite (Ee c') (.ite b' (.ite (d'&&decide (0≤toNat a')&&f') (L3 (take (toNat a') v0) v3 1 ([Bf c'])) .fail) .fail) .fail) .fail) (.ite (Ee v0) (.ite b' (.ite (decide (0+1≤1)&&true&&decide (1≤20000)) (.leaf (zy [.dat zg g',.dat (ze i64) h']) ([(zk 1 1,.arr true 3 i64 [Bf v0]),(1,.arr false 3 i64 [Bf v0]),(0,.box [.dat zg g',.dat (ze i64) h'])])) .fail) .fail) .fail):=by kernel_rfl
def L4(v0:List UInt8)(v4n:Nat)(o1:List Int):Tr:=re ((stepT Ts (L2 [])).L.L.L.L.L) (AB 40 [(0,.dat zh v0),(2,.ptr 0 0),(3,.bl false),(4,.sl 1 1 0 v4n none)] [(1,.arr false 3 i64 o1),(0,.box [.bl false,.nil])] 2)
theorem AS(v0:List UInt8):stepT Ts (L2 v0)=let b':=decide (1≤1)&&decide (0<1)&&decide ((2*1+1000)*8≤281474976710656);let e':=DY false [Bf v0];let f':=(length v0:Int);let h':=Ax [Bf v0];let a':=zc .i64 (f'-9);let d':=decide (0≤zc .i64 (f'-9));let c':=take (zx (length v0) (toNat a')) (drop (toNat a') v0);let g':=decide (toNat a'≤length v0);.ite (decide (f'>9)) (.ite (d'&&true&&g'&&decide (length v0≤length v0)) (.ite (Ee c') (.ite b' (.ite (d'&&decide (0≤toNat a')&&g') (L4 (take (toNat a') v0) 1 ([Bf c'])) .fail) .fail) .fail) .fail) (.ite (Ee v0) (.ite b' (.ite (decide (0+1≤1)&&true&&decide (1≤20000)) (.leaf (zy [.dat zg e',.dat (ze i64) h']) ([(zk 1 1,.arr true 3 i64 [Bf v0]),(1,.arr false 3 i64 [Bf v0]),(0,.box [.dat zg e',.dat (ze i64) h'])])) .fail) .fail) .fail):=by kernel_rfl
theorem BD(v0:List UInt8)(v3:Bool)(v4n:Nat)(o1:List Int):stepT Ts (L3 v0 v3 v4n o1)=let c':=decide (1≤1)&&true&&decide (v4n=length o1)&&decide ((2*(v4n+1)+1000)*8≤281474976710656);let f':=o1++[Bf v0];let g':=(length v0:Int);let a':=zc .i64 (g'-9);let b':=take (zk v4n 1) f';let e':=decide (0≤zc .i64 (g'-9));let d':=take (zx (length v0) (toNat a')) (drop (toNat a') v0);let h':=decide (toNat a'≤length v0);.ite (decide (g'>9)) (.ite (e'&&true&&h'&&decide (length v0≤length v0)) (.ite (Ee d') (.ite c' (.ite (e'&&decide (0≤toNat a')&&h') (L3 (take (toNat a') v0) v3 (zk v4n 1) (o1++[Bf d'])) .fail) .fail) .fail) .fail) (.ite (Ee v0) (.ite c' (.ite (decide (0+zk v4n 1≤length f')&&true&&decide (length b'≤20000)) (.leaf (zy [.dat zg (DY v3 b'),.dat (ze i64) (Ax b')]) ([(zk 2 1,.arr true 3 i64 f'),(2,.arr false 3 i64 [Bf v0]),(0,.box [.dat zg (DY v3 b'),.dat (ze i64) (Ax b')])])) .fail) .fail) .fail):=by kernel_rfl
theorem CG(v0:List UInt8)(v4n:Nat)(o1:List Int):stepT Ts (L4 v0 v4n o1)=let c':=decide (1≤1)&&true&&decide (v4n=length o1)&&decide ((2*(v4n+1)+1000)*8≤281474976710656);let f':=o1++[Bf v0];let g':=(length v0:Int);let a':=zc .i64 (g'-9);let b':=take (zk v4n 1) f';let e':=decide (0≤zc .i64 (g'-9));let d':=take (zx (length v0) (toNat a')) (drop (toNat a') v0);let h':=decide (toNat a'≤length v0);.ite (decide (g'>9)) (.ite (e'&&true&&h'&&decide (length v0≤length v0)) (.ite (Ee d') (.ite c' (.ite (e'&&decide (0≤toNat a')&&h') (L4 (take (toNat a') v0) (zk v4n 1) (o1++[Bf d'])) .fail) .fail) .fail) .fail) (.ite (Ee v0) (.ite c' (.ite (decide (0+zk v4n 1≤length f')&&true&&decide (length b'≤20000)) (.leaf (zy [.dat zg (DY false b'),.dat (ze i64) (Ax b')]) ([(zk 2 1,.arr true 3 i64 f'),(2,.arr false 3 i64 [Bf v0]),(0,.box [.dat zg (DY false b'),.dat (ze i64) (Ax b')])])) .fail) .fail) .fail):=by kernel_rfl
end T100
end
end Go.Pe
end
section
namespace Go.Pe
open Sp
open Go.Det
noncomputable section
open List Int Prod
namespace T43n
def T(n:Int):Tr:=tree fD false 9 43 (Ah ([zj zO]) n)
theorem Ay(n:Int):T n=.leaf (zy [.dat i64 n,.nil]) ([(0,.box [.dat i64 n,.nil])]):=by kernel_rfl
end T43n
namespace T90
def T(a b:Int×List Int):Tr:=tree bL false 9 90 (Ah ([zF i64 (zu (zj zd)),zF i64 (zu (zj zd))]) (a,b))
def L1(v8:Bool)(v12 v13:List Int)(o2 o1 o0:Int)(o0_1:List Int):Tr:=re ((T (0,[]) (0,[])).L.L.R.L.L.L) (AB 84 [(3,.ptr 0 0),(4,.ptr 1 0),(5,.ptr 2 0),(8,.dat zg v8),(12,.dat (ze (zj zd)) v12),(13,.dat (ze (zj zd)) v13)] [(2,.box [.dat i64 o2,.nil]),(1,.box [.dat i64 o1,.nil]),(0,.box [.dat i64 o0,.dat (zu (zj zd)) o0_1])] 3)
theorem Ay(a b:Int×List Int):T a b=let b':=zu (zj zd);let c':=Br (Ag (Sp.vI (fst a,snd a)));let d':=Br (Ag (Sp.vI (fst b,snd b)));let e':=zP (fst a) (fst b);let f':=zc .i64 (zE (fst a) (fst b)+fst b);let h':=zE (fst a) (fst b);let i':=zk (zk 0 1) 1;let a':Tr:=.ite (EB (fst a,snd a)) (.ite (EB (fst b,snd b)) (.ite (W3 c' d') (L1 (decide (Sp.vI (fst a,snd a)<0)) (Br (Ai c'/Ai d')) (Br (Ai c' % Ai d')) 0 0 (fst b) (snd b)) .fail) .fail) .fail;let g':=zc .i64 (zc .i64 e'-1);.ite (!decide (0<length (snd a))) (.ite (!decide (0<length (snd b))) (.ite (fst a !=(-9223372036854775808)) (.ite (decide (fst b≠0)) (.ite (decide (fst b≠0)) (.ite (decide (zE (fst a) (fst b)<0)) (.leaf (.tup [zy [.dat i64 g',.nil],zy [.dat i64 f',.nil]]) ([(zk i' 1,.box [.dat i64 f',.nil]),(zk (zk 0 1) 1,.box [.dat i64 g',.nil]),(zk 0 1,.box [.dat i64 (fst b),.dat b' (snd b)]),(0,.box [.dat i64 (fst a),.dat b' (snd a)])])) (.leaf (.tup [zy [.dat i64 (zc .i64 e'),.nil],zy [.dat i64 h',.nil]]) ([(zk i' 1,.box [.dat i64 h',.nil]),(zk (zk 0 1) 1,.box [.dat i64 (zc .i64 e'),.nil]),(zk 0 1,.box [.dat i64 (fst b),.dat b' (snd b)]),(0,.box [.dat i64 (fst a),.dat b' (snd a)])]))) .fail) .fail) a') a') a':=by kernel_rfl
def L2(o4:Int)(o4_1:List Int)(o3:Int)(o3_1:List Int)(o2 o1 o0:Int)(o0_1:List Int):Tr:=re ((stepT bL (L1 false [] [] 0 0 0 [])).L.L) (AB 84 [(3,.ptr 0 0),(4,.ptr 1 0),(5,.ptr 2 0),(14,.ptr 3 0),(15,.ptr 4 0)] [(4,.box [.dat i64 o4,.dat (zu (zj zd)) o4_1]),(3,.box [.dat i64 o3,.dat (zu (zj zd)) o3_1]),(2,.box [.dat i64 o2,.nil]),(1,.box [.dat i64 o1,.nil]),(0,.box [.dat i64 o0,.dat (zu (zj zd)) o0_1])] 5)
theorem Ap(v8:Bool)(v12 v13:List Int)(o2 o1 o0:Int)(o0_1:List Int):stepT bL (L1 v8 v12 v13 o2 o1 o0 o0_1)=let a':=Sp.sg v8 (Ai v13);let b':=Sp.sg v8 (Ai v12);.ite (By v12) (.ite (By v13) (L2 (BY a') (BR a') (BY b') (BR b') o2 o1 o0 o0_1) .fail) .fail:=by kernel_rfl
theorem AS(o4:Int)(o4_1:List Int)(o3:Int)(o3_1:List Int)(o2 o1 o0:Int)(o0_1:List Int):stepT bL (L2 o4 o4_1 o3 o3_1 o2 o1 o0 o0_1)=let a':=zu (zj zd);let b':=VD (o3,o3_1) (1,EG 1);let c':=Wn (o3,o3_1) (1,EG 1);let d':=JS (o4,o4_1) (o0,o0_1);let e':=J4 (o4,o4_1) (o0,o0_1);.ite (EB (o4,o4_1)) (.ite (decide (Mn (o4,o4_1)<0)) (.ite true (.ite (BF (o3,o3_1)&&BF (1,EG 1)) (.ite (BF (o4,o4_1)&&BF (o0,o0_1)) (.leaf (.tup [zy [.dat i64 b',.dat a' c'],zy [.dat i64 d',.dat a' e']]) ([(4,.box [.dat i64 d',.dat a' e']),(3,.box [.dat i64 b',.dat a' c']),(2,.box [.dat i64 d',.dat a' e']),(1,.box [.dat i64 b',.dat a' c']),(0,.box [.dat i64 o0,.dat a' o0_1])])) .fail) .fail) .fail) (.leaf (.tup [zy [.dat i64 o3,.dat a' o3_1],zy [.dat i64 o4,.dat a' o4_1]]) ([(4,.box [.dat i64 o4,.dat a' o4_1]),(3,.box [.dat i64 o3,.dat a' o3_1]),(2,.box [.dat i64 o4,.dat a' o4_1]),(1,.box [.dat i64 o3,.dat a' o3_1]),(0,.box [.dat i64 o0,.dat a' o0_1])]))) .fail:=by kernel_rfl
end T90
namespace T40
def T(a b:Int×List Int):Tr:=tree bT false 9 40 (Ah ([zF i64 (zu (zj zd)),zF i64 (zu (zj zd))]) (a,b))
def L1(o2 o1:Int)(o1_1:List Int)(o0:Int)(o0_1:List Int):Tr:=re ((T (0,[]) (0,[])).L.L) (AB 23 [(2,.ptr 0 0),(3,.ptr 1 0),(4,.ptr 2 0)] [(2,.box [.dat i64 o2,.nil]),(1,.box [.dat i64 o1,.dat (zu (zj zd)) o1_1]),(0,.box [.dat i64 o0,.dat (zu (zj zd)) o0_1])] 3)
theorem Ay(a b:Int×List Int):T a b=.ite (EB (fst a,snd a)) (.ite (EB (fst b,snd b)) (L1 0 (L0 (fst b,snd b)) (Ll (fst b,snd b)) (L0 (fst a,snd a)) (Ll (fst a,snd a))) .fail) .fail:=by kernel_rfl
theorem Ap(o2 o1:Int)(o1_1:List Int)(o0:Int)(o0_1:List Int):stepT bT (L1 o2 o1 o1_1 o0 o0_1)=let a':=zu (zj zd);.ite (EB (o1,o1_1)) (.ite (Mn (o1,o1_1) !=0) (.ite (BF (o0,o0_1)&&BF (o1,o1_1)&&decide (0<Sp.vI (o1,o1_1))) (L1 o2 (Vo (o0,o0_1) (o1,o1_1)) (Vx (o0,o0_1) (o1,o1_1)) o1 o1_1) .fail) (.leaf (zy [.dat i64 o0,.dat a' o0_1]) ([(2,.box [.dat i64 o0,.dat a' o0_1]),(1,.box [.dat i64 o1,.dat a' o1_1]),(0,.box [.dat i64 o0,.dat a' o0_1])]))) .fail:=by kernel_rfl
end T40
namespace T95
def T(a:Int×List Int)(k:Int):Tr:=tree ZR false 9 95 (Ah ([zF i64 (zu (zj zd)),zj zO]) (a,k))
def L1(v1 o2:Int)(o2_1:List Int)(o1 o0:Int)(o0_1:List Int):Tr:=re ((T (0,[]) 0).L) (AB 23 [(1,.dat i64 v1),(2,.ptr 0 0),(4,.ptr 1 0),(5,.ptr 2 0)] [(2,.box [.dat i64 o2,.dat (zu (zj zd)) o2_1]),(1,.box [.dat i64 o1,.nil]),(0,.box [.dat i64 o0,.dat (zu (zj zd)) o0_1])] 3)
theorem Ay(a:Int×List Int)(k:Int):T a k=.ite true (L1 k 1 (EG 1) 0 (fst a) (snd a)) .fail:=by kernel_rfl
theorem Ap(v1 o2:Int)(o2_1:List Int)(o1 o0:Int)(o0_1:List Int):stepT ZR (L1 v1 o2 o2_1 o1 o0 o0_1)=let a':=zu (zj zd);let b':=Int.fdiv v1 (2^1);let c':=BF (o0,o0_1)&&BF (o0,o0_1);let d':=HE (o2,o2_1) (o0,o0_1);let e':=HJ (o2,o2_1) (o0,o0_1);let f':=HE (o0,o0_1) (o0,o0_1);let g':=HJ (o0,o0_1) (o0,o0_1);.ite (decide (v1>0)) (.ite (FV zO v1 1==1) (.ite (BF (o2,o2_1)&&BF (o0,o0_1)) (.ite (decide (v1>1)) (.ite c' (.ite true (L1 b' d' e' o1 f' g') .fail) .fail) (.ite true (L1 b' d' e' o1 o0 o0_1) .fail)) .fail) (.ite (decide (v1>1)) (.ite c' (.ite true (L1 b' o2 o2_1 o1 f' g') .fail) .fail) (.ite true (L1 b' o2 o2_1 o1 o0 o0_1) .fail))) (.leaf (zy [.dat i64 o2,.dat a' o2_1]) ([(2,.box [.dat i64 o2,.dat a' o2_1]),(1,.box [.dat i64 o2,.dat a' o2_1]),(0,.box [.dat i64 o0,.dat a' o0_1])])):=by kernel_rfl
end T95
end
end Go.Pe
end
section
namespace Go.Pe
open Sp
open Go.Det
noncomputable section
open List Int Prod
namespace T147
def T(a b:List Int):Tr:=tree Hd false 9 147 (Ah ([ze (zj zd),ze (zj zd)]) (a,b))
def L1(v0 v1:List Int)(v6n:Nat)(v7 v8:Int)(o0:List Int):Tr:=re ((T [] []).L.R.L.L) (AB 137 [(0,.dat (ze (zj zd)) v0),(1,.dat (ze (zj zd)) v1),(6,.sl 0 1 0 v6n none),(7,.dat (zj zd) v7),(8,.dat i64 v8)] [(0,.arr false 111 (zj zd) o0)] 1)
def L2(a b:List Int)(v1:Int)(v5n:Nat)(v12:List Int)(v13 v14:Int)(o0:List Int):Tr:=re ((T a b).L.R.R.L.L.L) (AB 40 [(1,.dat i64 v1),(5,.sl 0 1 0 v5n none),(12,.dat (ze (zj zd)) v12),(13,.dat i64 v13),(14,.dat i64 v14)] [(0,.arr false 111 (zj zd) o0)] 1)
theorem Ay(a b:List Int):T a b=let a':=(length b:Int);let b':=(length a:Int);let c':=zc .i64 (a'+1);let d':=getD b (toNat (zc .i64 (a'-1))) 0;.ite (By a&&By b) (.ite (decide (BO (Ai a) (Ai b)<0)) (.leaf (.tup [.nil,.dat (ze (zj zd)) a]) []) (.ite (a'==1) (.ite (decide (0≤b')&&decide (b'=b')&&decide (8*toNat b'≤281474976710656)&&decide (b'<9223372036854775808)) (L1 a b (toNat b') 0 (zc .i64 (b'-1)) (replicate (toNat b') 0)) .fail) (.ite (decide (0≤zc .i64 (a'-1))&&decide (zc .i64 (a'-1)<a')) (.ite (zr d') (.ite (decide (0≤zc .i64 (a'+1))&&decide (zc .i64 (a'+1)=zc .i64 (a'+1))&&decide (8*toNat c'≤281474976710656)&&decide (zc .i64 (a'+1)<9223372036854775808)) (L2 a b (Sp.lz d') (toNat c') b (a') 0 (replicate (toNat c') 0)) .fail) .fail) .fail))) .fail:=by kernel_rfl
theorem Ap(v0 v1:List Int)(v6n:Nat)(v7 v8:Int)(o0:List Int):stepT Hd (L1 v0 v1 v6n v7 v8 o0)=let a':=zj zd;let b':=getD v0 (toNat v8) 0;.ite (decide (v8≥0)) (.ite (decide (0≤v8)&&decide (v8<(length v0:Int))) (.ite (decide (0<(length v1:Int))) (.ite (zr v7&&zr b'&&zr (getD v1 0 0)&&decide (v7<getD v1 0 0)) (.ite (decide (0≤v8)&&decide (v8<(↑v6n:Int))) (.ite (decide (toNat v8<length o0)) (L1 v0 v1 v6n (Sp.dr v7 b' (getD v1 0 0)) (zc .i64 (v8-1)) (set o0 (toNat v8) (Sp.dq v7 b' (getD v1 0 0)))) .fail) .fail) .fail) .fail) .fail) (.ite (decide (0+v6n≤length o0)&&true&&B2 (take v6n o0)) (.ite (decide (1≤1)&&true&&B2 [v7]) (.leaf (.tup [.dat (ze a') (Ax (take v6n o0)),.dat (ze a') (Ax [v7])]) ([(1,.arr true 111 a' [v7]),(0,.arr true 111 a' o0)])) .fail) .fail):=by kernel_rfl
def L3(a b:List Int)(v1:Int)(v5n:Nat)(v12:List Int)(v13 v14:Int)(o0:List Int)(v1':Int)(v5n':Nat)(v12':List Int)(v13':Int)(v14':Int)(o1:List Int)(o0':List Int):Tr:=re ((stepT Hd (L2 a b v1 v5n v12 v13 v14 o0)).R.L.L) (AB 40 [(1,.dat i64 v1'),(5,.sl 1 1 0 v5n' none),(12,.dat (ze (zj zd)) v12'),(13,.dat i64 v13'),(14,.dat i64 v14')] [(1,.arr false 111 (zj zd) o1),(0,.arr true 111 (zj zd) o0')] 2)
theorem AS(a b:List Int)(v1:Int)(v5n:Nat)(v12:List Int)(v13 v14:Int)(o0:List Int):stepT Hd (L2 a b v1 v5n v12 v13 v14 o0)=let a':=set o0 (toNat v14) (TV zd (getD o0 (toNat v14) 0) (zc .u64 (getD v12 (toNat v14) 0*2^zZ (toNat v1) 64)));let b':=(length a:Int)+1;let c':=zc .i64 (v14+1);let e':=decide (0≤v14)&&decide (v14<(↑v5n:Int));let f':=decide (toNat v14<length o0);let d':=zc .i64 b';.ite (decide (v14<v13)) (.ite (decide (0≤v14)&&decide (v14<(length v12:Int))) (.ite e' (.ite f' (.ite (decide (0≤v1)) (.ite e' (.ite f' (.ite (decide (v1>0)) (.ite (decide (0≤zc .i64 (64-v1))) (.ite (decide (0≤zc .i64 (v14+1))&&decide (zc .i64 (v14+1)<(↑v5n:Int))) (.ite (decide (toNat c'<length a')) (L2 a b v1 v5n v12 v13 c' (set a' (toNat c') (Int.fdiv (getD v12 (toNat v14) 0) (2^zZ (toNat (zc .i64 (64-v1))) 64)))) .fail) .fail) .fail) (L2 a b v1 v5n v12 v13 c' a')) .fail) .fail) .fail) .fail) .fail) .fail) (.ite (decide (0+v5n≤length o0)&&true&&B2 (take v5n o0)) (.ite (decide (0≤zc .i64 b')&&decide (zc .i64 b'=zc .i64 b')&&decide (8*toNat d'≤281474976710656)&&decide (zc .i64 b'<9223372036854775808)) (L3 a b v1 v5n v12 v13 v14 o0 (Sp.lz (getD b (toNat (zc .i64 ((length b:Int)-1))) 0)) (toNat d') a ((length a:Int)) 0 (replicate (toNat d') 0) o0) .fail) .fail):=by kernel_rfl
def L4(v9:Int)(v10:List Int)(v11n:Nat)(v12:Int)(v13n:Nat)(v14:Int)(o1 o0:List Int):Tr:=re ((stepT Hd (L3 [] [] 0 0 [] 0 0 [] 0 0 [] 0 0 [] [])).R.L) (AB 137 [(9,.dat i64 v9),(10,.dat (ze (zj zd)) v10),(11,.sl 0 1 0 v11n none),(12,.dat i64 v12),(13,.sl 1 1 0 v13n none),(14,.dat i64 v14)] [(1,.arr false 111 (zj zd) o1),(0,.arr false 111 (zj zd) o0)] 2)
theorem BD(a b:List Int)(v1:Int)(v5n:Nat)(v12:List Int)(v13 v14:Int)(o0:List Int)(v1':Int)(v5n':Nat)(v12':List Int)(v13':Int)(v14':Int)(o1:List Int)(o0':List Int):stepT Hd (L3 a b v1 v5n v12 v13 v14 o0 v1' v5n' v12' v13' v14' o1 o0')=let b':=set o1 (toNat v14') (TV zd (getD o1 (toNat v14') 0) (zc .u64 (getD v12' (toNat v14') 0*2^zZ (toNat v1') 64)));let c':=zc .i64 (v14'+1);let e':=decide (0≤v14')&&decide (v14'<(↑v5n':Int));let g':=decide (toNat v14'<length o1);let h':=Ax (take v5n o0);let d':=(↑(length h'):Int);let a':=zc .i64 ((length a:Int)-d')+1;let f':=zc .i64 a';.ite (decide (v14'<v13')) (.ite (decide (0≤v14')&&decide (v14'<(↑(length v12'):Int))) (.ite e' (.ite g' (.ite (decide (0≤v1')) (.ite e' (.ite g' (.ite (decide (v1'>0)) (.ite (decide (0≤zc .i64 (64-v1'))) (.ite (decide (0≤zc .i64 (v14'+1))&&decide (zc .i64 (v14'+1)<(↑v5n':Int))) (.ite (decide (toNat c'<length b')) (L3 a b v1 v5n v12 v13 v14 o0 v1' v5n' v12' v13' c' (set b' (toNat c') (Int.fdiv (getD v12' (toNat v14') 0) (2^zZ (toNat (zc .i64 (64-v1'))) 64))) o0') .fail) .fail) .fail) (L3 a b v1 v5n v12 v13 v14 o0 v1' v5n' v12' v13' c' b' o0')) .fail) .fail) .fail) .fail) .fail) .fail) (.ite (decide (0≤zc .i64 a')&&decide (zc .i64 a'=zc .i64 a')&&decide (8*toNat f'≤281474976710656)&&decide (zc .i64 a'<9223372036854775808)) (L4 (Sp.lz (getD b (toNat (zc .i64 ((length b:Int)-1))) 0)) h' v5n' (d') (toNat f') (zc .i64 ((length a:Int)-d')) (replicate (toNat f') 0) o1) .fail):=by kernel_rfl
def L5(v9:Int)(v10:List Int)(v11n:Nat)(v12:Int)(v13n:Nat)(v14:Int)(o1 o0:List Int)(v0o v0n v0c:Nat)(v1:List Int)(v5 v6 v7 v8:Int)(o1':List Int)(o0':List Int):Tr:=re ((stepT Hd (L4 v9 v10 v11n v12 v13n v14 o1 o0)).L.L.L.L.L.L.L.L.L.L) (AB 186 [(0,.sl 0 1 v0o v0n (Option.some v0c)),(1,.dat (ze (zj zd)) v1),(5,.dat i64 v5),(6,.dat (zj zd) v6),(7,.dat (zj zd) v7),(8,.dat (zj zd) v8)] [(1,.arr false 111 (zj zd) o1'),(0,.arr false 111 (zj zd) o0')] 2)
def L6(v9:Int)(v11n:Nat)(v12:Int)(v13n:Nat)(v96 v97:Int)(o1 o0:List Int):Tr:=re ((stepT Hd (L4 0 [] 0 0 0 0 [] [])).R) (AB 137 [(9,.dat i64 v9),(11,.sl 0 1 0 v11n none),(12,.dat i64 v12),(13,.sl 1 1 0 v13n none),(96,.dat i64 v96),(97,.dat i64 v97)] [(1,.arr false 111 (zj zd) o1),(0,.arr false 111 (zj zd) o0)] 2)
theorem CG(v9:Int)(v10:List Int)(v11n:Nat)(v12:Int)(v13n:Nat)(v14:Int)(o1 o0:List Int):stepT Hd (L4 v9 v10 v11n v12 v13n v14 o1 o0)=let c':=(length v10:Int);let d':=zk 0 (toNat v14);let k':=zx (zB none v11n) (toNat v14);let p':=zc .i64 (v14+v12)+1;let a':=toNat (zc .i64 (c'-1));let g':=zc .i64 p';let h':=zk (toNat c') d';let l':=decide (zk (toNat c') d'<length o0);let n':=decide (0≤zc .i64 (c'-1));let b':=zx (toNat g') (toNat v14);let e':=n'&&decide (zc .i64 (c'-1)<c');let f':=getD o0 (zk a' d') 0;let j':=getD v10 a' 0;let o':=decide (zk a' d'<length o0);let q':=getD o0 h' 0;let i':=n'&&decide (zc .i64 (c'-1)<(↑b':Int));let m':=decide (0≤c')&&decide (c'<(↑b':Int));.ite (decide (v14≥0)) (.ite (decide (0≤v14)&&decide (0≤zc .i64 p')&&true&&decide (toNat v14≤toNat g')&&decide (toNat g'≤zB none v11n)&&decide (zB none v11n≤zB none v11n)&&true) (.ite m' (.ite l' (.ite e' (.ite (decide (getD o0 h' 0≥getD v10 a' 0)) (.ite i' (.ite o' (.ite e' (.ite (zr f'&&zr j'&&decide ((0:ya (Bb [u64]))≤0)&&decide (0≤(1:ya (Bb [u64])))) (L5 v9 v10 v11n v12 v13n v14 o1 o0 d' b' k' v10 (c') 18446744073709551615 (F6 f' j' 0) (Mz f' j' 0) o1 o0) .fail) .fail) .fail) .fail) (.ite m' (.ite l' (.ite i' (.ite o' (.ite e' (.ite (zr q'&&zr f'&&zr j'&&decide (getD o0 h' 0<getD v10 a' 0)) (L5 v9 v10 v11n v12 v13n v14 o1 o0 d' b' k' v10 (c') (Sp.dq q' f' j') (Sp.dr q' f' j') 0 o1 o0) .fail) .fail) .fail) .fail) .fail) .fail)) .fail) .fail) .fail) .fail) (L6 v9 v11n v12 v13n v12 0 o1 o0):=by kernel_rfl
def L7(v9:Int)(v10:List Int)(v11n:Nat)(v12:Int)(v13n:Nat)(v14:Int)(o1 o0:List Int)(v0o v0n v0c:Nat)(v1:List Int)(v5 v6 v11:Int)(v12':Int)(v104 v105:Int)(o1':List Int)(o0':List Int):Tr:=re ((stepT Hd (L5 v9 v10 v11n v12 v13n v14 o1 o0 0 0 0 [] 0 0 0 0 [] [])).L.L.L.L) (AB 186 [(0,.sl 0 1 v0o v0n (Option.some v0c)),(1,.dat (ze (zj zd)) v1),(5,.dat i64 v5),(6,.dat (zj zd) v6),(11,.dat (zj zd) v11),(12,.dat (zj zd) v12'),(104,.dat i64 v104),(105,.dat i64 v105)] [(1,.arr false 111 (zj zd) o1'),(0,.arr false 111 (zj zd) o0')] 2)
theorem Dk(v9:Int)(v10:List Int)(v11n:Nat)(v12:Int)(v13n:Nat)(v14:Int)(o1 o0:List Int)(v0o v0n v0c:Nat)(v1:List Int)(v5 v6 v7 v8:Int)(o1':List Int)(o0':List Int):stepT Hd (L5 v9 v10 v11n v12 v13n v14 o1 o0 v0o v0n v0c v1 v5 v6 v7 v8 o1' o0')=let b':=toNat (zc .i64 (v5-2));let c':=L7 v9 v10 v11n v12 v13n v14 o1 o0 v0o v0n v0c v1 v5 v6 0 0 v5 0 o1' o0';let d':=getD v1 (toNat (zc .i64 (v5-1))) 0;let f':=decide (0≤zc .i64 (v5-2));let a':Tr:=.ite (decide (0≤zc .i64 (v5-1))&&decide (zc .i64 (v5-1)<(length v1:Int))) (.ite (zr v7&&zr d'&&decide ((0:ya (Bb [u64]))≤0)&&decide (0≤(1:ya (Bb [u64])))) (L5 v9 v10 v11n v12 v13n v14 o1 o0 v0o v0n v0c v1 v5 (zc .u64 (v6-1)) (F6 v7 d' 0) (Mz v7 d' 0) o1' o0') .fail) .fail;let e':=getD v1 b' 0;.ite (v8==0) (.ite (f'&&decide (zc .i64 (v5-2)<(length v1:Int))) (.ite (zr v6&&zr e') (.ite (decide (NN v6 e'<v7)) c' (.ite (NN v6 e'==v7) (.ite (f'&&decide (zc .i64 (v5-2)<(↑v0n:Int))) (.ite (decide (zk b' v0o<length o0')) (.ite (decide (Gf v6 e'≤getD o0' (zk b' v0o) 0)) c' a') .fail) .fail) a')) .fail) .fail) c':=by kernel_rfl
theorem HC(v9:Int)(v11n:Nat)(v12:Int)(v13n:Nat)(v96 v97:Int)(o1 o0:List Int):stepT Hd (L6 v9 v11n v12 v13n v96 v97 o1 o0)=let a':=set o0 (toNat v97) (Int.fdiv (getD o0 (toNat v97) 0) (2^zZ (toNat v9) 64));let b':=decide (0≤v97)&&decide (v97<(↑v11n:Int));let c':=zc .i64 (v97+1);let d':=zj zd;let e':=decide (zc .i64 (v97+1)<(↑v11n:Int));let g':=decide (toNat v97<length o0);let f':=L6 v9 v11n v12 v13n v96 c' o1 a';let h':=decide (toNat v97<length a');.ite (decide (v97<v96)) (.ite b' (.ite g' (.ite (decide (0≤v9)) (.ite b' (.ite g' (.ite (decide (v9>0)) (.ite (e') (.ite b' (.ite h' (.ite (decide (0≤zc .i64 (v97+1))&&e') (.ite (decide (toNat c'<length a')) (.ite (decide (0≤zc .i64 (64-v9))) (.ite b' (.ite h' (L6 v9 v11n v12 v13n v96 c' o1 (set a' (toNat v97) (TV zd (getD a' (toNat v97) 0) (zc .u64 (getD a' (toNat c') 0*2^zZ (toNat (zc .i64 (64-v9))) 64))))) .fail) .fail) .fail) .fail) .fail) .fail) .fail) f') f') .fail) .fail) .fail) .fail) .fail) (.ite (decide (0≤v12)&&true&&decide (0≤toNat v12)&&decide (toNat v12≤zB none v11n)&&decide (zB none v11n≤zB none v11n)&&true) (.ite (decide (0+v13n≤length o1)&&true&&B2 (take v13n o1)) (.ite (decide (0+toNat v12≤length o0)&&true&&B2 (take (toNat v12) o0)) (.leaf (.tup [.dat (ze d') (Ax (take v13n o1)),.dat (ze d') (Ax (take (toNat v12) o0))]) ([(1,.arr true 111 d' o1),(0,.arr true 111 d' o0)])) .fail) .fail) .fail):=by kernel_rfl
def L8(v9:Int)(v10:List Int)(v11n:Nat)(v12:Int)(v13n:Nat)(v14:Int)(o1 o0:List Int)(v0o v0n v0c:Nat)(v1:List Int)(v5 v6 v17 v156 v157:Int)(o1':List Int)(o0':List Int):Tr:=re ((stepT Hd (L7 v9 v10 v11n v12 v13n v14 o1 o0 0 0 0 [] 0 0 0 0 0 0 [] [])).R.L.L.L.L.L.R) (AB 186 [(0,.sl 0 1 v0o v0n (Option.some v0c)),(1,.dat (ze (zj zd)) v1),(5,.dat i64 v5),(6,.dat (zj zd) v6),(17,.dat (zj zd) v17),(156,.dat i64 v156),(157,.dat i64 v157)] [(1,.arr false 111 (zj zd) o1'),(0,.arr false 111 (zj zd) o0')] 2)
theorem Dj(v9:Int)(v10:List Int)(v11n:Nat)(v12:Int)(v13n:Nat)(v14:Int)(o1 o0:List Int)(v0o v0n v0c:Nat)(v1:List Int)(v5 v6 v11:Int)(v12':Int)(v104 v105:Int)(o1':List Int)(o0':List Int):stepT Hd (L7 v9 v10 v11n v12 v13n v14 o1 o0 v0o v0n v0c v1 v5 v6 v11 v12' v104 v105 o1' o0')=let b':=zk (toNat v5) v0o;let d':=getD v1 (toNat v105) 0;let e':=decide (zk (toNat v105) v0o<length o0');let g':=decide (zk (toNat v5) v0o<length o0');let h':=decide (0≤v105)&&decide (v105<(↑v0n:Int));let i':=(0:ya (Bb [u64]));let j':=(1:ya (Bb [u64]));let k':=decide (0≤v5)&&decide (v5<(↑v0n:Int));let n':=zk (toNat v105) v0o;let a':=Gf v6 d';let c':=getD o0' n' 0;let m':=getD o0' b' 0;let f':=set o0' b' (Pd m' v12' v11);let l':=F6 a' v12' 0;.ite (decide (v105<v104)) (.ite (decide (0≤v105)&&decide (v105<(length v1:Int))) (.ite (zr v6&&zr d') (.ite (zr a'&&zr v12'&&decide (i'≤0)&&decide (0≤j')) (.ite h' (.ite e' (.ite (zr c'&&zr l'&&decide (i'≤v11)&&decide (v11≤j')) (.ite h' (.ite e' (L7 v9 v10 v11n v12 v13n v14 o1 o0 v0o v0n v0c v1 v5 v6 (MM c' l' v11) (zc .u64 (NN v6 d'+Mz a' v12' 0)) v104 (zc .i64 (v105+1)) o1' (set o0' n' (Pd c' l' v11))) .fail) .fail) .fail) .fail) .fail) .fail) .fail) .fail) (.ite k' (.ite g' (.ite (zr m'&&zr v12'&&decide (i'≤v11)&&decide (v11≤j')) (.ite k' (.ite g' (.ite (MM m' v12' v11==0) (.ite (decide (0≤v14)&&decide (v14<(↑v13n:Int))) (.ite (decide (toNat v14<length o1')) (L4 v9 v10 v11n v12 v13n (zc .i64 (v14-1)) (set o1' (toNat v14) v6) f') .fail) .fail) (L8 v9 v10 v11n v12 v13n v14 o1 o0 v0o v0n v0c v1 v5 v6 0 v5 0 o1' f')) .fail) .fail) .fail) .fail) .fail):=by kernel_rfl
theorem J6(v9:Int)(v10:List Int)(v11n:Nat)(v12:Int)(v13n:Nat)(v14:Int)(o1 o0:List Int)(v0o v0n v0c:Nat)(v1:List Int)(v5 v6 v17 v156 v157:Int)(o1':List Int)(o0':List Int):stepT Hd (L8 v9 v10 v11n v12 v13n v14 o1 o0 v0o v0n v0c v1 v5 v6 v17 v156 v157 o1' o0')=let b':=decide (zk (toNat v157) v0o<length o0');let c':=getD v1 (toNat v157) 0;let d':=decide (zk (toNat v5) v0o<length o0');let e':=decide (0≤v157)&&decide (v157<(↑v0n:Int));let f':=decide (0≤v5)&&decide (v5<(↑v0n:Int));let g':=zk (toNat v157) v0o;let h':=zk (toNat v5) v0o;let a':=getD o0' g' 0;.ite (decide (v157<v156)) (.ite e' (.ite b' (.ite (decide (0≤v157)&&decide (v157<(length v1:Int))) (.ite (zr a'&&zr c'&&decide ((0:ya (Bb [u64]))≤v17)&&decide (v17≤(1:ya (Bb [u64])))) (.ite e' (.ite b' (L8 v9 v10 v11n v12 v13n v14 o1 o0 v0o v0n v0c v1 v5 v6 (Mz a' c' v17) v156 (zc .i64 (v157+1)) o1' (set o0' g' (F6 a' c' v17))) .fail) .fail) .fail) .fail) .fail) .fail) (.ite f' (.ite d' (.ite f' (.ite d' (.ite (decide (0≤v14)&&decide (v14<(↑v13n:Int))) (.ite (decide (toNat v14<length o1')) (L4 v9 v10 v11n v12 v13n (zc .i64 (v14-1)) (set o1' (toNat v14) (zc .u64 (v6-1))) (set o0' h' (zc .u64 (getD o0' h' 0+v17)))) .fail) .fail) .fail) .fail) .fail) .fail):=by kernel_rfl
end T147
end
end Go.Pe
end
section
namespace Go.Pe
open Sp
open Go.Det
namespace T147
variable {Q:PV→Ob→Prop}
theorem fM{r x d:Int}(hd:0<d)(hr:0≤r∧r<d)(hx:0≤x∧x<18446744073709551616):Sp.dq r x d*d+Sp.dr r x d=r*18446744073709551616+x∧0≤Sp.dq r x d∧Sp.dq r x d<18446744073709551616∧0≤Sp.dr r x d∧Sp.dr r x d<d:=by
 unfold Sp.dq Sp.dr;have h:=zN (r*18446744073709551616+x) d;rw[zp]at h;refine⟨h,Int.ediv_nonneg (by omega) (by omega),Int.ediv_lt_of_lt_mul hd (by omega),Int.emod_nonneg _ (by omega),Int.emod_lt_of_pos _ hd⟩
theorem Aq(a:List Int)(d:Int)(ha:As Aj a)(hd:0<d∧d<18446744073709551616)(hm:a.length≤20000)(hq:∀q r ob,As Aj q→(0≤r∧r<d)→Ai a=Ai q*d+r→Q (.tup [.dat Cp (Ax q),.dat Cp (Ax [r])]) ob):∀(i:Nat) (q:List Int) (r:Int),i+q.length=a.length→As Aj q→(0≤r∧r<d)→zf Aj (a.drop i)=zf Aj q*d+r→
  Ends Hd (L1 a [d] a.length r ((i:Int)-1) (zz i 0++q)) Q
 |0,q,r,hl,hdq,hr,he=>by
  have ht:((zz 0 0++q).take a.length)=q:=by
   rw[List.replicate_zero,List.nil_append];exact zG (by omega)
  refine zU (Ap ..) (Ends.ff (by simp) ?_);rw[ht];refine zi (Am (by simp;omega) (Da (by omega) hdq)) (zi (Am rfl (Da (by simp) (fun x hx=>by rw[List.mem_singleton]at hx;subst hx;exact⟨hr.1,by show x<18446744073709551616;omega⟩))) (Ends.leaf (hq q r _ hdq hr he)))
 |i+1,q,r,hl,hdq,hr,he=>by
  have e1:(((i+1:Nat):Int)-1)=(i:Int):=by omega
  have gx:=AI ha i;obtain⟨d1,d2,d3,d4,d5⟩:=fM hd.1 hr (zR gx);have da:a.drop i=a.getD i 0::a.drop (i+1):=by
   rw[zt,zK (by omega)];exact zT (by omega)
  have es:∀x,(zz (i+1) (0:Int)++q).set i x=zz i 0++(x::q):=by
   intro x;rw[List.replicate_succ',List.append_assoc];exact BT _ _ _ _ (by simp)
  rw[e1];refine zU (Ap ..) (zi (by simp) ?_);rw[zo,es,wr ((i:Int)-1) (by omega) (by omega)];refine zi (by simp;omega) (zi (by simp) (zi ?_ (zi (by simp;omega) (zi (by simp;omega) ?_))))
  ·exact Am (Am (Am (BV hr.1 (by omega)) gx) (BV (by show 0≤d;omega) hd.2)) (decide_eq_true hr.2)
  ·refine Aq a d ha hd hm hq i _ _ (by simp;omega) (fun x hx=>?_) ⟨d4,d5⟩ ?_
   ·rcases List.mem_cons.1 hx with rfl|hx
    ·exact⟨d2,d3⟩
    ·exact hdq x hx
   ·rw[da];show a.getD i 0+(18446744073709551616:Int)*zf Aj (a.drop (i+1))=(Sp.dq r (a.getD i 0) d+(18446744073709551616:Int)*zf Aj q)*d+Sp.dr r (a.getD i 0) d;rw[he,zw,zq,zn];omega
end T147
end Go.Pe
end
section
namespace Go.Sp
theorem P7{B P u0 u1 u2 u' v1 v2 v' q r:Int}(hP:0<P)(hv:0≤v')(hu:u'<P)(hq:0≤q)(he:q*v1+r=u0*B+u1)(h:r*B+u2<q*v2):
  ((u0*B+u1)*B+u2)*P+u'<q*((v1*B+v2)*P+v'):=by
 have e:q*(v1*B+v2)=q*v1*B+q*v2:=by rw[zq,zn]
 have e2:(u0*B+u1)*B=q*v1*B+r*B:=by rw[←he,zw]
 have h1:(u0*B+u1)*B+u2+1≤q*(v1*B+v2):=by rw[e,e2];omega
 have h2:=zm h1 (zD hP);have h3:0≤q*v':=zI hq hv;rw[zq q, ←zn];rw[zw,zC]at h2;omega
theorem Pt{B P u0 u1 u2 u' v1 v2 v' q r:Int}(hP:0<P)(hv:0≤v'∧v'<P)(hu:0≤u')(hq:0≤q∧q<B)(hv1:1≤v1)(hv2:0≤v2)(he:q*v1+r=u0*B+u1)(h:q*v2≤r*B+u2):
  q*((v1*B+v2)*P+v')<((u0*B+u1)*B+u2)*P+u'+((v1*B+v2)*P+v'):=by
 have e:q*(v1*B+v2)=q*v1*B+q*v2:=by rw[zq,zn]
 have e2:(u0*B+u1)*B=q*v1*B+r*B:=by rw[←he,zw]
 have h1:q*(v1*B+v2)≤(u0*B+u1)*B+u2:=by rw[e,e2];omega
 have h2:=zm h1 (zD hP);have h3:q*v'≤(B-1)*P:=Int.le_trans (zA (zD hv.2) hq.1) (zm (by omega) (zD hP));have h4:B≤v1*B+v2:=by
  have:=zm hv1 (show 0≤B by omega);omega
 have h5:=zm h4 (zD hP);rw[zX,zC]at h3;rw[zq q, ←zn];omega
end Go.Sp
end
section
namespace Go.Sp
theorem Fu(b:Int):∀(l:List Int) (i:Nat) (x:Int),i<l.length→val b (l.set i x)=val b l+b^i*(x-l.getD i 0)
 |[],i,x,h=>by simp at h
 |d::l,0,x,_=>by
  show x+b*val b l=d+b*val b l+b^0*(x-d);rw[Int.pow_zero,zC];omega
 |d::l,i+1,x,h=>by
  have:=Fu b l i x (by simpa using h);show d+b*val b (l.set i x)=d+b*val b l+b^(i+1)*(x-l.getD i 0);rw[this,zq,zM,zp (b^i) b,zn,Int.add_assoc]
theorem E1{b:Int}{l:List Int}(h:As b l)(i:Nat){x:Int}(hx:0≤x∧x<b):As b (l.set i x):=by
 intro d hd;rcases List.mem_or_eq_of_mem_set hd with hd|rfl
 ·exact h d hd
 ·exact hx
theorem DA{b:Int}{l r:List Int}(h1:As b l)(h2:As b r):As b (l++r):=by
 intro d hd;rcases zW.1 hd with hd|hd
 ·exact h1 d hd
 ·exact h2 d hd
theorem K1{b:Int}(hb:0<b){l:List Int}(h:As b l)(i:Nat):0≤l.getD i 0∧l.getD i 0<b:=by
 rcases Nat.lt_or_ge i l.length with hi|hi
 ·have:l.getD i 0∈l:=by rw[zt,zK hi];exact List.getElem_mem hi
  exact h _ this
 ·rw[zt,List.getElem?_eq_none hi];exact⟨Int.le_refl _,hb⟩
theorem BX{l:List Int}{i:Nat}(h:i<l.length):l.drop i=l.getD i 0::l.drop (i+1):=by
 rw[zt,zK h];exact zT h
theorem E7(p r:List Int)(i j:Nat)(h:p.length=j):(p++r).getD (i+j) 0=r.getD i 0:=by
 subst h;rw[zt,zt,List.getElem?_append_right (by omega),Nat.add_sub_cancel]
theorem OG(p r:List Int)(i j:Nat)(x:Int)(h:p.length=j):(p++r).set (i+j) x=p++r.set i x:=by
 subst h;rw[List.set_append_right _ _ (by omega),Nat.add_sub_cancel]
theorem Yk(b:Int)(r:List Int)(k:Nat)(hl:k+3≤r.length)(hz:val b (r.drop (k+3))=0):
  val b r=((r.getD (k+2) 0*b+r.getD (k+1) 0)*b+r.getD k 0)*b^k+val b (r.take k):=by
 have p1:b^(k+1)=b^k*b:=zM ..;have p2:b^(k+2)=b^k*b*b:=by rw[←p1];exact zM ..
 rw[BI b r (k+3) hl,hz,Av,Av,Av,p1,p2,z6,z7];generalize b^k=P;generalize r.getD (k+2) 0=x;generalize r.getD (k+1) 0=y;generalize r.getD k 0=z;have e1:P*b*b*x=x*b*b*P:=by rw[zp (P*b*b) x,zp P b,zn b P b,zp P b, ←zn, ←zn]
 have e2:P*b*y=y*b*P:=by rw[zp (P*b) y,zp P b,zn]
 have e3:P*z=z*P:=zp _ _;have e4:((x*b+y)*b+z)*P=x*b*b*P+y*b*P+z*P:=by rw[zw,zw,zw]
 rw[e4];omega
theorem YX(b:Int)(v:List Int)(k:Nat)(hl:v.length=k+2):
  val b v=(v.getD (k+1) 0*b+v.getD k 0)*b^k+val b (v.take k):=by
 have h0:val b (v.drop (k+2))=0:=by rw[List.drop_eq_nil_of_le (by omega)];rfl
 have p1:b^(k+1)=b^k*b:=zM ..;rw[BI b v (k+2) (by omega),h0,Av,Av,p1,z6,z7];generalize b^k=P;generalize v.getD (k+1) 0=y;generalize v.getD k 0=z;have e2:P*b*y=y*b*P:=by rw[zp (P*b) y,zp P b,zn]
 have e3:P*z=z*P:=zp _ _;rw[e2,e3,zw];omega
theorem WC{b:Int}(hb:2≤b){v:List Int}(hd:As b v)(hn:nz v){k:Nat}(h1:b^k≤val b v)(h2:val b v<b^(k+1)):v.length=k+1:=by
 have hp:=AK (show 0<b by omega) k;have hne:v≠[]:=by rintro rfl;simp[val]at h1;omega
 have a1:=Bi (by omega) hd;have a2:=Cn (by omega) hd hn hne;rcases Nat.lt_trichotomy v.length (k+1)with h|h|h
 ·have:=AN (show 1≤b by omega) (show v.length≤k by omega);omega
 ·exact h
 ·have:=AN (show 1≤b by omega) (show k+1≤v.length-1 by omega);omega
theorem G0{b:Int}(hb:2≤b){r:List Int}(hd:As b r){n:Nat}(hl:n≤r.length)(h:val b r<b^n):val b (r.drop n)=0:=by
 have h0:=Au (show 0≤b by omega) (EX hd n);have h1:=Au (show 0≤b by omega) (AE hd n);rw[BI b r n hl]at h;have hp:=AK (show 0<b by omega) n;rcases z8 0 (val b (r.drop n))with g|g
 ·have:=zA (show 1≤val b (r.drop n)by omega) (show 0≤b^n by omega);omega
 ·omega
theorem Nn{b:Int}(hb:2≤b){r:List Int}(hd:As b r){n:Nat}(hl:n≤r.length)(h:val b (r.drop n)=0):val b r<b^n:=by
 have:=Bi (show 0<b by omega) (AE hd n);rw[zJ,zS hl]at this;rw[BI b r n hl,h];omega
theorem VJ{b c d x y X:Int}(hc:0<c)(hb:b=c*d):(x+b*(y+b*X))/c=(x/c+(y % c)*d)+b*((y+b*X)/c):=by
 subst hb;have h1:(x+c*d*(y+c*d*X))/c=x/c+d*(y+c*d*X):=by
  rw[zn c d,Int.add_mul_ediv_left _ _ (by omega)]
 have h2:(y+c*d*X)/c=y/c+d*X:=by
  rw[zn c d,Int.add_mul_ediv_left _ _ (by omega)]
 have h3:=zN y c;rw[h1,h2];have e1:d*(y+c*d*X)=d*(c*(y/c)+y % c+c*d*X):=by rw[h3]
 rw[e1,zq,zq,zq (c*d)];have e2:d*(c*(y/c))=c*d*(y/c):=by rw[←zn,zp d c]
 have e3:d*(y % c)=(y % c)*d:=zp _ _;have e4:d*(c*d*X)=c*d*(d*X):=by rw[←zn,zp d (c*d),zn]
 rw[e2,e3,e4];omega
theorem Qw{b c d x k:Int}(hc:0<c)(hd:0<d)(hb:b=c*d)(hk:0≤k∧k<c)(hx:0≤x∧x<b):
  (x*c) % b=(x % d)*c∧(x % d)*c+k<b∧0≤(x % d)*c∧0≤x/d∧x/d<c∧(x % d)*c+b*(x/d)=x*c:=by
 subst hb;have h3:=zN x d;have m0:=Int.emod_nonneg x (show d≠0 by omega);have m1:=Int.emod_lt_of_pos x hd;have q0:0≤x/d:=Int.ediv_nonneg hx.1 (by omega);have q1:x/d<c:=Int.ediv_lt_of_lt_mul hd (by have:=hx.2;omega);have p0:0≤(x % d)*c:=zI m0 (by omega);have p1:(x % d)*c≤(d-1)*c:=zm (by omega) (by omega);have p2:(d-1)*c=c*d-c:=by rw[zX,zC,zp]
 have e:(x % d)*c+c*d*(x/d)=x*c:=by
  conv=>rhs;rw[←h3]
  rw[zw,zn c d,zp c (d*(x/d))];omega
 refine⟨?_,by omega,p0,q0,q1,e⟩;rw[←e,Int.add_mul_emod_self_left];exact Int.emod_eq_of_lt p0 (by omega)
end Go.Sp
namespace Go.Sp
theorem JR{B P u0 u1 u2 u' v1 v2 v' q r:Int}(hP:0<P)(hB:0<B)(hq:0≤q)(hv:0≤v')(hv2:0≤v2)(hu:u'<P)(hu2:u2<B)(he:q*v1+r=u0*B+u1)(h:r<v1):
  ((u0*B+u1)*B+u2)*P+u'<(q+1)*((v1*B+v2)*P+v'):=by
 have h1:u0*B+u1+1≤(q+1)*v1:=by rw[zw,zC];omega
 have h2:=zm h1 (zD hB);have h3:(u0*B+u1)*B+u2+1≤(q+1)*v1*B:=by
  rw[zw,zC]at h2;omega
 have h4:=zm h3 (zD hP);rw[zw,zC]at h4;have h5:0≤(q+1)*(v2*P):=zI (by omega) (zI hv2 (zD hP));have h6:0≤(q+1)*v':=zI (by omega) hv;have e:(q+1)*((v1*B+v2)*P+v')=(q+1)*v1*B*P+(q+1)*(v2*P)+(q+1)*v':=by
  rw[zw (v1*B),zq,zq];congr 2;rw[zn,zn,zn]
 rw[e];omega
end Go.Sp
end
section
namespace Go.Pe
open Sp
open Go.Det
theorem PQ{q x y c b:Int}(hq:zr q=true)(hx:zr x=true)(hy:zr y=true)(hc:zr c=true)(hb:0≤b∧b≤1):
  zr (Gf q x)=true∧zr (F6 (Gf q x) c 0)=true∧zc .u64 (NN q x+Mz (Gf q x) c 0)=(q*x+c)/18446744073709551616∧zr ((q*x+c)/18446744073709551616)=true∧
  zr (Pd y (F6 (Gf q x) c 0) b)=true∧(0≤MM y (F6 (Gf q x) c 0) b∧MM y (F6 (Gf q x) c 0) b≤1)∧
  c+b+(Pd y (F6 (Gf q x) c 0) b-y)=18446744073709551616*((q*x+c)/18446744073709551616+MM y (F6 (Gf q x) c 0) b)-q*x:=by
 have hq:=zR hq;have hx:=zR hx;have hc:=zR hc;have h0:0≤q*x:=zI hq.1 hx.1;have h1:q*x≤18446744073709551615*18446744073709551615:=by
  have a:=zA (show x≤18446744073709551615 by omega) hq.1;have b:=zm (show q≤18446744073709551615 by omega) (show(0:Int)≤18446744073709551615 by omega);omega
 have hl:zr (F6 (Gf q x) c 0)=true:=by unfold F6;exact BV (by omega) (by omega)
 obtain⟨s1,s2,s3⟩:=Lq hy hl hb;refine⟨?_,hl,?_,?_,s1,s2,?_⟩
 ·unfold Gf;exact BV (by omega) (by omega)
 ·unfold Gf NN Mz;rw[Ic];generalize q*x=P at*;omega
 ·generalize q*x=P at*;exact BV (by omega) (by omega)
 ·generalize MM y (F6 (Gf q x) c 0) b=h at*;generalize Pd y (F6 (Gf q x) c 0) b=l at*;unfold F6 Gf at s3;generalize q*x=P at*;omega
namespace T147
variable {Q:PV→Ob→Prop}
theorem gw{lo r:List Int}{j:Nat}(h:lo.length=j)(i:Nat):(lo++r).getD (zk i j) 0=r.getD i 0:=E7 lo r i j h
theorem sw{lo r:List Int}{j:Nat}(h:lo.length=j)(i:Nat)(x:Int):(lo++r).set (zk i j) x=lo++r.set i x:=OG lo r i j x h
theorem lw{lo r:List Int}{j i:Nat}(h:lo.length=j)(hi:i<r.length):decide (zk i j<(lo++r).length)=true:=by
 refine decide_eq_true ?_;show i+j<_;rw[List.length_append];omega
theorem Hi(r:List Int)(i n:Nat)(x:Int)(h:i<n):(r.set i x).drop n=r.drop n:=by
 rw[List.drop_set,if_pos h]
theorem BL(v9:Int)(v10:List Int)(v11n:Nat)(v12:Int)(v13n:Nat)(o1 o0:List Int)(v0c:Nat)(v:List Int)(n j:Nat)(lo:List Int)(m:Nat)(q W:Int)(o1':List Int)
  (hn:v.length=n) (hn9:n≤9000) (hm:n+1≤m) (hlo:lo.length=j) (hjv:j<v13n) (hj1:j<o1'.length) (hv:As Aj v) (hq:zr q=true)
  (h0:∀r:List Int,r.length=m→As Aj r→zf Aj (r.drop (n+1))=0→zf Aj r=W-q*zf Aj v→Ends Hd (L4 v9 v10 v11n v12 v13n (zc .i64 ((j:Int)-1)) (o1'.set j q) (lo++r)) Q)
  (h1:∀r:List Int,r.length=m→As Aj r→zf Aj (r.drop (n+1))=0→zf Aj r=W-q*zf Aj v+(Aj:Int)^(n+1)→Ends Hd (L8 v9 v10 v11n v12 v13n j o1 o0 j (n+1) v0c v n q 0 n 0 o1' (lo++r)) Q):
  ∀(k i:Nat) (r:List Int) (b c:Int),i+k=n→r.length=m→As Aj r→zf Aj (r.drop (n+1))=0→zr c=true→(0≤b∧b≤1)→zf Aj r=W-q*zf Aj (v.take i)+(Aj:Int)^i*(c+b)→
   Ends Hd (L7 v9 v10 v11n v12 v13n j o1 o0 j (n+1) v0c v n q b c n i o1' (lo++r)) Q
 |0,i,r,b,c,hi,hr,hd,hz,hc,hb,he=>by
  have hi:i=n:=by omega
  subst hi;have gy:=AI hd i;obtain⟨s1,s2,s3⟩:=Lq gy hc hb;have hlw:decide (zk i j<(lo++r).length)=true:=lw hlo (by omega);have t1:(decide ((0:Int)≤(i:Int))&&decide ((i:Int)<((i+1:Nat):Int)))=true:=by simp;omega
  have hv1:v.take i=v:=zG (by omega);have hset:∀x:Int,0≤x∧x<18446744073709551616→(r.set i x).length=m∧As Aj (r.set i x)∧zf Aj ((r.set i x).drop (i+1))=0:=fun x hx=>
   ⟨by simp[hr],E1 hd i hx,by rw[Hi _ _ _ _ (by omega)];exact hz⟩
  obtain⟨e1,e2,e3⟩:=hset _ (zR s1);have ev:zf Aj (r.set i (Pd (r.getD i 0) c b))=W-q*zf Aj v+(Aj:Int)^(i+1)*MM (r.getD i 0) c b:=by
   rw[Fu _ _ _ _ (by omega),he,hv1,IF,Int.add_assoc, ←zq];congr 2;omega
  refine zU (Dj ..) (Ends.ff (by simp) ?_);rw[zo,zo,gw hlo,sw hlo];refine zi t1 (zi hlw (zi (Am (Am (Am gy hc) (decide_eq_true hb.1)) (decide_eq_true hb.2)) (zi t1 (zi hlw (zY (fun c1=>?_) (fun c1=>?_))))))
  ·have c1:MM (r.getD i 0) c b=0:=by simpa using c1
   refine zi (by simp;omega) (zi (decide_eq_true hj1) (h0 _ e1 e2 e3 ?_));rw[ev,c1,z6,z7]
  ·have c1:MM (r.getD i 0) c b≠0:=by simpa using c1
   refine h1 _ e1 e2 e3 ?_;rw[ev,show MM (r.getD i 0) c b=1 by omega,Int.mul_one]
 |k+1,i,r,b,c,hi,hr,hd,hz,hc,hb,he=>by
  have gx:=AI hv i;have gy:=AI hd i;obtain⟨m1,m2,m3,m4,m5,m6,m7⟩:=PQ hq gx gy hc hb;have hlw:decide (zk i j<(lo++r).length)=true:=lw hlo (by omega);have t1:(decide ((0:Int)≤(i:Int))&&decide ((i:Int)<((n+1:Nat):Int)))=true:=by simp;omega
  have e2:zc .i64 ((i:Int)+1)=((i+1:Nat):Int):=by rw[wr _ (by omega) (by omega)];omega
  refine zU (Dj ..) (zi (by simp;omega) ?_);rw[zo,gw hlo,sw hlo,m3,e2];refine zi (by simp;omega) (zi (Am hq gx) (zi (Am (Am (Am m1 hc) rfl) rfl) (zi t1 (zi hlw (zi (Am (Am (Am gy m2) (decide_eq_true hb.1)) (decide_eq_true hb.2)) (zi t1 (zi hlw ?_)))))));refine BL v9 v10 v11n v12 v13n o1 o0 v0c v n j lo m q W o1' hn hn9 hm hlo hjv hj1 hv hq h0 h1 k (i+1) _ _ _ (by omega) (by simp[hr]) (E1 hd i (zR m5)) (by rw[Hi _ _ _ _ (by omega)];exact hz) m4 m6 ?_;rw[Fu _ _ _ _ (by omega),he,IF,Av,zq q,Int.mul_left_comm q];have e:(Aj:Int)^i*(c+b)+(Aj:Int)^i*(Pd (r.getD i 0) (F6 (Gf q (v.getD i 0)) c 0) b-r.getD i 0)=(Aj:Int)^i*(18446744073709551616*((q*v.getD i 0+c)/18446744073709551616+MM (r.getD i 0) (F6 (Gf q (v.getD i 0)) c 0) b))-(Aj:Int)^i*(q*v.getD i 0):=by
   rw[←zq, ←zV,m7]
  omega
theorem KS(v9:Int)(v10:List Int)(v11n:Nat)(v12:Int)(v13n:Nat)(o1 o0:List Int)(v0c:Nat)(v:List Int)(n j:Nat)(lo:List Int)(m:Nat)(q W:Int)(o1':List Int)
  (hn:v.length=n) (hn9:n≤9000) (hm:n+1≤m) (hlo:lo.length=j) (hjv:j<v13n) (hj1:j<o1'.length) (hv:As Aj v)
  (hW:0≤W+zf Aj v)
  (h0:∀r:List Int,r.length=m→As Aj r→zf Aj (r.drop (n+1))=0→zf Aj r=W+zf Aj v→Ends Hd (L4 v9 v10 v11n v12 v13n (zc .i64 ((j:Int)-1)) (o1'.set j (zc .u64 (q-1))) (lo++r)) Q):
  ∀(k i:Nat) (r:List Int) (c:Int),i+k=n→r.length=m→As Aj r→zf Aj (r.drop (n+1))=0→(0≤c∧c≤1)→zf Aj r=W+(Aj:Int)^(n+1)+zf Aj (v.take i)-(Aj:Int)^i*c→
   Ends Hd (L8 v9 v10 v11n v12 v13n j o1 o0 j (n+1) v0c v n q c n i o1' (lo++r)) Q
 |0,i,r,c,hi,hr,hd,hz,hc,he=>by
  have hi:i=n:=by omega
  subst hi;have gy:=zR (AI hd i);have hlw:decide (zk i j<(lo++r).length)=true:=lw hlo (by omega);have t1:(decide ((0:Int)≤(i:Int))&&decide ((i:Int)<((i+1:Nat):Int)))=true:=by simp;omega
  have hv1:v.take i=v:=zG (by omega);have gm:0≤(r.getD i 0+c) % 18446744073709551616∧(r.getD i 0+c) % 18446744073709551616<18446744073709551616:=by omega
  have e1:(r.set i ((r.getD i 0+c) % 18446744073709551616)).length=m:=by simp[hr]
  have e2:As Aj (r.set i ((r.getD i 0+c) % 18446744073709551616)):=E1 hd i gm;have e3:zf Aj ((r.set i ((r.getD i 0+c) % 18446744073709551616)).drop (i+1))=0:=by rw[Hi _ _ _ _ (by omega)];exact hz
  have eb:=Nn (b:=Aj) (by decide) e2 (n:=i+1) (by omega) e3;refine zU (J6 ..) (Ends.ff (by simp) ?_);rw[zo,zo,gw hlo,sw hlo,Ic (r.getD i 0+c)];refine zi t1 (zi hlw (zi t1 (zi hlw (zi (by simp;omega) (zi (decide_eq_true hj1) (h0 _ e1 e2 e3 ?_))))));have hp:=AK (b:=Aj) (by decide) i;rw[Fu _ _ _ _ (by omega),he,hv1]at eb ⊢;rcases show(r.getD i 0+c) % 18446744073709551616=r.getD i 0+c∨(r.getD i 0+c) % 18446744073709551616=r.getD i 0+c-18446744073709551616 by omega with g|g
  ·exfalso;rw[g,show r.getD i 0+c-r.getD i 0=c by omega]at eb;omega
  ·have ep:(Aj:Int)^(i+1)=(Aj:Int)^i*18446744073709551616:=zM ..;rw[g,show r.getD i 0+c-18446744073709551616-r.getD i 0=c-18446744073709551616 by omega,zV,ep];omega
 |k+1,i,r,c,hi,hr,hd,hz,hc,he=>by
  have gx:=AI hv i;have gy:=AI hd i;obtain⟨m1,m2,m3⟩:=Ik gy gx hc;have hlw:decide (zk i j<(lo++r).length)=true:=lw hlo (by omega);have t1:(decide ((0:Int)≤(i:Int))&&decide ((i:Int)<((n+1:Nat):Int)))=true:=by simp;omega
  have e2:zc .i64 ((i:Int)+1)=((i+1:Nat):Int):=by rw[wr _ (by omega) (by omega)];omega
  refine zU (J6 ..) (zi (by simp;omega) ?_);rw[zo,gw hlo,sw hlo,e2];refine zi t1 (zi hlw (zi (by simp;omega) (zi (Am (Am (Am gy gx) (decide_eq_true hc.1)) (decide_eq_true hc.2)) (zi t1 (zi hlw ?_)))));refine KS v9 v10 v11n v12 v13n o1 o0 v0c v n j lo m q W o1' hn hn9 hm hlo hjv hj1 hv hW h0 k (i+1) _ _ (by omega) (by simp[hr]) (E1 hd i (zR m1)) (by rw[Hi _ _ _ _ (by omega)];exact hz) m2 ?_;rw[Fu _ _ _ _ (by omega),he,IF,Av];have e:(Aj:Int)^i*(F6 (r.getD i 0) (v.getD i 0) c-r.getD i 0)-(Aj:Int)^i*c=(Aj:Int)^i*v.getD i 0-(Aj:Int)^i*(18446744073709551616*Mz (r.getD i 0) (v.getD i 0) c):=by
   rw[←zV, ←zV];congr 1;omega
  omega
theorem Ou(v9:Int)(v10:List Int)(v11n:Nat)(v12:Int)(v13n:Nat)(o1 o0:List Int)(v0c:Nat)(v:List Int)(n j:Nat)(lo:List Int)(m:Nat)(r0 o1':List Int)
  (hn:v.length=n) (hn9:n≤9000) (hm:n+1≤m) (hlo:lo.length=j) (hjv:j<v13n) (hj1:j<o1'.length) (hv:As Aj v)
  (hr:r0.length=m) (hd:As Aj r0) (hz:zf Aj (r0.drop (n+1))=0)
  (hfin:∀(q:Int) (r:List Int),r.length=m→As Aj r→(0≤q∧q<18446744073709551616)→zf Aj r<zf Aj v→zf Aj r=zf Aj r0-q*zf Aj v→Ends Hd (L4 v9 v10 v11n v12 v13n (zc .i64 ((j:Int)-1)) (o1'.set j q) (lo++r)) Q)
  (q:Int) (hq:zr q=true) (h1:zf Aj r0<(q+1)*zf Aj v) (h2:q*zf Aj v<zf Aj r0+zf Aj v):
  Ends Hd (L7 v9 v10 v11n v12 v13n j o1 o0 j (n+1) v0c v n q 0 0 n 0 o1' (lo++r0)) Q:=by
 have gq:=zR hq;have hW0:=Au (b:=Aj) (by decide) hd;have hV0:=Au (b:=Aj) (by decide) hv;rw[zw,zC]at h1;refine BL v9 v10 v11n v12 v13n o1 o0 v0c v n j lo m q (zf Aj r0) o1' hn hn9 hm hlo hjv hj1 hv hq (fun r a b c d=>hfin q r a b gq (by omega) d) (fun r a b c d=>?_) n 0 r0 0 0 (by omega) hr hd hz (by decide) (by decide) (by simp[zf]);have hb:=Nn (b:=Aj) (by decide) b (n:=n+1) (by omega) c;have hq1:1≤q:=by
  rcases z8 0 q with g|g
  ·exact g
  ·have:q=0:=by omega
   subst this;rw[Int.zero_mul]at d;omega
 have ew:zc .u64 (q-1)=q-1:=wu _ (by omega) (by omega);refine KS v9 v10 v11n v12 v13n o1 o0 v0c v n j lo m q (zf Aj r0-q*zf Aj v) o1' hn hn9 hm hlo hjv hj1 hv (by omega) (fun r' a' b' c' d'=>?_) n 0 r 0 (by omega) a b c (by decide) (by rw[d];simp[zf]);rw[ew];refine hfin (q-1) r' a' b' (by omega) (by omega) ?_;rw[d',zX,zC];omega
end T147
end Go.Pe
end
section
namespace Go.Pe
open Sp
open Go.Det
namespace T147
variable {Q:PV→Ob→Prop}
theorem eB(q x:Int):NN q x*18446744073709551616+Gf q x=q*x∧0≤Gf q x∧Gf q x<18446744073709551616:=by
 unfold NN Gf;generalize q*x=P;omega
theorem BK(v9:Int)(v10:List Int)(v11n:Nat)(v12:Int)(v13n:Nat)(o1 o0:List Int)(v0c:Nat)(v:List Int)(k j:Nat)(lo:List Int)(m:Nat)(r0 o1':List Int)
  (hn:v.length=k+2) (hn9:k+2≤9000) (hm:k+3≤m) (hlo:lo.length=j) (hjv:j<v13n) (hj1:j<o1'.length) (hv:As Aj v)
  (hr:r0.length=m) (hd:As Aj r0) (hz:zf Aj (r0.drop (k+3))=0) (hv1:1≤v.getD (k+1) 0)
  (hfin:∀(q:Int) (r:List Int),r.length=m→As Aj r→(0≤q∧q<18446744073709551616)→zf Aj r<zf Aj v→zf Aj r=zf Aj r0-q*zf Aj v→Ends Hd (L4 v9 v10 v11n v12 v13n (zc .i64 ((j:Int)-1)) (o1'.set j q) (lo++r)) Q):
  ∀(f:Nat) (q r o:Int),0≤q→q<f→q<18446744073709551616→zr r=true→(o=0∨o=1)→q*v.getD (k+1) 0+(r+18446744073709551616*o)=r0.getD (k+2) 0*18446744073709551616+r0.getD (k+1) 0→zf Aj r0<(q+1)*zf Aj v→
   Ends Hd (L5 v9 v10 v11n v12 v13n j o1 o0 j (k+3) v0c v ((k+2:Nat):Int) q r o o1' (lo++r0)) Q
 |0,q,r,o,h0,hf,_,_,_,_,_=>by omega
 |f+1,q,r,o,h0,hf,hB,hr64,ho,he,hup=>by
  have uq:zr q=true:=BV h0 hB;have uv2:=AI hv k;have uv1:=AI hv (k+1);have uu2:=AI hd k;have gv2:=zR uv2;have gv1:=zR uv1;have gu2:=zR uu2;have gr:=zR hr64;have hP:=AK (b:=Aj) (by decide) k;have hW:=Yk Aj r0 k (by omega) hz;have hV:=YX Aj v k hn;have hu':=Au (b:=Aj) (by decide) (AE hd k);have hu'':=Bi (b:=Aj) (by decide) (AE hd k);have hv':=Au (b:=Aj) (by decide) (AE hv k);have hv'':=Bi (b:=Aj) (by decide) (AE hv k);rw[zJ,zS (by omega)]at hu'' hv'';have exit:q*v.getD k 0≤(r+18446744073709551616*o)*18446744073709551616+r0.getD k 0→Ends Hd (L7 v9 v10 v11n v12 v13n j o1 o0 j (k+3) v0c v ((k+2:Nat):Int) q 0 0 ((k+2:Nat):Int) 0 o1' (lo++r0)) Q:=by
   intro hx;refine Ou v9 v10 v11n v12 v13n o1 o0 v0c v (k+2) j lo m r0 o1' hn hn9 hm hlo hjv hj1 hv hr hd hz hfin q uq hup ?_;rw[hW,hV];exact Pt hP ⟨hv',hv''⟩ hu' ⟨h0,hB⟩ hv1 gv2.1 he hx
  have e1:zc .i64 (((k+2:Nat):Int)-2)=(k:Int):=by rw[wr _ (by omega) (by omega)];omega
  have e2:zc .i64 (((k+2:Nat):Int)-1)=((k+1:Nat):Int):=by rw[wr _ (by omega) (by omega)];omega
  obtain⟨w1,w2,w3⟩:=eB q (v.getD k 0);have hlw:decide (zk k j<(lo++r0).length)=true:=lw hlo (by omega);refine zU (Dk ..) (zY (fun c=>?_) (fun c=>?_))
  ·have c:o=0:=by simpa using c
   subst c;rw[e1,e2,zo,zo,gw hlo];refine zi (by simp;omega) (zi (Am uq uv2) ?_);have dec:r*18446744073709551616+r0.getD k 0<q*v.getD k 0→Ends Hd (L5 v9 v10 v11n v12 v13n j o1 o0 j (k+3) v0c v ((k+2:Nat):Int) (zc .u64 (q-1)) (F6 r (v.getD (k+1) 0) 0) (Mz r (v.getD (k+1) 0) 0) o1' (lo++r0)) Q:=by
    intro hx;obtain⟨a1,a2,a3⟩:=Ik hr64 uv1 (c:=0) (by decide);have hq1:1≤q:=by
     rcases z8 0 q with g|g
     ·exact g
     ·have:q=0:=by omega
      subst this;rw[Int.zero_mul]at hx;omega
    rw[wu (q-1) (by omega) (by omega)];refine BK v9 v10 v11n v12 v13n o1 o0 v0c v k j lo m r0 o1' hn hn9 hm hlo hjv hj1 hv hr hd hz hv1 hfin f (q-1) _ _ (by omega) (by omega) (by omega) a1 (by omega) ?_ ?_
    ·rw[zX,zC,a3];omega
    ·have he':q*v.getD (k+1) 0+r=r0.getD (k+2) 0*18446744073709551616+r0.getD (k+1) 0:=by omega
     have:=P7 (B:=Aj) (u0:=r0.getD (k+2) 0) (u1:=r0.getD (k+1) 0) (u2:=r0.getD k 0) hP hv' hu'' h0 (v1:=v.getD (k+1) 0) (v2:=v.getD k 0) (r:=r) he' hx;rw[←hW, ←hV]at this;rw[show q-1+1=q by omega];exact this
   refine zY (fun c1=>exit ?_) (fun c1=>zY (fun c2=>zi (by simp;omega) (zi hlw (zY (fun c3=>exit ?_) (fun c3=>zi (by simp;omega) (zi (Am (Am (Am hr64 uv1) rfl) rfl) (dec ?_)))))) (fun c2=>zi (by simp;omega) (zi (Am (Am (Am hr64 uv1) rfl) rfl) (dec ?_))))
   ·have c1:=of_decide_eq_true c1;omega
   ·have c2:NN q (v.getD k 0)=r:=by simpa using c2
    have c3:=of_decide_eq_true c3;omega
   ·have c2:NN q (v.getD k 0)=r:=by simpa using c2
    have c3:=of_decide_eq_false c3;omega
   ·have c1:=of_decide_eq_false c1;have c2:NN q (v.getD k 0)≠r:=by simpa using c2
    omega
  ·have c:o≠0:=by simpa using c
   refine exit ?_;have a:=zA (show v.getD k 0≤18446744073709551615 by omega) h0;omega
theorem BU(s:Int)(v:List Int)(k la:Nat)(hn:v.length=k+2)(hla:la≤9000)(hkl:k+2≤la)(hv:As Aj v)(hv1:1≤v.getD (k+1) 0)(W0:Int)
  (hq:∀u qs:List Int,u.length=la+1→As Aj u→As Aj qs→zf Aj u<zf Aj v→qs.length=la-(k+2)+1→W0=zf Aj u+zf Aj v*zf Aj qs→Ends Hd (L6 s (la+1) ((k+2:Nat):Int) (la-(k+2)+1) ((k+2:Nat):Int) 0 qs u) Q):
  ∀(t:Nat) (u qs:List Int),t+qs.length=la-(k+2)+1→u.length=la+1→As Aj u→As Aj qs→zf Aj (u.drop t)<zf Aj v→W0=zf Aj u+zf Aj v*((Aj:Int)^t*zf Aj qs)→
   Ends Hd (L4 s v (la+1) ((k+2:Nat):Int) (la-(k+2)+1) ((t:Int)-1) (zz t 0++qs) u) Q
 |0,u,qs,hl,hu,hd,hdq,hlt,he=>by
  refine zU (CG ..) (Ends.ff (by simp) ?_);exact hq u qs hu hd hdq hlt (by omega) (by rw[he,Int.pow_zero,zC])
 |j+1,u,qs,hl,hu,hd,hdq,hlt,he=>by
  obtain⟨lo,r,rfl,hlo⟩:∃lo r:List Int,u=lo++r∧lo.length=j:=⟨u.take j,u.drop j,(List.take_append_drop j u).symm,by rw[zJ];omega⟩;have hdlo:As Aj lo:=fun d hd'=>hd d (zW.2 (.inl hd'))
  have hdr:As Aj r:=fun d hd'=>hd d (zW.2 (.inr hd'))
  have hrl:r.length=la+1-j:=by rw[List.length_append]at hu;omega
  have hdrop:∀z:List Int,(lo++z).drop j=z:=fun z=>by rw[←hlo];exact List.drop_left
  have hr0:r=r.getD 0 0::r.drop 1:=by
   have:=BX (l:=r) (i:=0) (by omega);rw[List.drop_zero]at this;exact this
  have hd1:(lo++r).drop (j+1)=r.drop 1:=by rw[Nat.add_comm j 1,Nat.add_comm 1 j, ←List.drop_drop,hdrop]
  rw[hd1]at hlt;have g0:=K1 (b:=Aj) (by decide) hdr 0;have hvr:zf Aj r=r.getD 0 0+18446744073709551616*zf Aj (r.drop 1):=by
   conv=>lhs;rw[hr0]
   rfl
  have hVlt:=Bi (b:=Aj) (by decide) hv;rw[hn]at hVlt;have g0:0≤r.getD 0 0∧r.getD 0 0<18446744073709551616:=g0;have hrV:zf Aj r<18446744073709551616*zf Aj v:=by rw[hvr];omega
  have hz:zf Aj (r.drop (k+3))=0:=by
   refine G0 (b:=Aj) (by decide) hdr (by omega) ?_;have ep:(Aj:Int)^(k+3)=(Aj:Int)^(k+2)*18446744073709551616:=zM ..;rw[ep];omega
  have uu0:=AI hdr (k+2);have uu1:=AI hdr (k+1);have uu2:=AI hdr k;have uv1:=AI hv (k+1);have gu0:=zR uu0;have gu1:=zR uu1;have gu2:=zR uu2;have gv1:=zR uv1;have gv2:=zR (AI hv k);have hP:=AK (b:=Aj) (by decide) k;have hW:=Yk Aj r k (by omega) hz;have hV:=YX Aj v k hn;have hu':=Au (b:=Aj) (by decide) (AE hdr k);have hu'':=Bi (b:=Aj) (by decide) (AE hdr k);have hv':=Au (b:=Aj) (by decide) (AE hv k);rw[zJ,zS (by omega)]at hu'';have hle:r.getD (k+2) 0≤v.getD (k+1) 0:=by
   have a1:=BI Aj (r.drop 1) (k+1) (by rw[List.length_drop];omega);have a2:(r.drop 1).drop (k+1)=r.getD (k+2) 0::r.drop (k+3):=by
    rw[List.drop_drop,show 1+(k+1)=k+2 by omega];exact BX (by omega)
   have a3:zf Aj (r.getD (k+2) 0::r.drop (k+3))=r.getD (k+2) 0:=by
    show r.getD (k+2) 0+(Aj:Int)*zf Aj (r.drop (k+3))=_;rw[hz];omega
   rw[a2,a3]at a1;have b1:zf Aj v=zf Aj (v.take (k+1))+(Aj:Int)^(k+1)*v.getD (k+1) 0:=by
    rw[←Av,zG (by omega)]
   have b2:=Bi (b:=Aj) (by decide) (AE hv (k+1));rw[zJ,zS (by omega)]at b2;have c1:=Au (b:=Aj) (by decide) (AE (EX hdr 1) (k+1));have c2:(Aj:Int)^(k+1)*r.getD (k+2) 0<(Aj:Int)^(k+1)*(v.getD (k+1) 0+1):=by
    rw[zq,Int.mul_one];omega
   have:=Int.lt_of_mul_lt_mul_left c2 (zD (AK (by decide) (k+1)));omega
  have hfin:∀(q:Int) (r':List Int),r'.length=la+1-j→As Aj r'→(0≤q∧q<18446744073709551616)→zf Aj r'<zf Aj v→zf Aj r'=zf Aj r-q*zf Aj v→Ends Hd (L4 s v (la+1) ((k+2:Nat):Int) (la-(k+2)+1) (zc .i64 ((j:Int)-1)) ((zz (j+1) 0++qs).set j q) (lo++r')) Q:=by
   intro q r' h1 h2 h3 h4 h5;have es:(zz (j+1) (0:Int)++qs).set j q=zz j 0++(q::qs):=by
    rw[List.replicate_succ',List.append_assoc];exact BT _ _ _ _ (by simp)
   rw[es,wr ((j:Int)-1) (by omega) (by omega)];refine BU s v k la hn hla hkl hv hv1 W0 hq j (lo++r') (q::qs) (by simp;omega) (by simp;omega) (DA hdlo h2) (fun d hd'=>?_) (by rw[hdrop];exact h4) ?_
   ·rcases List.mem_cons.1 hd' with rfl|hd'
    ·exact h3
    ·exact hdq d hd'
   ·rw[he,B4,B4,hlo,h5,IF];show zf Aj lo+(Aj:Int)^j*zf Aj r+zf Aj v*((Aj:Int)^j*(18446744073709551616*zf Aj qs))=zf Aj lo+(Aj:Int)^j*(zf Aj r-q*zf Aj v)+zf Aj v*((Aj:Int)^j*(q+18446744073709551616*zf Aj qs));have x1:zf Aj v*((Aj:Int)^j*q)=(Aj:Int)^j*(q*zf Aj v):=by
     rw[Int.mul_left_comm,zp (zf Aj v) q]
    rw[zV,zq ((Aj:Int)^j) q,zq (zf Aj v),x1];omega
  have ez:zk 0 j=j:=Nat.zero_add j;have e0:(((j+1:Nat):Int)-1)=(j:Int):=by omega
  have e1:zc .i64 (zc .i64 ((j:Int)+((k+2:Nat):Int))+1)=((j+(k+3):Nat):Int):=by
   rw[wr ((j:Int)+((k+2:Nat):Int)) (by omega) (by omega),wr _ (by omega) (by omega)];omega
  have e2:zc .i64 (((k+2:Nat):Int)-1)=((k+1:Nat):Int):=by rw[wr _ (by omega) (by omega)];omega
  have e3:zx (j+(k+3)) j=k+3:=by show j+(k+3)-j=_;omega
  have lw1:decide (zk (k+2) j<(lo++r).length)=true:=lw hlo (by omega);have lw2:decide (zk (k+1) j<(lo++r).length)=true:=lw hlo (by omega);rw[e0];refine zU (CG ..) (zi (by simp) ?_);rw[hn,e1,e2,zo,zo,zo,zo,ez,e3,gw hlo,gw hlo];have b1:(decide ((0:Int)≤((k+2:Nat):Int))&&decide (((k+2:Nat):Int)<((k+3:Nat):Int)))=true:=by simp;omega
  have b2:(decide ((0:Int)≤((k+1:Nat):Int))&&decide (((k+1:Nat):Int)<((k+2:Nat):Int)))=true:=by simp;omega
  have b3:(decide ((0:Int)≤((k+1:Nat):Int))&&decide (((k+1:Nat):Int)<((k+3:Nat):Int)))=true:=by simp;omega
  have hjl:j<(zz (j+1) (0:Int)++qs).length:=by simp;omega
  refine zi (by simp;omega) (zi b1 (zi lw1 (zi b2 (zY (fun c=>?_) (fun c=>?_)))))
  ·have c:=of_decide_eq_true c;obtain⟨a1,a2,a3⟩:=Ik uu1 uv1 (c:=0) (by decide);refine zi b3 (zi lw2 (zi b2 (zi (Am (Am (Am uu1 uv1) rfl) rfl) ?_)));refine BK s v (la+1) _ _ _ _ _ v k j lo (la+1-j) r _ hn (by omega) (by omega) hlo (by omega) hjl hv hrl hdr hz hv1 hfin 18446744073709551616 _ _ _ (by decide) (by decide) (by decide) a1 (by omega) ?_ ?_
   ·rw[a3];omega
   ·exact hrV
  ·have c:=of_decide_eq_false c;obtain⟨d1,d2,d3,d4,d5⟩:=fM (r:=r.getD (k+2) 0) (x:=r.getD (k+1) 0) (d:=v.getD (k+1) 0) (by omega) (by omega) gu1;refine zi b1 (zi lw1 (zi b3 (zi lw2 (zi b2 (zi (Am (Am (Am uu0 uu1) uv1) (decide_eq_true (by omega))) ?_)))));refine BK s v (la+1) _ _ _ _ _ v k j lo (la+1-j) r _ hn (by omega) (by omega) hlo (by omega) hjl hv hrl hdr hz hv1 hfin 18446744073709551616 _ _ _ d2 d3 d3 (BV d4 (by omega)) (.inl rfl) ?_ ?_
   ·rw[←d1];omega
   ·rw[hW,hV];exact JR hP (by decide) d2 hv' gv2.1 hu'' gu2.2 d1 d5
end T147
end Go.Pe
end
