import Derived.Test.YtnbinppdjnlhpaaGreatDoorX11
import Derived.Test.YtnbinppdjnlhpaaGreatDoorX10
/- A part of a proof (no law is stated here). Made by program out of texts by AI agents. -/
open Go.IntKind renaming wrap → zc, u64 → zd, u8 → zK, i64 → zR
open Go.Pe.Sh renaming list → ze, bool → zh, int → zi, str → zk, nlist → zy, T → yk
open Go.Sp renaming val → zf, u64 → zu, AW → zL, first → yg
open Go.Pe.Ends renaming tt → zg, Ag → zP, ite → ya
open Int renaming mul_le_mul_of_nonneg_right → zj, toNat_natCast → zl, mul_assoc → zp, mul_comm → zq, mul_add → zr, le_of_lt → zt, mul_le_mul_of_nonneg_left → zx, add_mul → zz, one_mul → zC, tmod → zG, mul_nonneg → zH, pow_succ → zM, mul_ediv_add_emod → zN, ediv_lt_of_lt_mul → zO, add_assoc → zQ, tdiv → zS, pow_pos → zU, emod_nonneg → zV, add_zero → zX, emod_lt_of_pos → zY, fdiv_eq_ediv_of_nonneg → zZ, sub_mul → z6, mul_left_comm → z7, mul_sub → z8, fdiv → z9, mul_zero → yc, ediv_nonneg → ye, pow_zero → yh, lt_or_le → yi, zero_mul → yj
open UInt8 renaming toNat → zm
open Nat renaming add → zn, sub → zA, min_eq_left → zW
open List renaming replicate → zo, getD_eq_getElem?_getD → zw, append_assoc → zD, take_of_length_le → zE, length_take → zI, getElem?_eq_getElem → zJ, map → zT, drop_eq_getElem_cons → z5, mem_append → yf
open Go.Pe.PV renaming agg → zB
open Option renaming getD → zF
open Min renaming min → yb
open BitVec renaming ofInt → yd
section
namespace Go.Pe
open Go.Det
noncomputable section
open List Int Prod
namespace T167
def T(s:List UInt8):Tr:=tree HZ false 9 167 (Af ([zk]) s)
def L1(v0:List UInt8)(v3:Int):Tr:=re ((T [])) (Ar 17 [(0,.dat zk v0),(3,.dat i64 v3)] [] 0)
theorem An(s:List UInt8):T s=L1 s 0:=by kernel_rfl
theorem Ai(v0:List UInt8)(v3:Int):stepT HZ (L1 v0 v3)=let a':=(length v0:Int);.ite (decide (v3<a')) (.ite (decide (0≤v3)&&decide (v3<a')) (.ite ((↑(zm (getD v0 (toNat v3) (0:UInt8))):Int)==47) (.leaf (.dat i64 v3) []) (L1 v0 (zc .i64 (v3+1)))) .fail) (.leaf (.dat i64 a') []):=by kernel_rfl
end T167
namespace T168
def T(s:List UInt8):Tr:=tree HZ false 9 168 (Af ([zk]) s)
def L1(s v0:List UInt8)(v3:Int):Tr:=re ((T s).R.L.L.R) (Ar 20 [(0,.dat zk v0),(3,.dat i64 v3)] [] 0)
def L2(s v0:List UInt8)(v3:Int):Tr:=re ((T s).R.R) (Ar 20 [(0,.dat zk v0),(3,.dat i64 v3)] [] 0)
theorem An(s:List UInt8):T s=let a':=(length s:Int);.ite (a'==0) (.leaf (.bl false) []) (.ite (decide (a'>1)) (.ite (decide (0<a')) (.ite ((↑(zm (getD s 0 (0:UInt8))):Int)==48) (.leaf (.bl false) []) (L1 s s 0)) .fail) (L2 s s 0)):=by kernel_rfl
theorem Ai(s v0:List UInt8)(v3:Int):stepT HZ (L1 s v0 v3)=let a':=decide (v3<(length v0:Int));let b':=(↑(zm (getD v0 (toNat v3) (0:UInt8))):Int);.ite (a') (.ite (decide (0≤v3)&&a') (.ite (decide (b'<48)) (.leaf (.bl false) []) (.ite (decide (0≤v3)&&a') (.ite (decide (b'>57)) (.leaf (.bl false) []) (L1 s v0 (zc .i64 (v3+1)))) .fail)) .fail) (.leaf (.bl true) []):=by kernel_rfl
theorem AM(s v0:List UInt8)(v3:Int):stepT HZ (L2 s v0 v3)=let a':=decide (v3<(length v0:Int));let b':=(↑(zm (getD v0 (toNat v3) (0:UInt8))):Int);.ite (a') (.ite (decide (0≤v3)&&a') (.ite (decide (b'<48)) (.leaf (.bl false) []) (.ite (decide (0≤v3)&&a') (.ite (decide (b'>57)) (.leaf (.bl false) []) (L2 s v0 (zc .i64 (v3+1)))) .fail)) .fail) (.leaf (.bl true) []):=by kernel_rfl
end T168
namespace T208
def T(n:Int):Tr:=tree aK false 9 208 (Af ([zi zR]) n)
def L1(v0:Int)(v4:Bool):Tr:=re ((T 0)) (Ar 25 [(0,.dat i64 v0),(2,.ptr 0 0),(3,.nil),(4,.dat zh v4)] [(0,.box [.bl false,.nil])] 1)
theorem An(n:Int):T n=L1 n (decide (n<0)):=by kernel_rfl
def L2(v0:Int)(v3n:Nat)(v4:Bool)(o1:List Int):Tr:=re ((stepT aK (L1 0 false)).L.L.L.L.L) (Ar 25 [(0,.dat i64 v0),(2,.ptr 0 0),(3,.sl 1 1 0 v3n none),(4,.dat zh v4)] [(1,.arr false 3 i64 o1),(0,.box [.bl false,.nil])] 2)
theorem Ai(v0:Int)(v4:Bool):stepT aK (L1 v0 v4)=let a':=decide (1≤1)&&decide (0<1)&&decide ((2*1+1000)*8≤281474976710656);let b':=zc .i64 (zS v0 1000000000);.ite (v0 !=0) (.ite true (.ite (decide (zG v0 1000000000<0)) (.ite a' (.ite true (L2 b' 1 v4 ([zc .i64 (0-zG v0 1000000000)])) .fail) .fail) (.ite a' (.ite true (L2 b' 1 v4 ([zG v0 1000000000])) .fail) .fail)) .fail) (.ite (decide (0≤20000)) (.leaf (zB [.dat zh (Sp.Ey v4 []),.dat (ze i64) (Sp.Az [])]) ([(0,.box [.dat zh (Sp.Ey v4 []),.dat (ze i64) (Sp.Az [])])])) .fail):=by kernel_rfl
theorem AM(v0:Int)(v3n:Nat)(v4:Bool)(o1:List Int):stepT aK (L2 v0 v3n v4 o1)=let a':=decide (1≤1)&&true&&decide (v3n=length o1)&&decide ((2*(v3n+1)+1000)*8≤281474976710656);let b':=zc .i64 (zS v0 1000000000);let c':=Sp.Ey v4 (take v3n o1);let d':=Sp.Az (take v3n o1);.ite (v0 !=0) (.ite true (.ite (decide (zG v0 1000000000<0)) (.ite a' (.ite true (L2 b' (zn v3n 1) v4 (o1++[zc .i64 (0-zG v0 1000000000)])) .fail) .fail) (.ite a' (.ite true (L2 b' (zn v3n 1) v4 (o1++[zG v0 1000000000])) .fail) .fail)) .fail) (.ite (decide (0+v3n≤length o1)&&true&&decide (length (take v3n o1)≤20000)) (.leaf (zB [.dat zh c',.dat (ze i64) d']) ([(1,.arr true 3 i64 o1),(0,.box [.dat zh c',.dat (ze i64) d'])])) .fail):=by kernel_rfl
end T208
end
end Go.Pe
end
section
namespace Go.Pe
open Sp
open Go.Det
noncomputable section
open List Int Prod
namespace T169
def T(a:List UInt8):Tr:=tree jK false 9 169 (Af ([zk]) a)
theorem An(a:List UInt8):T a=let b':=take (toNat (AS a)) a;let c':=zc .i64 (AS a+1);let a':=take (zA (length a) (toNat c')) (drop (toNat c') a);.ite (decide (length a≤1000000)) (.ite (AS a==(length a:Int)) (.ite (Du a) (.ite true (.leaf (.tup [zB [.dat zh (Ep a),.dat (ze i64) (Eo a)],zB [.dat zh false,.dat (ze i64) (Sp.rW 1)]]) ([(zn 0 1,.box [.dat zh false,.dat (ze i64) (Sp.rW 1)]),(0,.box [.dat zh (Ep a),.dat (ze i64) (Eo a)])])) .fail) .fail) (.ite (decide (0≤AS a)&&decide (0≤toNat (AS a))&&decide (toNat (AS a)≤length a)) (.ite (decide (0≤zc .i64 (AS a+1))&&true&&decide (toNat c'≤length a)&&decide (length a≤length a)) (.ite (Du b') (.ite (Du a') (.leaf (.tup [zB [.dat zh (Ep b'),.dat (ze i64) (Eo b')],zB [.dat zh (Ep a'),.dat (ze i64) (Eo a')]]) ([(zn 0 1,.box [.dat zh (Ep a'),.dat (ze i64) (Eo a')]),(0,.box [.dat zh (Ep b'),.dat (ze i64) (Eo b')])])) .fail) .fail) .fail) .fail)) .fail:=by kernel_rfl
end T169
end
end Go.Pe
end
section
namespace Go.Pe
open Sp
open Go.Det
noncomputable section
open List Int Prod
namespace T128
def T(a:List UInt8):Tr:=tree P5 false 9 128 (Af ([zk]) a)
def L1(v0 v3:List UInt8):Tr:=re ((T []).L.L.L.L) (Ar 96 [(0,.dat zk v0),(3,.dat zk v3)] [] 0)
theorem An(a:List UInt8):T a=.ite (decide ((length a:Int)>0)) (.ite (decide (0<(length a:Int))) (.ite ((↑(zm (getD a 0 (0:UInt8))):Int)==45) (.ite (decide (1≤length a)&&decide (length a≤length a)) (L1 a (take (zA (length a) 1) (drop 1 a))) .fail) (L1 a a)) .fail) (L1 a a):=by kernel_rfl
def L2(v3:List UInt8)(v4:Int):Tr:=re ((stepT P5 (L1 [] [])).L.L.L.R.L.L.L.R) (Ar 96 [(3,.dat zk v3),(4,.dat i64 v4)] [] 0)
theorem Ai(v0 v3:List UInt8):stepT P5 (L1 v0 v3)=let b':=AS v3;let c':Tr:=.leaf (.dat i64 (1:Int)) [];let a':=decide (0≤AS v3)&&decide (0≤toNat b')&&decide (toNat b'≤length v3);.ite (decide (length v3≤1000000)) (.ite a' (.ite (decide (length (take (toNat b') v3)≤1000000)) (.ite (!AV (take (toNat b') v3)) c' (.ite (decide (0<(length v0:Int))) (.ite ((↑(zm (getD v0 0 (0:UInt8))):Int)==45) (.ite a' (.ite (take (toNat b') v3==[(48:UInt8)]) c' (L2 v3 b')) .fail) (L2 v3 b')) .fail)) .fail) .fail) .fail:=by kernel_rfl
def L3(v3:List UInt8)(v4:Int):Tr:=re ((stepT P5 (L2 [] 0)).L.L.L.R.L.R.L.R) (Ar 96 [(3,.dat zk v3),(4,.dat i64 v4)] [] 0)
theorem AM(v3:List UInt8)(v4:Int):stepT P5 (L2 v3 v4)=let d':Tr:=.leaf (.dat i64 (1:Int)) [];let e':=zc .i64 (v4+1);let a':=decide (0≤zc .i64 (v4+1))&&true&&decide (toNat e'≤length v3)&&decide (length v3≤length v3);let b':=toNat e';let c':=zA (length v3) b';.ite (decide (v4<(length v3:Int))) (.ite a' (.ite (decide (length (take c' (drop b' v3))≤1000000)) (.ite (!AV (take c' (drop b' v3))) d' (.ite a' (.ite (take c' (drop b' v3)==[(48:UInt8)]) d' (.ite a' (.ite (take c' (drop b' v3)==[(49:UInt8)]) d' (L3 v3 v4)) .fail)) .fail)) .fail) .fail) (L3 v3 v4):=by kernel_rfl
def L4(v3:List UInt8)(v4:Int):Tr:=re ((stepT P5 (L3 [] 0)).R.R) (Ar 96 [(3,.dat zk v3),(4,.dat i64 v4)] [] 0)
theorem Bm(v3:List UInt8)(v4:Int):stepT P5 (L3 v3 v4)=let a':Tr:=.leaf (.dat i64 (4:Int)) [];.ite (decide (v4>600)) a' (.ite (decide (zc .i64 (zc .i64 ((length v3:Int)-v4)-1)>600)) a' (L4 v3 v4)):=by kernel_rfl
def L5(o1:Bool)(o1_1:List Int)(o0:Bool)(o0_1:List Int):Tr:=re ((stepT P5 (L4 [] 0)).L.L) (Ar 96 [(5,.ptr 0 0),(6,.ptr 1 0)] [(1,.box [.dat zh o1,.dat (ze i64) o1_1]),(0,.box [.dat zh o0,.dat (ze i64) o0_1])] 2)
theorem BB(v3:List UInt8)(v4:Int):stepT P5 (L4 v3 v4)=.ite (decide (v4<(length v3:Int))) (.ite (IU v3) (L5 (Hd v3) (Fv v3) (GO v3) (Fo v3)) .fail) (.leaf (.dat i64 (0:Int)) []):=by kernel_rfl
def L6(v7:List Int):Tr:=re ((stepT P5 (L5 false [] false [])).L) (Ar 96 [(7,.dat (ze i64) v7)] [] 0)
theorem CZ(o1:Bool)(o1_1:List Int)(o0:Bool)(o0_1:List Int):stepT P5 (L5 o1 o1_1 o0 o0_1)=.ite (Cq o0_1&&Cq o1_1&&decide (length o0_1≤9000)&&decide (length o1_1≤9000)) (L6 (KY o0_1 o1_1)) .fail:=by kernel_rfl
theorem DP(v7:List Int):stepT P5 (L6 v7)=let a':Tr:=.leaf (.dat i64 (1:Int)) [];.ite ((length v7:Int) !=1) a' (.ite (decide (0<(length v7:Int))) (.ite (getD v7 0 0 !=1) a' (.leaf (.dat i64 (0:Int)) [])) .fail):=by kernel_rfl
end T128
end
end Go.Pe
end
section
namespace Go.Pe
open Sp
open Go.Det
noncomputable section
open List Int Prod
namespace T179
def T(l:List Int):Tr:=tree HZ false 9 179 (Af ([ze i64]) l)
def L1(v5:List Int)(v6 v7:Int):Tr:=re ((T [])) (Ar 15 [(5,.dat (ze i64) v5),(6,.dat i64 v6),(7,.dat i64 v7)] [] 0)
theorem An(l:List Int):T l=L1 l ((length l:Int)) 0:=by kernel_rfl
theorem Ai(v5:List Int)(v6 v7:Int):stepT HZ (L1 v5 v6 v7)=.ite (decide (v7<v6)) (.ite (decide (0≤v7)&&decide (v7<(length v5:Int))) (.ite (getD v5 (toNat v7) 0 !=0) (.leaf (.dat i64 (getD v5 (toNat v7) 0)) []) (L1 v5 v6 (zc .i64 (v7+1)))) .fail) (.leaf (.dat i64 (0:Int)) []):=by kernel_rfl
end T179
namespace T180
def T(b:Bool)(e:Int):Tr:=tree HZ false 9 180 (Af ([zh,zi zR]) (b,e))
theorem An(b:Bool)(e:Int):T b e=.ite b (.leaf (.dat i64 e) []) (.leaf (.dat i64 (0:Int)) []):=by kernel_rfl
end T180
namespace T136
def T(a:List UInt8):Tr:=tree Jx false 9 136 (Af ([zk]) a)
def L1(v5 v6:List UInt8)(v7:Bool):Tr:=re ((T []).L.L.L.L.L) (Ar 76 [(5,.dat zk v5),(6,.dat zk v6),(7,.dat zh v7),(8,.bl true)] [] 0)
def L2(v5 v6:List UInt8)(v7 v8:Bool):Tr:=re ((T []).L.L.L.L.R) (Ar 76 [(5,.dat zk v5),(6,.dat zk v6),(7,.dat zh v7),(8,.dat zh v8)] [] 0)
def L3(v5 v6:List UInt8)(v7:Bool):Tr:=re ((T []).L.L.L.R) (Ar 76 [(5,.dat zk v5),(6,.dat zk v6),(7,.dat zh v7),(8,.bl false)] [] 0)
theorem An(a:List UInt8):T a=let a':=Ay (A3 a);let b':=Sp.AG (A3 a);let c':=Bw (A3 a);.ite (VK a [(45:UInt8)]) (.ite (dK (A3 a) [(47:UInt8)]) (.ite (decide (length a'≤1000000)) (.ite (AV a') (.ite (!Sp.preB a) (L1 a' b' c') (L2 a' b' c' (!Ay (A3 a)==[(48:UInt8)]))) (L3 a' b' c')) .fail) .fail) .fail:=by kernel_rfl
def L4(v5 v6:List UInt8)(v7 v8:Bool):Tr:=re ((stepT Jx (L1 [] [] false)).L.L.L.L) (Ar 76 [(5,.dat zk v5),(6,.dat zk v6),(7,.dat zh v7),(8,.dat zh v8)] [] 0)
def L5(v5 v6:List UInt8)(v7:Bool):Tr:=re ((stepT Jx (L1 [] [] false)).L.L.L.R) (Ar 76 [(5,.dat zk v5),(6,.dat zk v6),(7,.dat zh v7),(8,.bl false)] [] 0)
def L6(v5 v6:List UInt8)(v7:Bool):Tr:=re ((stepT Jx (L1 [] [] false)).R) (Ar 76 [(5,.dat zk v5),(6,.dat zk v6),(7,.dat zh v7),(8,.bl true)] [] 0)
theorem Ai(v5 v6:List UInt8)(v7:Bool):stepT Jx (L1 v5 v6 v7)=.ite v7 (.ite (decide (length v6≤1000000)) (.ite (AV v6) (.ite (!v6==[(48:UInt8)]) (L4 v5 v6 v7 (!v6==[(49:UInt8)])) (L5 v5 v6 v7)) (L5 v5 v6 v7)) .fail) (L6 v5 v6 v7):=by kernel_rfl
theorem AM(v5 v6:List UInt8)(v7 v8:Bool):stepT Jx (L2 v5 v6 v7 v8)=.ite v7 (.ite v8 (.ite (decide (length v6≤1000000)) (.ite (AV v6) (.ite (!v6==[(48:UInt8)]) (L4 v5 v6 v7 (!v6==[(49:UInt8)])) (L5 v5 v6 v7)) (L5 v5 v6 v7)) .fail) (L5 v5 v6 v7)) (L4 v5 v6 v7 v8):=by kernel_rfl
theorem Bm(v5 v6:List UInt8)(v7:Bool):stepT Jx (L3 v5 v6 v7)=.ite v7 (L5 v5 v6 v7) (L5 v5 v6 v7):=by kernel_rfl
def L7(v5 v6:List UInt8)(v7:Bool)(v9:Int):Tr:=re ((stepT Jx (L4 [] [] false false)).L.L.L.L) (Ar 76 [(5,.dat zk v5),(6,.dat zk v6),(7,.dat zh v7),(9,.dat i64 v9)] [] 0)
theorem BB(v5 v6:List UInt8)(v7 v8:Bool):stepT Jx (L4 v5 v6 v7 v8)=let a':=decide (2≤2)&&true&&decide (2≤1000000);.ite true (.ite (decide ((length v5:Int)>600)) (.ite true (.ite a' (L7 v5 v6 v7 (yg [Ew (!v8) 1,Ew true 4])) .fail) .fail) (.ite true (.ite a' (L7 v5 v6 v7 (yg [Ew (!v8) 1,Ew (decide ((length v6:Int)>600)) 4])) .fail) .fail)) .fail:=by kernel_rfl
theorem CZ(v5 v6:List UInt8)(v7:Bool):stepT Jx (L5 v5 v6 v7)=.ite true (.ite (decide ((length v5:Int)>600)) (.ite true (.ite true (L7 v5 v6 v7 (yg [Ew true 1,Ew true 4])) .fail) .fail) (.ite true (.ite (decide (2≤2)&&true&&decide (2≤1000000)) (L7 v5 v6 v7 (yg [Ew true 1,Ew (decide ((length v6:Int)>600)) 4])) .fail) .fail)) .fail:=by kernel_rfl
theorem DP(v5 v6:List UInt8)(v7:Bool):stepT Jx (L6 v5 v6 v7)=.ite true (.ite (decide ((length v5:Int)>600)) (.ite true (.ite true (L7 v5 v6 v7 (yg [Ew false 1,Ew true 4])) .fail) .fail) (.ite true (.ite (decide (2≤2)&&true&&decide (2≤1000000)) (L7 v5 v6 v7 (yg [Ew false 1,Ew (decide ((length v6:Int)>600)) 4])) .fail) .fail)) .fail:=by kernel_rfl
def L8(v5 v6:List UInt8)(v7:Bool):Tr:=re ((stepT Jx (L7 [] [] false 0)).R) (Ar 76 [(5,.dat zk v5),(6,.dat zk v6),(7,.dat zh v7)] [] 0)
theorem Dw(v5 v6:List UInt8)(v7:Bool)(v9:Int):stepT Jx (L7 v5 v6 v7 v9)=.ite (v9 !=0) (.leaf (.dat i64 v9) []) (L8 v5 v6 v7):=by kernel_rfl
def L9(v10:Bool):Tr:=re ((stepT Jx (L8 [] [] false)).L.L.L.L.L.L) (Ar 76 [(10,.dat zh v10)] [] 0)
def Ry:Tr:=re ((stepT Jx (L8 [] [] false)).R) (Ar 76 [(10,.bl false)] [] 0)
theorem E7(v5 v6:List UInt8)(v7:Bool):stepT Jx (L8 v5 v6 v7)=let a':=(QK (CP v5,CI v5) (CP v6,CI v6),QE (CP v5,CI v5) (CP v6,CI v6));.ite v7 (.ite (Du v5) (.ite (Du v6) (.ite (BL (CP v5,CI v5)&&BL (CP v6,CI v6)) (.ite true (.ite (BL a'&&BL (1,Dz 1)) (L9 (UE a' (1,Dz 1) !=0)) .fail) .fail) .fail) .fail) .fail) Ry:=by kernel_rfl
theorem Mg(v10:Bool):stepT Jx (L9 v10)=.ite true (.leaf (.dat i64 (Ew v10 1)) []) .fail:=by kernel_rfl
theorem Ld:stepT Jx Ry=.ite true (.leaf (.dat i64 (Ew false 1)) []) .fail:=by kernel_rfl
end T136
end
end Go.Pe
end
section
namespace Go.Pe
open Sp
open Go.Det
noncomputable section
open List Int Prod
namespace T182
def T(s:List UInt8):Tr:=tree Nu false 9 182 (Af ([zk]) s)
def L1(v0:List UInt8)(v3:Bool)(o1 o0:Int):Tr:=re ((T []).L.L.L.L.L.L) (Ar 41 [(0,.dat zk v0),(2,.ptr 0 0),(3,.dat zh v3),(4,.ptr 1 0)] [(1,.box [.dat i64 o1,.nil]),(0,.box [.dat i64 o0,.nil])] 2)
def L2(v0:List UInt8)(o1 o0:Int):Tr:=re ((T []).R.L.L.L.L) (Ar 41 [(0,.dat zk v0),(2,.ptr 0 0),(3,.bl false),(4,.ptr 1 0)] [(1,.box [.dat i64 o1,.nil]),(0,.box [.dat i64 o0,.nil])] 2)
theorem An(s:List UInt8):T s=let a':=take 1 s==[(45:UInt8)];let b':=decide ((length s:Int)≥1);let c':=decide (1≤length s)&&decide (length s≤length s);let d':=decide (1≤length s);let e':=take (zA (length s) 1) (drop 1 s);.ite b' (.ite d' (.ite b' (.ite d' (.ite a' (.ite c' (L1 e' a' 0 0) .fail) (L1 s a' 0 0)) .fail) (L1 s a' 0 0)) .fail) (.ite b' (.ite d' (.ite a' (.ite c' (L2 e' 0 0) .fail) (L2 s 0 0)) .fail) (L2 s 0 0)):=by kernel_rfl
def L3(v0:List UInt8)(v3:Bool)(o1 o0:Int)(v5:List UInt8)(v6:Int)(v47n:Nat)(v48 v49:Int)(o2:List Int)(o1':Int)(o0':Int):Tr:=re ((stepT Nu (L1 v0 v3 o1 o0)).L.L.L.L.L.L.L.R) (Ar 77 [(5,.dat zk v5),(6,.dat i64 v6),(47,.sl 2 1 0 v47n none),(48,.dat i64 v48),(49,.dat i64 v49)] [(2,.arr false 5 (zi zK) o2),(1,.box [.dat i64 o1',.nil]),(0,.box [.dat i64 o0',.nil])] 3)
theorem Ai(v0:List UInt8)(v3:Bool)(o1 o0:Int):stepT Nu (L1 v0 v3 o1 o0)=let d':=(length v0:Int);let g':=zy (zi zd);let a':=take (toNat (Cs 18 d')) v0;let b':=take (zA (length a') 1) (drop 1 a');let c':=(↑(length a'):Int);let e':=decide (1≤length a')&&decide (length a'≤length a');let f':=(↑(zm (getD a' 0 (0:UInt8))):Int);let h':=decide (0<c');.ite (decide (d'>0)) (.ite (decide (0≤Cs 18 d')&&decide (0≤toNat (Cs 18 d'))&&decide (toNat (Cs 18 d')≤length v0)) (.ite h' (.ite (decide (c'<19)) (.ite h' (.ite (f'==45) (.ite e' (.ite (decide ((↑(length b'):Int)<1)) .fail (L3 v0 v3 o1 o0 a' 0 (length b') ((↑(length b'):Int)) 0 (zT (fun b=>(↑(zm b):Int)) b') o1 o0)) .fail) (.ite h' (.ite (f'==43) (.ite e' (.ite (decide ((↑(length b'):Int)<1)) .fail (L3 v0 v3 o1 o0 a' 0 (length b') ((↑(length b'):Int)) 0 (zT (fun b=>(↑(zm b):Int)) b') o1 o0)) .fail) (L3 v0 v3 o1 o0 a' 0 (length a') (c') 0 (zT (fun b=>(↑(zm b):Int)) a') o1 o0)) .fail)) .fail) (.ite false .fail .fail)) (.ite false .fail .fail)) .fail) (.ite v3 (.ite (ET (o1,[])) (.leaf (zB [.dat i64 (Ho (o1,[])),.dat g' (GR (o1,[]))]) ([(1,.box [.dat i64 o1,.nil]),(0,.box [.dat i64 (Ho (o1,[])),.dat g' (GR (o1,[]))])])) .fail) (.leaf (zB [.dat i64 o1,.nil]) ([(1,.box [.dat i64 o1,.nil]),(0,.box [.dat i64 o1,.nil])]))):=by kernel_rfl
def L4(v0:List UInt8)(o1 o0:Int)(v5:List UInt8)(v6:Int)(v47n:Nat)(v48 v49:Int)(o2:List Int)(o1':Int)(o0':Int):Tr:=re ((stepT Nu (L2 v0 o1 o0)).L.L.L.L.L.L.L.R) (Ar 77 [(5,.dat zk v5),(6,.dat i64 v6),(47,.sl 2 1 0 v47n none),(48,.dat i64 v48),(49,.dat i64 v49)] [(2,.arr false 5 (zi zK) o2),(1,.box [.dat i64 o1',.nil]),(0,.box [.dat i64 o0',.nil])] 3)
theorem AM(v0:List UInt8)(o1 o0:Int):stepT Nu (L2 v0 o1 o0)=let d':=(length v0:Int);let a':=take (toNat (Cs 18 d')) v0;let b':=take (zA (length a') 1) (drop 1 a');let c':=(↑(length a'):Int);let e':=decide (1≤length a')&&decide (length a'≤length a');let f':=(↑(zm (getD a' 0 (0:UInt8))):Int);let g':=decide (0<c');.ite (decide (d'>0)) (.ite (decide (0≤Cs 18 d')&&decide (0≤toNat (Cs 18 d'))&&decide (toNat (Cs 18 d')≤length v0)) (.ite g' (.ite (decide (c'<19)) (.ite g' (.ite (f'==45) (.ite e' (.ite (decide ((↑(length b'):Int)<1)) .fail (L4 v0 o1 o0 a' 0 (length b') ((↑(length b'):Int)) 0 (zT (fun b=>(↑(zm b):Int)) b') o1 o0)) .fail) (.ite g' (.ite (f'==43) (.ite e' (.ite (decide ((↑(length b'):Int)<1)) .fail (L4 v0 o1 o0 a' 0 (length b') ((↑(length b'):Int)) 0 (zT (fun b=>(↑(zm b):Int)) b') o1 o0)) .fail) (L4 v0 o1 o0 a' 0 (length a') (c') 0 (zT (fun b=>(↑(zm b):Int)) a') o1 o0)) .fail)) .fail) (.ite false .fail .fail)) (.ite false .fail .fail)) .fail) (.leaf (zB [.dat i64 o1,.nil]) ([(1,.box [.dat i64 o1,.nil]),(0,.box [.dat i64 o1,.nil])])):=by kernel_rfl
def L5(v0:List UInt8)(v3:Bool)(o1:Int)(o1_1:List Int)(o0:Int):Tr:=re ((stepT Nu (L3 [] false 0 0 [] 0 0 0 0 [] 0 0)).R.L.L.L.L.L.L.L.L) (Ar 41 [(0,.dat zk v0),(2,.ptr 0 0),(3,.dat zh v3),(4,.ptr 1 0)] [(1,.box [.dat i64 o1,.dat (zy (zi zd)) o1_1]),(0,.box [.dat i64 o0,.nil])] 2)
theorem Bm(v0:List UInt8)(v3:Bool)(o1 o0:Int)(v5:List UInt8)(v6:Int)(v47n:Nat)(v48 v49:Int)(o2:List Int)(o1':Int)(o0':Int):stepT Nu (L3 v0 v3 o1 o0 v5 v6 v47n v48 v49 o2 o1' o0')=let b':=Cs 18 (length v0:Int);let d':=(zc .i64 (0-v6),Dz (zc .i64 (0-v6)));let i':=getD o2 (toNat v49) 0-48;let a':=(Q4 (10,Dz 10) b',Qu (10,Dz 10) b');let e':=decide (0≤Cs 18 (length v0:Int))&&true&&decide (toNat b'≤length v0)&&decide (length v0≤length v0);let f':=take (zA (length v0) (toNat b')) (drop (toNat b') v0);let g':=BL (10,Dz 10)&&V6 (Sp.vI (10,Dz 10)) b';let c':=(GH (o1',[]) a',GB (o1',[]) a');let h':=BL (o1',[])&&BL a';.ite (decide (v49<v48)) (.ite (decide (0≤v49)&&decide (v49<(↑v47n:Int))) (.ite (decide (toNat v49<length o2)) (.ite (decide (zc .u8 i'>9)) .fail (L3 v0 v3 o1 o0 v5 (zc .i64 (zc .i64 (v6*10)+zc .i64 (zc .u8 i'))) v47n v48 (zc .i64 (v49+1)) o2 o1' o0')) .fail) .fail) (.ite (decide (0<(length v5:Int))) (.ite ((↑(zm (getD v5 0 (0:UInt8))):Int)==45) (.ite true (.ite g' (.ite h' (.ite true (.ite (BL c'&&BL d') (.ite e' (L5 f' v3 (J6 c' d') (Kg c' d') o0') .fail) .fail) .fail) .fail) .fail) .fail) (.ite true (.ite g' (.ite h' (.ite true (.ite (BL c'&&BL (v6,Dz v6)) (.ite e' (L5 f' v3 (J6 c' (v6,Dz v6)) (Kg c' (v6,Dz v6)) o0') .fail) .fail) .fail) .fail) .fail) .fail)) .fail):=by kernel_rfl
def L7(v0:List UInt8)(v3:Bool)(o1:Int)(o1_1:List Int)(o0:Int)(v5:List UInt8)(v6:Int)(v47n:Nat)(v48 v49:Int)(o2:List Int)(o1':Int)(o1_1':List Int)(o0':Int):Tr:=re ((stepT Nu (L5 v0 v3 o1 o1_1 o0)).L.L.L.L.L.L.L.R) (Ar 77 [(5,.dat zk v5),(6,.dat i64 v6),(47,.sl 2 1 0 v47n none),(48,.dat i64 v48),(49,.dat i64 v49)] [(2,.arr false 5 (zi zK) o2),(1,.box [.dat i64 o1',.dat (zy (zi zd)) o1_1']),(0,.box [.dat i64 o0',.nil])] 3)
theorem CZ(v0:List UInt8)(v3:Bool)(o1:Int)(o1_1:List Int)(o0:Int):stepT Nu (L5 v0 v3 o1 o1_1 o0)=let c':=zy (zi zd);let e':=(length v0:Int);let a':=take (toNat (Cs 18 e')) v0;let b':=take (zA (length a') 1) (drop 1 a');let d':=(↑(length a'):Int);let f':=decide (1≤length a')&&decide (length a'≤length a');let g':=(↑(zm (getD a' 0 (0:UInt8))):Int);let h':=decide (0<d');.ite (decide (e'>0)) (.ite (decide (0≤Cs 18 e')&&decide (0≤toNat (Cs 18 e'))&&decide (toNat (Cs 18 e')≤length v0)) (.ite h' (.ite (decide (d'<19)) (.ite h' (.ite (g'==45) (.ite f' (.ite (decide ((↑(length b'):Int)<1)) .fail (L7 v0 v3 o1 o1_1 o0 a' 0 (length b') ((↑(length b'):Int)) 0 (zT (fun b=>(↑(zm b):Int)) b') o1 o1_1 o0)) .fail) (.ite h' (.ite (g'==43) (.ite f' (.ite (decide ((↑(length b'):Int)<1)) .fail (L7 v0 v3 o1 o1_1 o0 a' 0 (length b') ((↑(length b'):Int)) 0 (zT (fun b=>(↑(zm b):Int)) b') o1 o1_1 o0)) .fail) (L7 v0 v3 o1 o1_1 o0 a' 0 (length a') (d') 0 (zT (fun b=>(↑(zm b):Int)) a') o1 o1_1 o0)) .fail)) .fail) (.ite false .fail .fail)) (.ite false .fail .fail)) .fail) (.ite v3 (.ite (ET (o1,o1_1)) (.leaf (zB [.dat i64 (Ho (o1,o1_1)),.dat c' (GR (o1,o1_1))]) ([(1,.box [.dat i64 o1,.dat c' o1_1]),(0,.box [.dat i64 (Ho (o1,o1_1)),.dat c' (GR (o1,o1_1))])])) .fail) (.leaf (zB [.dat i64 o1,.dat c' o1_1]) ([(1,.box [.dat i64 o1,.dat c' o1_1]),(0,.box [.dat i64 o1,.dat c' o1_1])]))):=by kernel_rfl
theorem Dw(v0:List UInt8)(v3:Bool)(o1:Int)(o1_1:List Int)(o0:Int)(v5:List UInt8)(v6:Int)(v47n:Nat)(v48 v49:Int)(o2:List Int)(o1':Int)(o1_1':List Int)(o0':Int):stepT Nu (L7 v0 v3 o1 o1_1 o0 v5 v6 v47n v48 v49 o2 o1' o1_1' o0')=let c':=Cs 18 (length v0:Int);let d':=(zc .i64 (0-v6),Dz (zc .i64 (0-v6)));let i':=getD o2 (toNat v49) 0-48;let a':=(Q4 (10,Dz 10) c',Qu (10,Dz 10) c');let e':=decide (0≤Cs 18 (length v0:Int))&&true&&decide (toNat c'≤length v0)&&decide (length v0≤length v0);let f':=take (zA (length v0) (toNat c')) (drop (toNat c') v0);let g':=BL (10,Dz 10)&&V6 (Sp.vI (10,Dz 10)) c';let b':=(GH (o1',o1_1') a',GB (o1',o1_1') a');let h':=BL (o1',o1_1')&&BL a';.ite (decide (v49<v48)) (.ite (decide (0≤v49)&&decide (v49<(↑v47n:Int))) (.ite (decide (toNat v49<length o2)) (.ite (decide (zc .u8 i'>9)) .fail (L7 v0 v3 o1 o1_1 o0 v5 (zc .i64 (zc .i64 (v6*10)+zc .i64 (zc .u8 i'))) v47n v48 (zc .i64 (v49+1)) o2 o1' o1_1' o0')) .fail) .fail) (.ite (decide (0<(length v5:Int))) (.ite ((↑(zm (getD v5 0 (0:UInt8))):Int)==45) (.ite true (.ite g' (.ite h' (.ite true (.ite (BL b'&&BL d') (.ite e' (L5 f' v3 (J6 b' d') (Kg b' d') o0') .fail) .fail) .fail) .fail) .fail) .fail) (.ite true (.ite g' (.ite h' (.ite true (.ite (BL b'&&BL (v6,Dz v6)) (.ite e' (L5 f' v3 (J6 b' (v6,Dz v6)) (Kg b' (v6,Dz v6)) o0') .fail) .fail) .fail) .fail) .fail) .fail)) .fail):=by kernel_rfl
end T182
end
noncomputable section
open List Int Prod
namespace T218
def T(s t:List UInt8):Tr:=tree Tx false 9 218 (Af ([zk,zk]) (s,t))
def L1(s t v0:List UInt8)(v4:Int)(o0:List Bool):Tr:=re ((T s t).R.R.L.L.R) (Ar 21 [(0,.dat zk v0),(2,.ptr 0 0),(4,.dat i64 v4)] [(0,.arr false 329 zh o0)] 1)
def L2(s t v0:List UInt8)(v4:Int)(o0:List Bool):Tr:=re ((T s t).R.R.R) (Ar 21 [(0,.dat zk v0),(2,.ptr 0 0),(4,.dat i64 v4)] [(0,.arr false 329 zh o0)] 1)
theorem An(s t:List UInt8):T s t=let a':=decide (0<(length t:Int));let b':Tr:=.leaf (.dat zk s) [];.ite (s==[]) b' (.ite (t==[]) b' (.ite ((length t:Int)==1) (.ite a' (.ite (decide ((↑(zm (getD t 0 (0:UInt8))):Int)<128)) (.ite a' (.ite a' (.ite false (.ite false b' .fail) .fail) .fail) .fail) (L1 s t t 0 Sp.bO)) .fail) (L2 s t t 0 Sp.bO))):=by kernel_rfl
def L4(s t v0:List UInt8)(v4:Int)(o0:List Bool)(v0':List UInt8)(o1:List Bool)(o0':List Bool):Tr:=re ((stepT Tx (L2 s t v0 v4 o0)).R.L.L.L.L) (Ar 22 [(0,.dat zk v0'),(1,.ptr 1 0)] [(1,.arr false 329 zh o1),(0,.arr false 329 zh o0')] 2)
theorem AM(s t v0:List UInt8)(v4:Int)(o0:List Bool):stepT Tx (L2 s t v0 v4 o0)=let a':=(↑(zm (getD v0 (toNat v4) (0:UInt8))):Int);let b':=decide (length o0=256);let c':=decide (v4<(length v0:Int));.ite (c') (.ite (decide (0≤v4)&&c') (.ite (decide (a'≥128)) (.ite b' (.ite b' (.ite (decide (256=256)) (.ite true (.ite false (.ite false (.leaf (.dat zk s) ([(1,.arr false 329 zh (Sp.TZ o0)),(0,.arr false 329 zh (Sp.TZ o0))])) .fail) .fail) .fail) .fail) .fail) .fail) (.ite (decide ((0:yk (zi zK))≤a')&&decide (a'<(↑256:Int))) (.ite (decide (toNat a'<length o0)) (L2 s t v0 (zc .i64 (v4+1)) (set o0 (toNat a') true)) .fail) .fail)) .fail) (.ite b' (.ite b' (.ite (decide (256=256)) (.ite true (L4 s t v0 v4 o0 s ((Sp.TZ o0)) ((Sp.TZ o0))) .fail) .fail) .fail) .fail):=by kernel_rfl
def L7(s t v0:List UInt8)(v4:Int)(o0:List Bool)(v0':List UInt8)(o1:List Bool)(o0':List Bool)(v0'':List UInt8)(o1':List Bool)(o0'':List Bool):Tr:=re ((stepT Tx (L4 s t v0 v4 o0 v0' o1 o0')).L.L.L.L.L) (Ar 16 [(0,.dat zk v0''),(1,.ptr 1 0)] [(1,.arr false 329 zh o1'),(0,.arr false 329 zh o0'')] 2)
def L8(s t v0:List UInt8)(v4:Int)(o0:List Bool)(v0':List UInt8)(o1:List Bool)(o0':List Bool)(v0'':List UInt8)(o1':List Bool)(o0'':List Bool):Tr:=re ((stepT Tx (L4 s t v0 v4 o0 v0' o1 o0')).R) (Ar 16 [(0,.dat zk v0''),(1,.ptr 1 0)] [(1,.arr false 329 zh o1'),(0,.arr false 329 zh o0'')] 2)
theorem BB(s t v0:List UInt8)(v4:Int)(o0:List Bool)(v0':List UInt8)(o1:List Bool)(o0':List Bool):stepT Tx (L4 s t v0 v4 o0 v0' o1 o0')=let b':=(↑(length v0'):Int);let c':=zc .i64 (b'-1);let d':=decide (0≤zc .i64 (b'-1));let a':=(↑(zm (getD v0' (toNat c') (0:UInt8))):Int);.ite (decide (b'>0)) (.ite (d'&&decide (zc .i64 (b'-1)<b')) (.ite (decide ((0:yk (zi zK))≤a')&&decide (a'<(↑256:Int))) (.ite (decide (toNat a'<length o1)) (.ite (!getD o1 (toNat a') false) (L7 s t v0 v4 o0 v0' o1 o0' v0' o1 o0') (.ite (d'&&decide (0≤toNat c')&&decide (toNat c'≤length v0')) (L4 s t v0 v4 o0 (take (toNat c') v0') o1 o0') .fail)) .fail) .fail) .fail) (L8 s t v0 v4 o0 v0' o1 o0' v0' o1 o0'):=by kernel_rfl
theorem Dw(s t v0:List UInt8)(v4:Int)(o0:List Bool)(v0':List UInt8)(o1:List Bool)(o0':List Bool)(v0'':List UInt8)(o1':List Bool)(o0'':List Bool):stepT Tx (L7 s t v0 v4 o0 v0' o1 o0' v0'' o1' o0'')=let a':=(↑(zm (getD v0'' 0 (0:UInt8))):Int);let b':Tr:=.leaf (.dat zk v0'') ([(1,.arr false 329 zh o1'),(0,.arr false 329 zh o0'')]);.ite (decide ((↑(length v0''):Int)>0)) (.ite (decide (0<(↑(length v0''):Int))) (.ite (decide ((0:yk (zi zK))≤a')&&decide (a'<(↑256:Int))) (.ite (decide (toNat a'<length o1')) (.ite (!getD o1' (toNat a') false) b' (.ite (decide (1≤length v0'')&&decide (length v0''≤length v0'')) (L7 s t v0 v4 o0 v0' o1 o0' (take (zA (length v0'') 1) (drop 1 v0'')) o1' o0'') .fail)) .fail) .fail) .fail) b':=by kernel_rfl
theorem E7(s t v0:List UInt8)(v4:Int)(o0:List Bool)(v0':List UInt8)(o1:List Bool)(o0':List Bool)(v0'':List UInt8)(o1':List Bool)(o0'':List Bool):stepT Tx (L8 s t v0 v4 o0 v0' o1 o0' v0'' o1' o0'')=let a':=(↑(zm (getD v0'' 0 (0:UInt8))):Int);let b':Tr:=.leaf (.dat zk v0'') ([(1,.arr false 329 zh o1'),(0,.arr false 329 zh o0'')]);.ite (decide ((↑(length v0''):Int)>0)) (.ite (decide (0<(↑(length v0''):Int))) (.ite (decide ((0:yk (zi zK))≤a')&&decide (a'<(↑256:Int))) (.ite (decide (toNat a'<length o1')) (.ite (!getD o1' (toNat a') false) b' (.ite (decide (1≤length v0'')&&decide (length v0''≤length v0'')) (L8 s t v0 v4 o0 v0' o1 o0' (take (zA (length v0'') 1) (drop 1 v0'')) o1' o0'') .fail)) .fail) .fail) .fail) b':=by kernel_rfl
end T218
end
noncomputable section
open List Int Prod
namespace T178
def T(s:List UInt8):Tr:=tree kA false 9 178 (Af ([zk]) s)
theorem An(s:List UInt8):T s=.ite (!s==[]) (.ite (Sp.bI s [(48:UInt8),(49:UInt8),(50:UInt8),(51:UInt8),(52:UInt8),(53:UInt8),(54:UInt8),(55:UInt8),(56:UInt8),(57:UInt8)]) (.ite (Sp.Mt s==[]) (.ite (decide (0<(length s:Int))) (.ite ((↑(zm (getD s 0 (0:UInt8))):Int) !=48) (.leaf (.bl true) []) (.leaf (.dat zh (s==[(48:UInt8)])) [])) .fail) (.leaf (.bl false) [])) .fail) (.leaf (.bl false) []):=by kernel_rfl
end T178
namespace T176
def T(s t:List UInt8):Tr:=tree HZ false 9 176 (Af ([zk,zk]) (s,t))
theorem An(s t:List UInt8):T s t=let a':=(length t:Int);let b':Tr:=.leaf (.tup [.dat zk s,.bl false]) [];let c':=decide (toNat a'≤length s);.ite (decide ((length s:Int)≥a')) (.ite (decide (0≤a')&&decide (0≤toNat a')&&c') (.ite (!take (toNat a') s==t) b' (.ite (decide (0≤a')&&true&&c'&&decide (length s≤length s)) (.leaf (.tup [.dat zk (take (zA (length s) (toNat a')) (drop (toNat a') s)),.bl true]) []) .fail)) .fail) b':=by kernel_rfl
end T176
end
noncomputable section
open List Int Prod
namespace T177
def T(s t:List UInt8):Tr:=tree kF false 9 177 (Af ([zk,zk]) (s,t))
theorem An(s t:List UInt8):T s t=let b':=(↑(zm (getD t 0 (0:UInt8))):Int);let c':=(length t:Int);let d':Tr:=.leaf (.tup [.dat zk s,.dat zk [],.bl false]) [];let g':=decide (length s≤length s);let i':=Bh [zi zK];let e':=zc .i64 (Sp.MJ s b'+c');let f':=zc .i64 ((-1)+c');let h':=zc .i64 (0+c');let j':=Sp.MJ s b';let a':Tr:=.ite true (.ite (decide (0≤length s)) (.ite (decide (0≤zc .i64 (0+c'))&&true&&decide (toNat h'≤length s)&&g') (.leaf (.tup [.dat zk (take 0 s),.dat zk (take (zA (length s) (toNat h')) (drop (toNat h') s)),.bl true]) []) .fail) .fail) d';.ite (c'==0) a' (.ite (t==s) a' (.ite (c'==1) (.ite (decide (0<c')) (.ite (decide ((0:yk i')≤b')&&decide (b'<(256:yk i'))) (.ite (decide (Sp.MJ s b'≥0)) (.ite (decide (0≤Sp.MJ s b')&&decide (0≤toNat j')&&decide (toNat j'≤length s)) (.ite (decide (0≤zc .i64 (Sp.MJ s b'+c'))&&true&&decide (toNat e'≤length s)&&g') (.leaf (.tup [.dat zk (take (toNat j') s),.dat zk (take (zA (length s) (toNat e')) (drop (toNat e') s)),.bl true]) []) .fail) .fail) d') .fail) .fail) (.ite (decide (c'≥(length s:Int))) (.ite false (.ite (false&&decide (0≤length s)) (.ite (decide (0≤zc .i64 ((-1)+c'))&&true&&decide (toNat f'≤length s)&&g') (.leaf (.tup [.dat zk (take 0 s),.dat zk (take (zA (length s) (toNat f')) (drop (toNat f') s)),.bl true]) []) .fail) .fail) d') .fail))):=by kernel_rfl
end T177
end
end Go.Pe
end
section
namespace Go.Pe
open Sp
open Go.Det
noncomputable section
open List Int Prod
namespace T267
def T(w:List Int):Tr:=tree Us false 9 267 (Af ([ze i64]) w)
def L1(v0:List Int):Tr:=re ((T [])) (Ar 21 [(0,.dat (ze i64) v0)] [] 0)
theorem An(w:List Int):T w=L1 w:=by kernel_rfl
theorem Ai(v0:List Int):stepT Us (L1 v0)=let b':=(length v0:Int);let d':Tr:=.leaf (.dat (ze i64) v0) [];let a':=zc .i64 (b'-1);let c':=decide (0≤zc .i64 (b'-1));.ite (decide (b'>0)) (.ite (c'&&decide (zc .i64 (b'-1)<b')) (.ite (getD v0 (toNat a') 0==0) (.ite (c'&&decide (0≤toNat a')&&decide (toNat a'≤length v0)) (L1 (take (toNat a') v0)) .fail) d') .fail) d':=by kernel_rfl
end T267
namespace T264
def T(n:Bool)(w:List Int):Tr:=tree SC false 9 264 (Af ([zh,ze i64]) (n,w))
theorem An(n:Bool)(w:List Int):T n w=let a':=decide ((↑(length (Az w)):Int)>0);.ite (decide (length w≤20000)) (.ite n (.leaf (zB [.dat zh a',.dat (ze i64) (Az w)]) ([(0,.box [.dat zh a',.dat (ze i64) (Az w)])])) (.leaf (zB [.bl false,.dat (ze i64) (Az w)]) ([(0,.box [.bl false,.dat (ze i64) (Az w)])]))) .fail:=by kernel_rfl
end T264
namespace T265
def T(a b:List Int):Tr:=tree Us false 9 265 (Af ([ze i64,ze i64]) (a,b))
def L1(v0 v1:List Int)(v5:Int):Tr:=re ((T [] []).R) (Ar 41 [(0,.dat (ze i64) v0),(1,.dat (ze i64) v1),(5,.dat i64 v5)] [] 0)
theorem An(a b:List Int):T a b=let a':=(length a:Int);.ite (a' !=(length b:Int)) (.ite (decide (a'<(length b:Int))) (.leaf (.dat i64 (-1:Int)) []) (.leaf (.dat i64 (1:Int)) [])) (L1 a b (zc .i64 (a'-1))):=by kernel_rfl
theorem Ai(v0 v1:List Int)(v5:Int):stepT Us (L1 v0 v1 v5)=let a':=decide (0≤v5)&&decide (v5<(length v0:Int));let b':=decide (0≤v5)&&decide (v5<(length v1:Int));.ite (decide (v5≥0)) (.ite a' (.ite b' (.ite (decide (getD v0 (toNat v5) 0<getD v1 (toNat v5) 0)) (.leaf (.dat i64 (-1:Int)) []) (.ite a' (.ite b' (.ite (decide (getD v0 (toNat v5) 0>getD v1 (toNat v5) 0)) (.leaf (.dat i64 (1:Int)) []) (L1 v0 v1 (zc .i64 (v5-1)))) .fail) .fail)) .fail) .fail) (.leaf (.dat i64 (0:Int)) []):=by kernel_rfl
end T265
namespace T268
def T(a b:List Int):Tr:=tree SC false 9 268 (Af ([ze i64,ze i64]) (a,b))
def L1(v0 v1:List Int)(v5n:Nat)(v6:Int)(o0:List Int):Tr:=re ((T [] []).L) (Ar 72 [(0,.dat (ze i64) v0),(1,.dat (ze i64) v1),(5,.sl 0 1 0 v5n none),(6,.dat i64 v6)] [(0,.arr false 3 i64 o0)] 1)
theorem An(a b:List Int):T a b=let a':=(length a:Int)+(length b:Int);let b':=zc .i64 a';.ite (decide (0≤zc .i64 a')&&decide (zc .i64 a'=zc .i64 a')&&decide (8*toNat b'≤281474976710656)&&decide (zc .i64 a'<9223372036854775808)) (L1 a b (toNat b') 0 (replicate (toNat b') 0)) .fail:=by kernel_rfl
def L2(v0 v1:List Int)(v5n:Nat)(v6 v7 v8:Int)(o0:List Int):Tr:=re ((stepT SC (L1 [] [] 0 0 [])).L) (Ar 72 [(0,.dat (ze i64) v0),(1,.dat (ze i64) v1),(5,.sl 0 1 0 v5n none),(6,.dat i64 v6),(7,.dat i64 v7),(8,.dat i64 v8)] [(0,.arr false 3 i64 o0)] 1)
theorem Ai(v0 v1:List Int)(v5n:Nat)(v6:Int)(o0:List Int):stepT SC (L1 v0 v1 v5n v6 o0)=.ite (decide (v6<(length v0:Int))) (L2 v0 v1 v5n v6 0 0 o0) (.ite (decide (0+v5n≤length o0)&&true&&decide (length (take v5n o0)≤20000)) (.leaf (.dat (ze i64) (Az (take v5n o0))) ([(0,.arr true 3 i64 o0)])) .fail):=by kernel_rfl
theorem AM(v0 v1:List Int)(v5n:Nat)(v6 v7 v8:Int)(o0:List Int):stepT SC (L2 v0 v1 v5n v6 v7 v8 o0)=let c':=decide (0≤zc .i64 (v6+v8))&&decide (zc .i64 (v6+v8)<(↑v5n:Int));let d':=zc .i64 (v6+v8);let i':=(length v1:Int);let a':=zc .i64 (zc .i64 (getD o0 (toNat d') 0+zc .i64 (getD v0 (toNat v6) 0*getD v1 (toNat v8) 0))+v7);let b':=v6+i';let g':=decide (toNat d'<length o0);let e':=decide (0≤zc .i64 b')&&decide (zc .i64 b'<(↑v5n:Int));let f':=zc .i64 b';let h':=decide (toNat f'<length o0);.ite (decide (v8<i')) (.ite c' (.ite g' (.ite (decide (0≤v6)&&decide (v6<(length v0:Int))) (.ite (decide (0≤v8)&&decide (v8<i')) (.ite true (.ite c' (.ite g' (.ite true (L2 v0 v1 v5n v6 (zc .i64 (zS a' 1000000000)) (zc .i64 (v8+1)) (set o0 (toNat d') (zG a' 1000000000))) .fail) .fail) .fail) .fail) .fail) .fail) .fail) .fail) (.ite e' (.ite h' (.ite e' (.ite h' (L1 v0 v1 v5n (zc .i64 (v6+1)) (set o0 (toNat f') (zc .i64 (getD o0 (toNat f') 0+v7)))) .fail) .fail) .fail) .fail):=by kernel_rfl
end T268
namespace T266
def T(a:List Int)(d:Int):Tr:=tree SC false 9 266 (Af ([ze i64,zi zR]) (a,d))
def L1(v0:List Int)(v1:Int)(v6n:Nat)(v7 v8:Int)(o0:List Int):Tr:=re ((T [] 0).L) (Ar 39 [(0,.dat (ze i64) v0),(1,.dat i64 v1),(6,.sl 0 1 0 v6n none),(7,.dat i64 v7),(8,.dat i64 v8)] [(0,.arr false 3 i64 o0)] 1)
theorem An(a:List Int)(d:Int):T a d=let a':=(length a:Int);.ite (decide (0≤a')&&decide (a'=a')&&decide (8*toNat a'≤281474976710656)&&decide (a'<9223372036854775808)) (L1 a d (toNat a') 0 (zc .i64 (a'-1)) (replicate (toNat a') 0)) .fail:=by kernel_rfl
theorem Ai(v0:List Int)(v1:Int)(v6n:Nat)(v7 v8:Int)(o0:List Int):stepT SC (L1 v0 v1 v6n v7 v8 o0)=let a':=zc .i64 (zc .i64 (v7*1000000000)+getD v0 (toNat v8) 0);.ite (decide (v8≥0)) (.ite (decide (0≤v8)&&decide (v8<(length v0:Int))) (.ite (decide (v1≠0)) (.ite (decide (0≤v8)&&decide (v8<(↑v6n:Int))) (.ite (decide (toNat v8<length o0)) (.ite (decide (v1≠0)) (L1 v0 v1 v6n (zG a' v1) (zc .i64 (v8-1)) (set o0 (toNat v8) (zc .i64 (zS a' v1)))) .fail) .fail) .fail) .fail) .fail) (.ite (decide (0+v6n≤length o0)&&true&&decide (length (take v6n o0)≤20000)) (.leaf (.tup [.dat (ze i64) (Az (take v6n o0)),.dat i64 v7]) ([(0,.arr true 3 i64 o0)])) .fail):=by kernel_rfl
end T266
namespace T209
def T(a b:List Int):Tr:=tree Jw false 9 209 (Af ([ze i64,ze i64]) (a,b))
def L1(v0:List Int)(v8n:Nat)(v9:List Int)(v10:Int)(v11n:Nat)(o1 o0:List Int):Tr:=re ((T [] []).L.R.R.L.L.L.L.L) (Ar 206 [(0,.dat (ze i64) v0),(8,.sl 0 1 0 v8n none),(9,.dat (ze i64) v9),(10,.dat i64 v10),(11,.sl 1 1 0 v11n none)] [(1,.arr false 3 i64 o1),(0,.arr true 3 i64 o0)] 2)
theorem An(a b:List Int):T a b=let c':=(length b:Int);let e':=getD b (toNat (zc .i64 (c'-1))) 0+1;let a':=zS 1000000000 (zc .i64 e');let b':=AY a*AY [zc .i64 a'];let d':=CG (AY b*AY [zc .i64 a']);.ite (Cq a&&Cq b) (.ite (decide (Bz (AY a) (AY b)<0)) (.leaf (.tup [.nil,.dat (ze i64) a]) []) (.ite (c'==1) (.ite (decide (0<c')) (.ite (H8 a&&decide (0<getD b 0 0)&&decide (getD b 0 0<1000000000)) (.ite (decide (1≤1)&&true&&decide (1≤20000)) (.leaf (.tup [.dat (ze i64) (CG (AY a/getD b 0 0)),.dat (ze i64) (Az [AY a % getD b 0 0])]) ([(0,.arr true 3 i64 [AY a % getD b 0 0])])) .fail) .fail) .fail) (.ite (decide (0≤zc .i64 (c'-1))&&decide (zc .i64 (c'-1)<c')) (.ite (decide (zc .i64 e'≠0)) (.ite (decide (1≤1)&&true&&(Sp.hR b&&Sp.hR [zc .i64 a'])) (.ite (decide (1≤1)&&true&&(Sp.hR a&&Sp.hR [zc .i64 a'])) (.ite (decide ((2*(0+length (CG b'))+1000)*8≤281474976710656)) (L1 a 1 d' ((↑(length d'):Int)) (zn 0 (length (CG b'))) ([]++CG b') ([zc .i64 a'])) .fail) .fail) .fail) .fail) .fail))) .fail:=by kernel_rfl
def L2(v8n:Nat)(v9:List Int)(v10:Int)(v11n v12n:Nat)(v13:Int)(o2 o1 o0:List Int):Tr:=re ((stepT Jw (L1 [] 0 [] 0 0 [] [])).R.L) (Ar 206 [(8,.sl 0 1 0 v8n none),(9,.dat (ze i64) v9),(10,.dat i64 v10),(11,.sl 1 1 0 v11n none),(12,.sl 2 1 0 v12n none),(13,.dat i64 v13)] [(2,.arr false 3 i64 o2),(1,.arr false 3 i64 o1),(0,.arr true 3 i64 o0)] 3)
theorem Ai(v0:List Int)(v8n:Nat)(v9:List Int)(v10:Int)(v11n:Nat)(o1 o0:List Int):stepT Jw (L1 v0 v8n v9 v10 v11n o1 o0)=let a':=(↑v11n:Int)-v10;let b':=zc .i64 a';.ite (decide ((↑v11n:Int)<zc .i64 ((length v0:Int)+1))) (.ite (decide (v11n=length o1)&&decide ((2*(v11n+1)+1000)*8≤281474976710656)) (L1 v0 v8n v9 v10 (zn v11n 1) (o1++[0]) o0) .fail) (.ite (decide (0≤zc .i64 a')&&decide (zc .i64 a'=zc .i64 a')&&decide (8*toNat b'≤281474976710656)&&decide (zc .i64 a'<9223372036854775808)) (L2 v8n v9 v10 v11n (toNat b') (zc .i64 (zc .i64 a'-1)) (replicate (toNat b') 0) o1 o0) .fail):=by kernel_rfl
def L3(v8n:Nat)(v9:List Int)(v10:Int)(v11n v12n:Nat)(v13:Int)(o2 o1 o0:List Int)(v0n:Nat)(v1:List Int)(v2 v7:Int)(v9':Int)(v10':Int)(o2':List Int)(o1':List Int)(o0':List Int):Tr:=re ((stepT Jw (L2 v8n v9 v10 v11n v12n v13 o2 o1 o0)).L.L.L.L.L.L.L.L.L) (Ar 77 [(0,.sl 1 1 0 v0n none),(1,.dat (ze i64) v1),(2,.dat i64 v2),(7,.dat i64 v7),(9,.dat i64 v9'),(10,.dat i64 v10')] [(2,.arr false 3 i64 o2'),(1,.arr false 3 i64 o1'),(0,.arr true 3 i64 o0')] 3)
theorem AM(v8n:Nat)(v9:List Int)(v10:Int)(v11n v12n:Nat)(v13:Int)(o2 o1 o0:List Int):stepT Jw (L2 v8n v9 v10 v11n v12n v13 o2 o1 o0)=let a':=(length v9:Int);let f':=take (toNat v10) o1;let c':=toNat (zc .i64 (a'-1));let d':=zc .i64 (v13+a')-1;let e':=decide (0≤zc .i64 (a'-1))&&decide (zc .i64 (a'-1)<a');let g':=zc .i64 (v13+a');let b':=zc .i64 (zc .i64 (getD o1 (toNat g') 0*1000000000)+getD o1 (toNat (zc .i64 d')) 0);let h':=decide (getD v9 c' 0≠0);.ite (decide (v13≥0)) (.ite (decide (0≤zc .i64 (v13+a'))&&decide (zc .i64 (v13+a')<(↑v11n:Int))) (.ite (decide (toNat g'<length o1)) (.ite (decide (0≤zc .i64 d')&&decide (zc .i64 d'<(↑v11n:Int))) (.ite (decide (toNat (zc .i64 d')<length o1)) (.ite e' (.ite h' (.ite e' (.ite h' (L3 v8n v9 v10 v11n v12n v13 o2 o1 o0 v11n v9 v13 (a') (zc .i64 (zS b' (getD v9 c' 0))) (zG b' (getD v9 c' 0)) o2 o1 o0) .fail) .fail) .fail) .fail) .fail) .fail) .fail) .fail) (.ite (decide (0≤v10)&&true&&decide (0≤toNat v10)&&decide (toNat v10≤zF none v11n)&&decide (zF none v11n≤zF none v11n)&&true) (.ite (decide (0<(↑v8n:Int))) (.ite (decide (0<length o0)) (.ite (decide (0+toNat v10≤length o1)&&true&&decide (length f'≤20000)) (.ite (H8 (Az f')&&decide (0<getD o0 0 0)&&decide (getD o0 0 0<1000000000)) (.ite (decide (0+v12n≤length o2)&&true&&decide (length (take v12n o2)≤20000)) (.leaf (.tup [.dat (ze i64) (Az (take v12n o2)),.dat (ze i64) (CG (AY (Az f')/getD o0 0 0))]) ([(2,.arr true 3 i64 o2),(1,.arr true 3 i64 o1),(0,.arr true 3 i64 o0)])) .fail) .fail) .fail) .fail) .fail) .fail):=by kernel_rfl
def L4(v8n:Nat)(v9:List Int)(v10:Int)(v11n v12n:Nat)(v13 v14 v15 v16:Int)(o2 o1 o0:List Int):Tr:=re ((stepT Jw (L3 0 [] 0 0 0 0 [] [] [] 0 [] 0 0 0 0 [] [] [])).L.L.L) (Ar 206 [(8,.sl 0 1 0 v8n none),(9,.dat (ze i64) v9),(10,.dat i64 v10),(11,.sl 1 1 0 v11n none),(12,.sl 2 1 0 v12n none),(13,.dat i64 v13),(14,.dat i64 v14),(15,.dat i64 v15),(16,.dat i64 v16)] [(2,.arr false 3 i64 o2),(1,.arr false 3 i64 o1),(0,.arr true 3 i64 o0)] 3)
theorem Bm(v8n:Nat)(v9:List Int)(v10:Int)(v11n v12n:Nat)(v13:Int)(o2 o1 o0:List Int)(v0n:Nat)(v1:List Int)(v2 v7:Int)(v9':Int)(v10':Int)(o2':List Int)(o1':List Int)(o0':List Int):stepT Jw (L3 v8n v9 v10 v11n v12n v13 o2 o1 o0 v0n v1 v2 v7 v9' v10' o2' o1' o0')=let b':=zc .i64 (v2+v7)-2;let c':=v10'+getD v1 (toNat (zc .i64 (v7-1))) 0;let d':=zc .i64 (v9'-1);let a':Tr:=.ite (decide (0≤zc .i64 (v7-1))&&decide (zc .i64 (v7-1)<(length v1:Int))) (.ite (decide (zc .i64 c'≥1000000000)) (L4 v8n v9 v10 v11n v12n v13 d' 0 0 o2' o1' o0') (L3 v8n v9 v10 v11n v12n v13 o2 o1 o0 v0n v1 v2 v7 d' (zc .i64 c') o2' o1' o0')) .fail;.ite (decide (v9'≥1000000000)) a' (.ite (decide (0≤zc .i64 (v7-2))&&decide (zc .i64 (v7-2)<(length v1:Int))) (.ite (decide (0≤zc .i64 b')&&decide (zc .i64 b'<(↑v0n:Int))) (.ite (decide (toNat (zc .i64 b')<length o1')) (.ite (decide (zc .i64 (v9'*getD v1 (toNat (zc .i64 (v7-2))) 0)>zc .i64 (zc .i64 (v10'*1000000000)+getD o1' (toNat (zc .i64 b')) 0))) a' (L4 v8n v9 v10 v11n v12n v13 v9' 0 0 o2' o1' o0')) .fail) .fail) .fail):=by kernel_rfl
def L5(v8n:Nat)(v9:List Int)(v10:Int)(v11n v12n:Nat)(v13 v14 v19 v20:Int)(o2 o1 o0:List Int):Tr:=re ((stepT Jw (L4 0 [] 0 0 0 0 0 0 0 [] [] [])).R.L.L.L.L.L.L.L) (Ar 206 [(8,.sl 0 1 0 v8n none),(9,.dat (ze i64) v9),(10,.dat i64 v10),(11,.sl 1 1 0 v11n none),(12,.sl 2 1 0 v12n none),(13,.dat i64 v13),(14,.dat i64 v14),(19,.dat i64 v19),(20,.dat i64 v20)] [(2,.arr false 3 i64 o2),(1,.arr false 3 i64 o1),(0,.arr true 3 i64 o0)] 3)
theorem BB(v8n:Nat)(v9:List Int)(v10:Int)(v11n v12n:Nat)(v13 v14 v15 v16:Int)(o2 o1 o0:List Int):stepT Jw (L4 v8n v9 v10 v11n v12n v13 v14 v15 v16 o2 o1 o0)=let c':=decide (0≤zc .i64 (v16+v13))&&decide (zc .i64 (v16+v13)<(↑v11n:Int));let d':=decide (0≤zc .i64 (v13+v10))&&decide (zc .i64 (v13+v10)<(↑v11n:Int));let e':=zc .i64 (zc .i64 (v14*getD v9 (toNat v16) 0)+v15);let f':=zc .i64 (v16+v13);let g':=zc .i64 (v13+v10);let j':=zc .i64 (v16+1);let a':=set o1 (toNat g') (zc .i64 (getD o1 (toNat g') 0-v15));let b':=getD o1 (toNat f') 0-zG e' 1000000000;let h':=decide (toNat f'<length o1);let i':=decide (toNat g'<length o1);let k':=zS e' 1000000000;.ite (decide (v16<v10)) (.ite (decide (0≤v16)&&decide (v16<(length v9:Int))) (.ite c' (.ite h' (.ite true (.ite true (.ite (decide (zc .i64 b'<0)) (.ite c' (.ite h' (L4 v8n v9 v10 v11n v12n v13 v14 (zc .i64 (zc .i64 k'+1)) j' o2 (set o1 (toNat f') (zc .i64 (zc .i64 b'+1000000000))) o0) .fail) .fail) (.ite c' (.ite h' (L4 v8n v9 v10 v11n v12n v13 v14 (zc .i64 k') j' o2 (set o1 (toNat f') (zc .i64 b')) o0) .fail) .fail)) .fail) .fail) .fail) .fail) .fail) (.ite d' (.ite i' (.ite d' (.ite i' (.ite d' (.ite (decide (toNat g'<length a')) (.ite (decide (getD a' (toNat g') 0<0)) (L5 v8n v9 v10 v11n v12n v13 (zc .i64 (v14-1)) 0 0 o2 a' o0) (.ite (decide (0≤v13)&&decide (v13<(↑v12n:Int))) (.ite (decide (toNat v13<length o2)) (L2 v8n v9 v10 v11n v12n (zc .i64 (v13-1)) (set o2 (toNat v13) v14) a' o0) .fail) .fail)) .fail) .fail) .fail) .fail) .fail) .fail):=by kernel_rfl
theorem CZ(v8n:Nat)(v9:List Int)(v10:Int)(v11n v12n:Nat)(v13 v14 v19 v20:Int)(o2 o1 o0:List Int):stepT Jw (L5 v8n v9 v10 v11n v12n v13 v14 v19 v20 o2 o1 o0)=let b':=decide (0≤zc .i64 (v20+v13))&&decide (zc .i64 (v20+v13)<(↑v11n:Int));let c':=decide (0≤zc .i64 (v13+v10))&&decide (zc .i64 (v13+v10)<(↑v11n:Int));let d':=zc .i64 (v20+v13);let e':=zc .i64 (v13+v10);let a':=zc .i64 (zc .i64 (getD o1 (toNat d') 0+getD v9 (toNat v20) 0)+v19);let f':=decide (toNat d'<length o1);let g':=decide (toNat e'<length o1);.ite (decide (v20<v10)) (.ite b' (.ite f' (.ite (decide (0≤v20)&&decide (v20<(length v9:Int))) (.ite true (.ite b' (.ite f' (.ite true (L5 v8n v9 v10 v11n v12n v13 v14 (zc .i64 (zS a' 1000000000)) (zc .i64 (v20+1)) o2 (set o1 (toNat d') (zG a' 1000000000)) o0) .fail) .fail) .fail) .fail) .fail) .fail) .fail) (.ite c' (.ite g' (.ite c' (.ite g' (.ite (decide (0≤v13)&&decide (v13<(↑v12n:Int))) (.ite (decide (toNat v13<length o2)) (L2 v8n v9 v10 v11n v12n (zc .i64 (v13-1)) (set o2 (toNat v13) v14) (set o1 (toNat e') (zc .i64 (getD o1 (toNat e') 0+v19))) o0) .fail) .fail) .fail) .fail) .fail) .fail):=by kernel_rfl
end T209
namespace T170
def T(a b:List Int):Tr:=tree fY false 9 170 (Af ([ze i64,ze i64]) (a,b))
def L1(v0 v1:List Int):Tr:=re ((T [] [])) (Ar 19 [(0,.dat (ze i64) v0),(1,.dat (ze i64) v1)] [] 0)
theorem An(a b:List Int):T a b=L1 a b:=by kernel_rfl
theorem Ai(v0 v1:List Int):stepT fY (L1 v0 v1)=.ite (decide ((length v1:Int)>0)) (.ite (Cq v0&&Cq v1&&decide (length v0≤9000)&&decide (length v1≤9000)&&decide (0<AY v1)) (L1 v1 (CG (AY v0 % AY v1))) .fail) (.leaf (.dat (ze i64) v0) []):=by kernel_rfl
end T170
namespace T263
def T(s:List UInt8):Tr:=tree Us false 9 263 (Af ([zk]) s)
def L1(v0:List UInt8)(v3 v4:Int):Tr:=re ((T [])) (Ar 20 [(0,.dat zk v0),(3,.dat i64 v3),(4,.dat i64 v4)] [] 0)
theorem An(s:List UInt8):T s=L1 s 0 0:=by kernel_rfl
theorem Ai(v0:List UInt8)(v3 v4:Int):stepT Us (L1 v0 v3 v4)=let a':=decide (v4<(length v0:Int));.ite (a') (.ite (decide (0≤v4)&&a') (L1 v0 (zc .i64 (zc .i64 (zc .i64 (10*v3)+zc .i64 (↑(zm (getD v0 (toNat v4) (0:UInt8))):Int))-48)) (zc .i64 (v4+1))) .fail) (.leaf (.dat i64 v3) []):=by kernel_rfl
end T263
namespace T207
def T(s:List UInt8):Tr:=tree U0 false 9 207 (Af ([zk]) s)
def L1(v0:List UInt8)(v3:Bool):Tr:=re ((T []).L.L.L.L) (Ar 40 [(0,.dat zk v0),(2,.ptr 0 0),(3,.dat zh v3),(4,.nil)] [(0,.box [.bl false,.nil])] 1)
def L2(v0:List UInt8):Tr:=re ((T []).R) (Ar 40 [(0,.dat zk v0),(2,.ptr 0 0),(3,.bl false),(4,.nil)] [(0,.box [.bl false,.nil])] 1)
theorem An(s:List UInt8):T s=let a':=(↑(zm (getD s 0 (0:UInt8))):Int)==45;.ite (decide ((length s:Int)>0)) (.ite (decide (0<(length s:Int))) (.ite a' (.ite (decide (1≤length s)&&decide (length s≤length s)) (L1 (take (zA (length s) 1) (drop 1 s)) a') .fail) (L1 s a')) .fail) (L2 s):=by kernel_rfl
def L3(v0:List UInt8)(v3:Bool)(v4n:Nat)(o1:List Int):Tr:=re ((stepT U0 (L1 [] false)).L.L.L.L.L) (Ar 40 [(0,.dat zk v0),(2,.ptr 0 0),(3,.dat zh v3),(4,.sl 1 1 0 v4n none)] [(1,.arr false 3 i64 o1),(0,.box [.bl false,.nil])] 2)
theorem Ai(v0:List UInt8)(v3:Bool):stepT U0 (L1 v0 v3)=let b':=decide (1≤1)&&decide (0<1)&&decide ((2*1+1000)*8≤281474976710656);let e':=(length v0:Int);let g':=Ey v3 [Bg v0];let h':=Az [Bg v0];let a':=zc .i64 (e'-9);let d':=decide (0≤zc .i64 (e'-9));let c':=take (zA (length v0) (toNat a')) (drop (toNat a') v0);let f':=decide (toNat a'≤length v0);.ite (decide (e'>9)) (.ite (d'&&true&&f'&&decide (length v0≤length v0)) (.ite (Dp c') (.ite b' (.ite (d'&&decide (0≤toNat a')&&f') (L3 (take (toNat a') v0) v3 1 ([Bg c'])) .fail) .fail) .fail) .fail) (.ite (Dp v0) (.ite b' (.ite (decide (0+1≤1)&&true&&decide (1≤20000)) (.leaf (zB [.dat zh g',.dat (ze i64) h']) ([(zn 1 1,.arr true 3 i64 [Bg v0]),(1,.arr false 3 i64 [Bg v0]),(0,.box [.dat zh g',.dat (ze i64) h'])])) .fail) .fail) .fail):=by kernel_rfl
def L4(v0:List UInt8)(v4n:Nat)(o1:List Int):Tr:=re ((stepT U0 (L2 [])).L.L.L.L.L) (Ar 40 [(0,.dat zk v0),(2,.ptr 0 0),(3,.bl false),(4,.sl 1 1 0 v4n none)] [(1,.arr false 3 i64 o1),(0,.box [.bl false,.nil])] 2)
theorem AM(v0:List UInt8):stepT U0 (L2 v0)=let b':=decide (1≤1)&&decide (0<1)&&decide ((2*1+1000)*8≤281474976710656);let e':=Ey false [Bg v0];let f':=(length v0:Int);let h':=Az [Bg v0];let a':=zc .i64 (f'-9);let d':=decide (0≤zc .i64 (f'-9));let c':=take (zA (length v0) (toNat a')) (drop (toNat a') v0);let g':=decide (toNat a'≤length v0);.ite (decide (f'>9)) (.ite (d'&&true&&g'&&decide (length v0≤length v0)) (.ite (Dp c') (.ite b' (.ite (d'&&decide (0≤toNat a')&&g') (L4 (take (toNat a') v0) 1 ([Bg c'])) .fail) .fail) .fail) .fail) (.ite (Dp v0) (.ite b' (.ite (decide (0+1≤1)&&true&&decide (1≤20000)) (.leaf (zB [.dat zh e',.dat (ze i64) h']) ([(zn 1 1,.arr true 3 i64 [Bg v0]),(1,.arr false 3 i64 [Bg v0]),(0,.box [.dat zh e',.dat (ze i64) h'])])) .fail) .fail) .fail):=by kernel_rfl
theorem Bm(v0:List UInt8)(v3:Bool)(v4n:Nat)(o1:List Int):stepT U0 (L3 v0 v3 v4n o1)=let c':=decide (1≤1)&&true&&decide (v4n=length o1)&&decide ((2*(v4n+1)+1000)*8≤281474976710656);let f':=o1++[Bg v0];let g':=(length v0:Int);let a':=zc .i64 (g'-9);let b':=take (zn v4n 1) f';let e':=decide (0≤zc .i64 (g'-9));let d':=take (zA (length v0) (toNat a')) (drop (toNat a') v0);let h':=decide (toNat a'≤length v0);.ite (decide (g'>9)) (.ite (e'&&true&&h'&&decide (length v0≤length v0)) (.ite (Dp d') (.ite c' (.ite (e'&&decide (0≤toNat a')&&h') (L3 (take (toNat a') v0) v3 (zn v4n 1) (o1++[Bg d'])) .fail) .fail) .fail) .fail) (.ite (Dp v0) (.ite c' (.ite (decide (0+zn v4n 1≤length f')&&true&&decide (length b'≤20000)) (.leaf (zB [.dat zh (Ey v3 b'),.dat (ze i64) (Az b')]) ([(zn 2 1,.arr true 3 i64 f'),(2,.arr false 3 i64 [Bg v0]),(0,.box [.dat zh (Ey v3 b'),.dat (ze i64) (Az b')])])) .fail) .fail) .fail):=by kernel_rfl
theorem BB(v0:List UInt8)(v4n:Nat)(o1:List Int):stepT U0 (L4 v0 v4n o1)=let c':=decide (1≤1)&&true&&decide (v4n=length o1)&&decide ((2*(v4n+1)+1000)*8≤281474976710656);let f':=o1++[Bg v0];let g':=(length v0:Int);let a':=zc .i64 (g'-9);let b':=take (zn v4n 1) f';let e':=decide (0≤zc .i64 (g'-9));let d':=take (zA (length v0) (toNat a')) (drop (toNat a') v0);let h':=decide (toNat a'≤length v0);.ite (decide (g'>9)) (.ite (e'&&true&&h'&&decide (length v0≤length v0)) (.ite (Dp d') (.ite c' (.ite (e'&&decide (0≤toNat a')&&h') (L4 (take (toNat a') v0) (zn v4n 1) (o1++[Bg d'])) .fail) .fail) .fail) .fail) (.ite (Dp v0) (.ite c' (.ite (decide (0+zn v4n 1≤length f')&&true&&decide (length b'≤20000)) (.leaf (zB [.dat zh (Ey false b'),.dat (ze i64) (Az b')]) ([(zn 2 1,.arr true 3 i64 f'),(2,.arr false 3 i64 [Bg v0]),(0,.box [.dat zh (Ey false b'),.dat (ze i64) (Az b')])])) .fail) .fail) .fail):=by kernel_rfl
end T207
end
end Go.Pe
end
section
namespace Go.Pe
open Sp
open Go.Det
noncomputable section
open List Int Prod
namespace T184n
def T(n:Int):Tr:=tree kE false 9 184 (Af ([zi zR]) n)
theorem An(n:Int):T n=.leaf (zB [.dat i64 n,.nil]) ([(0,.box [.dat i64 n,.nil])]):=by kernel_rfl
end T184n
namespace T221
def T(a b:Int×List Int):Tr:=tree cT false 9 221 (Af ([Sh.pair i64 (zy (zi zd)),Sh.pair i64 (zy (zi zd))]) (a,b))
def L1(v8:Bool)(v12 v13:List Int)(o2 o1 o0:Int)(o0_1:List Int):Tr:=re ((T (0,[]) (0,[])).L.L.R.L.L.L) (Ar 84 [(3,.ptr 0 0),(4,.ptr 1 0),(5,.ptr 2 0),(8,.dat zh v8),(12,.dat (ze (zi zd)) v12),(13,.dat (ze (zi zd)) v13)] [(2,.box [.dat i64 o2,.nil]),(1,.box [.dat i64 o1,.nil]),(0,.box [.dat i64 o0,.dat (zy (zi zd)) o0_1])] 3)
theorem An(a b:Int×List Int):T a b=let b':=zy (zi zd);let c':=BG (Ah (Sp.vI (fst a,snd a)));let d':=BG (Ah (Sp.vI (fst b,snd b)));let e':=zS (fst a) (fst b);let f':=zc .i64 (zG (fst a) (fst b)+fst b);let h':=zG (fst a) (fst b);let i':=zn (zn 0 1) 1;let a':Tr:=.ite (ET (fst a,snd a)) (.ite (ET (fst b,snd b)) (.ite (Yl c' d') (L1 (decide (Sp.vI (fst a,snd a)<0)) (BG (Ao c'/Ao d')) (BG (Ao c' % Ao d')) 0 0 (fst b) (snd b)) .fail) .fail) .fail;let g':=zc .i64 (zc .i64 e'-1);.ite (!decide (0<length (snd a))) (.ite (!decide (0<length (snd b))) (.ite (fst a !=(-9223372036854775808)) (.ite (decide (fst b≠0)) (.ite (decide (fst b≠0)) (.ite (decide (zG (fst a) (fst b)<0)) (.leaf (.tup [zB [.dat i64 g',.nil],zB [.dat i64 f',.nil]]) ([(zn i' 1,.box [.dat i64 f',.nil]),(zn (zn 0 1) 1,.box [.dat i64 g',.nil]),(zn 0 1,.box [.dat i64 (fst b),.dat b' (snd b)]),(0,.box [.dat i64 (fst a),.dat b' (snd a)])])) (.leaf (.tup [zB [.dat i64 (zc .i64 e'),.nil],zB [.dat i64 h',.nil]]) ([(zn i' 1,.box [.dat i64 h',.nil]),(zn (zn 0 1) 1,.box [.dat i64 (zc .i64 e'),.nil]),(zn 0 1,.box [.dat i64 (fst b),.dat b' (snd b)]),(0,.box [.dat i64 (fst a),.dat b' (snd a)])]))) .fail) .fail) a') a') a':=by kernel_rfl
def L2(o4:Int)(o4_1:List Int)(o3:Int)(o3_1:List Int)(o2 o1 o0:Int)(o0_1:List Int):Tr:=re ((stepT cT (L1 false [] [] 0 0 0 [])).L.L) (Ar 84 [(3,.ptr 0 0),(4,.ptr 1 0),(5,.ptr 2 0),(14,.ptr 3 0),(15,.ptr 4 0)] [(4,.box [.dat i64 o4,.dat (zy (zi zd)) o4_1]),(3,.box [.dat i64 o3,.dat (zy (zi zd)) o3_1]),(2,.box [.dat i64 o2,.nil]),(1,.box [.dat i64 o1,.nil]),(0,.box [.dat i64 o0,.dat (zy (zi zd)) o0_1])] 5)
theorem Ai(v8:Bool)(v12 v13:List Int)(o2 o1 o0:Int)(o0_1:List Int):stepT cT (L1 v8 v12 v13 o2 o1 o0 o0_1)=let a':=Sp.sg v8 (Ao v13);let b':=Sp.sg v8 (Ao v12);.ite (BQ v12) (.ite (BQ v13) (L2 (Cc a') (Cb a') (Cc b') (Cb b') o2 o1 o0 o0_1) .fail) .fail:=by kernel_rfl
theorem AM(o4:Int)(o4_1:List Int)(o3:Int)(o3_1:List Int)(o2 o1 o0:Int)(o0_1:List Int):stepT cT (L2 o4 o4_1 o3 o3_1 o2 o1 o0 o0_1)=let a':=zy (zi zd);let b':=WM (o3,o3_1) (1,Dz 1);let c':=X8 (o3,o3_1) (1,Dz 1);let d':=J6 (o4,o4_1) (o0,o0_1);let e':=Kg (o4,o4_1) (o0,o0_1);.ite (ET (o4,o4_1)) (.ite (decide (ML (o4,o4_1)<0)) (.ite true (.ite (BL (o3,o3_1)&&BL (1,Dz 1)) (.ite (BL (o4,o4_1)&&BL (o0,o0_1)) (.leaf (.tup [zB [.dat i64 b',.dat a' c'],zB [.dat i64 d',.dat a' e']]) ([(4,.box [.dat i64 d',.dat a' e']),(3,.box [.dat i64 b',.dat a' c']),(2,.box [.dat i64 d',.dat a' e']),(1,.box [.dat i64 b',.dat a' c']),(0,.box [.dat i64 o0,.dat a' o0_1])])) .fail) .fail) .fail) (.leaf (.tup [zB [.dat i64 o3,.dat a' o3_1],zB [.dat i64 o4,.dat a' o4_1]]) ([(4,.box [.dat i64 o4,.dat a' o4_1]),(3,.box [.dat i64 o3,.dat a' o3_1]),(2,.box [.dat i64 o4,.dat a' o4_1]),(1,.box [.dat i64 o3,.dat a' o3_1]),(0,.box [.dat i64 o0,.dat a' o0_1])]))) .fail:=by kernel_rfl
end T221
namespace T181
def T(a b:Int×List Int):Tr:=tree fP false 9 181 (Af ([Sh.pair i64 (zy (zi zd)),Sh.pair i64 (zy (zi zd))]) (a,b))
def L1(o2 o1:Int)(o1_1:List Int)(o0:Int)(o0_1:List Int):Tr:=re ((T (0,[]) (0,[])).L.L) (Ar 23 [(2,.ptr 0 0),(3,.ptr 1 0),(4,.ptr 2 0)] [(2,.box [.dat i64 o2,.nil]),(1,.box [.dat i64 o1,.dat (zy (zi zd)) o1_1]),(0,.box [.dat i64 o0,.dat (zy (zi zd)) o0_1])] 3)
theorem An(a b:Int×List Int):T a b=.ite (ET (fst a,snd a)) (.ite (ET (fst b,snd b)) (L1 0 (Mw (fst b,snd b)) (Lz (fst b,snd b)) (Mw (fst a,snd a)) (Lz (fst a,snd a))) .fail) .fail:=by kernel_rfl
theorem Ai(o2 o1:Int)(o1_1:List Int)(o0:Int)(o0_1:List Int):stepT fP (L1 o2 o1 o1_1 o0 o0_1)=let a':=zy (zi zd);.ite (ET (o1,o1_1)) (.ite (ML (o1,o1_1) !=0) (.ite (BL (o0,o0_1)&&BL (o1,o1_1)&&decide (0<Sp.vI (o1,o1_1))) (L1 o2 (WJ (o0,o0_1) (o1,o1_1)) (W8 (o0,o0_1) (o1,o1_1)) o1 o1_1) .fail) (.leaf (zB [.dat i64 o0,.dat a' o0_1]) ([(2,.box [.dat i64 o0,.dat a' o0_1]),(1,.box [.dat i64 o1,.dat a' o1_1]),(0,.box [.dat i64 o0,.dat a' o0_1])]))) .fail:=by kernel_rfl
end T181
namespace T225
def T(a:Int×List Int)(k:Int):Tr:=tree fM false 9 225 (Af ([Sh.pair i64 (zy (zi zd)),zi zR]) (a,k))
def L1(v1 o2:Int)(o2_1:List Int)(o1 o0:Int)(o0_1:List Int):Tr:=re ((T (0,[]) 0).L) (Ar 23 [(1,.dat i64 v1),(2,.ptr 0 0),(4,.ptr 1 0),(5,.ptr 2 0)] [(2,.box [.dat i64 o2,.dat (zy (zi zd)) o2_1]),(1,.box [.dat i64 o1,.nil]),(0,.box [.dat i64 o0,.dat (zy (zi zd)) o0_1])] 3)
theorem An(a:Int×List Int)(k:Int):T a k=.ite true (L1 k 1 (Dz 1) 0 (fst a) (snd a)) .fail:=by kernel_rfl
theorem Ai(v1 o2:Int)(o2_1:List Int)(o1 o0:Int)(o0_1:List Int):stepT fM (L1 v1 o2 o2_1 o1 o0 o0_1)=let a':=zy (zi zd);let b':=z9 v1 (2^1);let c':=BL (o0,o0_1)&&BL (o0,o0_1);let d':=GH (o2,o2_1) (o0,o0_1);let e':=GB (o2,o2_1) (o0,o0_1);let f':=GH (o0,o0_1) (o0,o0_1);let g':=GB (o0,o0_1) (o0,o0_1);.ite (decide (v1>0)) (.ite (Gq zR v1 1==1) (.ite (BL (o2,o2_1)&&BL (o0,o0_1)) (.ite (decide (v1>1)) (.ite c' (.ite true (L1 b' d' e' o1 f' g') .fail) .fail) (.ite true (L1 b' d' e' o1 o0 o0_1) .fail)) .fail) (.ite (decide (v1>1)) (.ite c' (.ite true (L1 b' o2 o2_1 o1 f' g') .fail) .fail) (.ite true (L1 b' o2 o2_1 o1 o0 o0_1) .fail))) (.leaf (zB [.dat i64 o2,.dat a' o2_1]) ([(2,.box [.dat i64 o2,.dat a' o2_1]),(1,.box [.dat i64 o2,.dat a' o2_1]),(0,.box [.dat i64 o0,.dat a' o0_1])])):=by kernel_rfl
end T225
end
end Go.Pe
end
section
namespace Go.Pe
open Sp
open Go.Det
noncomputable section
open List Int Prod
namespace T287
def T(a b:List Int):Tr:=tree HN false 9 287 (Af ([ze (zi zd),ze (zi zd)]) (a,b))
def L1(v0 v1:List Int)(v6n:Nat)(v7 v8:Int)(o0:List Int):Tr:=re ((T [] []).L.R.L.L) (Ar 137 [(0,.dat (ze (zi zd)) v0),(1,.dat (ze (zi zd)) v1),(6,.sl 0 1 0 v6n none),(7,.dat (zi zd) v7),(8,.dat i64 v8)] [(0,.arr false 288 (zi zd) o0)] 1)
def L2(a b:List Int)(v1:Int)(v5n:Nat)(v12:List Int)(v13 v14:Int)(o0:List Int):Tr:=re ((T a b).L.R.R.L.L.L) (Ar 40 [(1,.dat i64 v1),(5,.sl 0 1 0 v5n none),(12,.dat (ze (zi zd)) v12),(13,.dat i64 v13),(14,.dat i64 v14)] [(0,.arr false 288 (zi zd) o0)] 1)
theorem An(a b:List Int):T a b=let a':=(length b:Int);let b':=(length a:Int);let c':=zc .i64 (a'+1);let d':=getD b (toNat (zc .i64 (a'-1))) 0;.ite (BQ a&&BQ b) (.ite (decide (Bz (Ao a) (Ao b)<0)) (.leaf (.tup [.nil,.dat (ze (zi zd)) a]) []) (.ite (a'==1) (.ite (decide (0≤b')&&decide (b'=b')&&decide (8*toNat b'≤281474976710656)&&decide (b'<9223372036854775808)) (L1 a b (toNat b') 0 (zc .i64 (b'-1)) (replicate (toNat b') 0)) .fail) (.ite (decide (0≤zc .i64 (a'-1))&&decide (zc .i64 (a'-1)<a')) (.ite (zu d') (.ite (decide (0≤zc .i64 (a'+1))&&decide (zc .i64 (a'+1)=zc .i64 (a'+1))&&decide (8*toNat c'≤281474976710656)&&decide (zc .i64 (a'+1)<9223372036854775808)) (L2 a b (Sp.lz d') (toNat c') b (a') 0 (replicate (toNat c') 0)) .fail) .fail) .fail))) .fail:=by kernel_rfl
theorem Ai(v0 v1:List Int)(v6n:Nat)(v7 v8:Int)(o0:List Int):stepT HN (L1 v0 v1 v6n v7 v8 o0)=let a':=zi zd;let b':=getD v0 (toNat v8) 0;.ite (decide (v8≥0)) (.ite (decide (0≤v8)&&decide (v8<(length v0:Int))) (.ite (decide (0<(length v1:Int))) (.ite (zu v7&&zu b'&&zu (getD v1 0 0)&&decide (v7<getD v1 0 0)) (.ite (decide (0≤v8)&&decide (v8<(↑v6n:Int))) (.ite (decide (toNat v8<length o0)) (L1 v0 v1 v6n (Sp.dr v7 b' (getD v1 0 0)) (zc .i64 (v8-1)) (set o0 (toNat v8) (Sp.dq v7 b' (getD v1 0 0)))) .fail) .fail) .fail) .fail) .fail) (.ite (decide (0+v6n≤length o0)&&true&&Cr (take v6n o0)) (.ite (decide (1≤1)&&true&&Cr [v7]) (.leaf (.tup [.dat (ze a') (Az (take v6n o0)),.dat (ze a') (Az [v7])]) ([(1,.arr true 288 a' [v7]),(0,.arr true 288 a' o0)])) .fail) .fail):=by kernel_rfl
def L3(a b:List Int)(v1:Int)(v5n:Nat)(v12:List Int)(v13 v14:Int)(o0:List Int)(v1':Int)(v5n':Nat)(v12':List Int)(v13':Int)(v14':Int)(o1:List Int)(o0':List Int):Tr:=re ((stepT HN (L2 a b v1 v5n v12 v13 v14 o0)).R.L.L) (Ar 40 [(1,.dat i64 v1'),(5,.sl 1 1 0 v5n' none),(12,.dat (ze (zi zd)) v12'),(13,.dat i64 v13'),(14,.dat i64 v14')] [(1,.arr false 288 (zi zd) o1),(0,.arr true 288 (zi zd) o0')] 2)
theorem AM(a b:List Int)(v1:Int)(v5n:Nat)(v12:List Int)(v13 v14:Int)(o0:List Int):stepT HN (L2 a b v1 v5n v12 v13 v14 o0)=let a':=set o0 (toNat v14) (U9 zd (getD o0 (toNat v14) 0) (zc .u64 (getD v12 (toNat v14) 0*2^yb (toNat v1) 64)));let b':=(length a:Int)+1;let c':=zc .i64 (v14+1);let e':=decide (0≤v14)&&decide (v14<(↑v5n:Int));let f':=decide (toNat v14<length o0);let d':=zc .i64 b';.ite (decide (v14<v13)) (.ite (decide (0≤v14)&&decide (v14<(length v12:Int))) (.ite e' (.ite f' (.ite (decide (0≤v1)) (.ite e' (.ite f' (.ite (decide (v1>0)) (.ite (decide (0≤zc .i64 (64-v1))) (.ite (decide (0≤zc .i64 (v14+1))&&decide (zc .i64 (v14+1)<(↑v5n:Int))) (.ite (decide (toNat c'<length a')) (L2 a b v1 v5n v12 v13 c' (set a' (toNat c') (z9 (getD v12 (toNat v14) 0) (2^yb (toNat (zc .i64 (64-v1))) 64)))) .fail) .fail) .fail) (L2 a b v1 v5n v12 v13 c' a')) .fail) .fail) .fail) .fail) .fail) .fail) (.ite (decide (0+v5n≤length o0)&&true&&Cr (take v5n o0)) (.ite (decide (0≤zc .i64 b')&&decide (zc .i64 b'=zc .i64 b')&&decide (8*toNat d'≤281474976710656)&&decide (zc .i64 b'<9223372036854775808)) (L3 a b v1 v5n v12 v13 v14 o0 (Sp.lz (getD b (toNat (zc .i64 ((length b:Int)-1))) 0)) (toNat d') a ((length a:Int)) 0 (replicate (toNat d') 0) o0) .fail) .fail):=by kernel_rfl
def L4(v9:Int)(v10:List Int)(v11n:Nat)(v12:Int)(v13n:Nat)(v14:Int)(o1 o0:List Int):Tr:=re ((stepT HN (L3 [] [] 0 0 [] 0 0 [] 0 0 [] 0 0 [] [])).R.L) (Ar 137 [(9,.dat i64 v9),(10,.dat (ze (zi zd)) v10),(11,.sl 0 1 0 v11n none),(12,.dat i64 v12),(13,.sl 1 1 0 v13n none),(14,.dat i64 v14)] [(1,.arr false 288 (zi zd) o1),(0,.arr false 288 (zi zd) o0)] 2)
theorem Bm(a b:List Int)(v1:Int)(v5n:Nat)(v12:List Int)(v13 v14:Int)(o0:List Int)(v1':Int)(v5n':Nat)(v12':List Int)(v13':Int)(v14':Int)(o1:List Int)(o0':List Int):stepT HN (L3 a b v1 v5n v12 v13 v14 o0 v1' v5n' v12' v13' v14' o1 o0')=let b':=set o1 (toNat v14') (U9 zd (getD o1 (toNat v14') 0) (zc .u64 (getD v12' (toNat v14') 0*2^yb (toNat v1') 64)));let c':=zc .i64 (v14'+1);let e':=decide (0≤v14')&&decide (v14'<(↑v5n':Int));let g':=decide (toNat v14'<length o1);let h':=Az (take v5n o0);let d':=(↑(length h'):Int);let a':=zc .i64 ((length a:Int)-d')+1;let f':=zc .i64 a';.ite (decide (v14'<v13')) (.ite (decide (0≤v14')&&decide (v14'<(↑(length v12'):Int))) (.ite e' (.ite g' (.ite (decide (0≤v1')) (.ite e' (.ite g' (.ite (decide (v1'>0)) (.ite (decide (0≤zc .i64 (64-v1'))) (.ite (decide (0≤zc .i64 (v14'+1))&&decide (zc .i64 (v14'+1)<(↑v5n':Int))) (.ite (decide (toNat c'<length b')) (L3 a b v1 v5n v12 v13 v14 o0 v1' v5n' v12' v13' c' (set b' (toNat c') (z9 (getD v12' (toNat v14') 0) (2^yb (toNat (zc .i64 (64-v1'))) 64))) o0') .fail) .fail) .fail) (L3 a b v1 v5n v12 v13 v14 o0 v1' v5n' v12' v13' c' b' o0')) .fail) .fail) .fail) .fail) .fail) .fail) (.ite (decide (0≤zc .i64 a')&&decide (zc .i64 a'=zc .i64 a')&&decide (8*toNat f'≤281474976710656)&&decide (zc .i64 a'<9223372036854775808)) (L4 (Sp.lz (getD b (toNat (zc .i64 ((length b:Int)-1))) 0)) h' v5n' (d') (toNat f') (zc .i64 ((length a:Int)-d')) (replicate (toNat f') 0) o1) .fail):=by kernel_rfl
def L5(v9:Int)(v10:List Int)(v11n:Nat)(v12:Int)(v13n:Nat)(v14:Int)(o1 o0:List Int)(v0o v0n v0c:Nat)(v1:List Int)(v5 v6 v7 v8:Int)(o1':List Int)(o0':List Int):Tr:=re ((stepT HN (L4 v9 v10 v11n v12 v13n v14 o1 o0)).L.L.L.L.L.L.L.L.L.L) (Ar 186 [(0,.sl 0 1 v0o v0n (Option.some v0c)),(1,.dat (ze (zi zd)) v1),(5,.dat i64 v5),(6,.dat (zi zd) v6),(7,.dat (zi zd) v7),(8,.dat (zi zd) v8)] [(1,.arr false 288 (zi zd) o1'),(0,.arr false 288 (zi zd) o0')] 2)
def L6(v9:Int)(v11n:Nat)(v12:Int)(v13n:Nat)(v96 v97:Int)(o1 o0:List Int):Tr:=re ((stepT HN (L4 0 [] 0 0 0 0 [] [])).R) (Ar 137 [(9,.dat i64 v9),(11,.sl 0 1 0 v11n none),(12,.dat i64 v12),(13,.sl 1 1 0 v13n none),(96,.dat i64 v96),(97,.dat i64 v97)] [(1,.arr false 288 (zi zd) o1),(0,.arr false 288 (zi zd) o0)] 2)
theorem BB(v9:Int)(v10:List Int)(v11n:Nat)(v12:Int)(v13n:Nat)(v14:Int)(o1 o0:List Int):stepT HN (L4 v9 v10 v11n v12 v13n v14 o1 o0)=let c':=(length v10:Int);let d':=zn 0 (toNat v14);let k':=zA (zF none v11n) (toNat v14);let p':=zc .i64 (v14+v12)+1;let a':=toNat (zc .i64 (c'-1));let g':=zc .i64 p';let h':=zn (toNat c') d';let l':=decide (zn (toNat c') d'<length o0);let n':=decide (0≤zc .i64 (c'-1));let b':=zA (toNat g') (toNat v14);let e':=n'&&decide (zc .i64 (c'-1)<c');let f':=getD o0 (zn a' d') 0;let j':=getD v10 a' 0;let o':=decide (zn a' d'<length o0);let q':=getD o0 h' 0;let i':=n'&&decide (zc .i64 (c'-1)<(↑b':Int));let m':=decide (0≤c')&&decide (c'<(↑b':Int));.ite (decide (v14≥0)) (.ite (decide (0≤v14)&&decide (0≤zc .i64 p')&&true&&decide (toNat v14≤toNat g')&&decide (toNat g'≤zF none v11n)&&decide (zF none v11n≤zF none v11n)&&true) (.ite m' (.ite l' (.ite e' (.ite (decide (getD o0 h' 0≥getD v10 a' 0)) (.ite i' (.ite o' (.ite e' (.ite (zu f'&&zu j'&&decide ((0:yk (Bh [u64]))≤0)&&decide (0≤(1:yk (Bh [u64])))) (L5 v9 v10 v11n v12 v13n v14 o1 o0 d' b' k' v10 (c') 18446744073709551615 (GJ f' j' 0) (Mc f' j' 0) o1 o0) .fail) .fail) .fail) .fail) (.ite m' (.ite l' (.ite i' (.ite o' (.ite e' (.ite (zu q'&&zu f'&&zu j'&&decide (getD o0 h' 0<getD v10 a' 0)) (L5 v9 v10 v11n v12 v13n v14 o1 o0 d' b' k' v10 (c') (Sp.dq q' f' j') (Sp.dr q' f' j') 0 o1 o0) .fail) .fail) .fail) .fail) .fail) .fail)) .fail) .fail) .fail) .fail) (L6 v9 v11n v12 v13n v12 0 o1 o0):=by kernel_rfl
def L7(v9:Int)(v10:List Int)(v11n:Nat)(v12:Int)(v13n:Nat)(v14:Int)(o1 o0:List Int)(v0o v0n v0c:Nat)(v1:List Int)(v5 v6 v11:Int)(v12':Int)(v104 v105:Int)(o1':List Int)(o0':List Int):Tr:=re ((stepT HN (L5 v9 v10 v11n v12 v13n v14 o1 o0 0 0 0 [] 0 0 0 0 [] [])).L.L.L.L) (Ar 186 [(0,.sl 0 1 v0o v0n (Option.some v0c)),(1,.dat (ze (zi zd)) v1),(5,.dat i64 v5),(6,.dat (zi zd) v6),(11,.dat (zi zd) v11),(12,.dat (zi zd) v12'),(104,.dat i64 v104),(105,.dat i64 v105)] [(1,.arr false 288 (zi zd) o1'),(0,.arr false 288 (zi zd) o0')] 2)
theorem CZ(v9:Int)(v10:List Int)(v11n:Nat)(v12:Int)(v13n:Nat)(v14:Int)(o1 o0:List Int)(v0o v0n v0c:Nat)(v1:List Int)(v5 v6 v7 v8:Int)(o1':List Int)(o0':List Int):stepT HN (L5 v9 v10 v11n v12 v13n v14 o1 o0 v0o v0n v0c v1 v5 v6 v7 v8 o1' o0')=let b':=toNat (zc .i64 (v5-2));let c':=L7 v9 v10 v11n v12 v13n v14 o1 o0 v0o v0n v0c v1 v5 v6 0 0 v5 0 o1' o0';let d':=getD v1 (toNat (zc .i64 (v5-1))) 0;let f':=decide (0≤zc .i64 (v5-2));let a':Tr:=.ite (decide (0≤zc .i64 (v5-1))&&decide (zc .i64 (v5-1)<(length v1:Int))) (.ite (zu v7&&zu d'&&decide ((0:yk (Bh [u64]))≤0)&&decide (0≤(1:yk (Bh [u64])))) (L5 v9 v10 v11n v12 v13n v14 o1 o0 v0o v0n v0c v1 v5 (zc .u64 (v6-1)) (GJ v7 d' 0) (Mc v7 d' 0) o1' o0') .fail) .fail;let e':=getD v1 b' 0;.ite (v8==0) (.ite (f'&&decide (zc .i64 (v5-2)<(length v1:Int))) (.ite (zu v6&&zu e') (.ite (decide (Oh v6 e'<v7)) c' (.ite (Oh v6 e'==v7) (.ite (f'&&decide (zc .i64 (v5-2)<(↑v0n:Int))) (.ite (decide (zn b' v0o<length o0')) (.ite (decide (GQ v6 e'≤getD o0' (zn b' v0o) 0)) c' a') .fail) .fail) a')) .fail) .fail) c':=by kernel_rfl
theorem DP(v9:Int)(v11n:Nat)(v12:Int)(v13n:Nat)(v96 v97:Int)(o1 o0:List Int):stepT HN (L6 v9 v11n v12 v13n v96 v97 o1 o0)=let a':=set o0 (toNat v97) (z9 (getD o0 (toNat v97) 0) (2^yb (toNat v9) 64));let b':=decide (0≤v97)&&decide (v97<(↑v11n:Int));let c':=zc .i64 (v97+1);let d':=zi zd;let e':=decide (zc .i64 (v97+1)<(↑v11n:Int));let g':=decide (toNat v97<length o0);let f':=L6 v9 v11n v12 v13n v96 c' o1 a';let h':=decide (toNat v97<length a');.ite (decide (v97<v96)) (.ite b' (.ite g' (.ite (decide (0≤v9)) (.ite b' (.ite g' (.ite (decide (v9>0)) (.ite (e') (.ite b' (.ite h' (.ite (decide (0≤zc .i64 (v97+1))&&e') (.ite (decide (toNat c'<length a')) (.ite (decide (0≤zc .i64 (64-v9))) (.ite b' (.ite h' (L6 v9 v11n v12 v13n v96 c' o1 (set a' (toNat v97) (U9 zd (getD a' (toNat v97) 0) (zc .u64 (getD a' (toNat c') 0*2^yb (toNat (zc .i64 (64-v9))) 64))))) .fail) .fail) .fail) .fail) .fail) .fail) .fail) f') f') .fail) .fail) .fail) .fail) .fail) (.ite (decide (0≤v12)&&true&&decide (0≤toNat v12)&&decide (toNat v12≤zF none v11n)&&decide (zF none v11n≤zF none v11n)&&true) (.ite (decide (0+v13n≤length o1)&&true&&Cr (take v13n o1)) (.ite (decide (0+toNat v12≤length o0)&&true&&Cr (take (toNat v12) o0)) (.leaf (.tup [.dat (ze d') (Az (take v13n o1)),.dat (ze d') (Az (take (toNat v12) o0))]) ([(1,.arr true 288 d' o1),(0,.arr true 288 d' o0)])) .fail) .fail) .fail):=by kernel_rfl
def L8(v9:Int)(v10:List Int)(v11n:Nat)(v12:Int)(v13n:Nat)(v14:Int)(o1 o0:List Int)(v0o v0n v0c:Nat)(v1:List Int)(v5 v6 v17 v156 v157:Int)(o1':List Int)(o0':List Int):Tr:=re ((stepT HN (L7 v9 v10 v11n v12 v13n v14 o1 o0 0 0 0 [] 0 0 0 0 0 0 [] [])).R.L.L.L.L.L.R) (Ar 186 [(0,.sl 0 1 v0o v0n (Option.some v0c)),(1,.dat (ze (zi zd)) v1),(5,.dat i64 v5),(6,.dat (zi zd) v6),(17,.dat (zi zd) v17),(156,.dat i64 v156),(157,.dat i64 v157)] [(1,.arr false 288 (zi zd) o1'),(0,.arr false 288 (zi zd) o0')] 2)
theorem Dw(v9:Int)(v10:List Int)(v11n:Nat)(v12:Int)(v13n:Nat)(v14:Int)(o1 o0:List Int)(v0o v0n v0c:Nat)(v1:List Int)(v5 v6 v11:Int)(v12':Int)(v104 v105:Int)(o1':List Int)(o0':List Int):stepT HN (L7 v9 v10 v11n v12 v13n v14 o1 o0 v0o v0n v0c v1 v5 v6 v11 v12' v104 v105 o1' o0')=let b':=zn (toNat v5) v0o;let d':=getD v1 (toNat v105) 0;let e':=decide (zn (toNat v105) v0o<length o0');let g':=decide (zn (toNat v5) v0o<length o0');let h':=decide (0≤v105)&&decide (v105<(↑v0n:Int));let i':=(0:yk (Bh [u64]));let j':=(1:yk (Bh [u64]));let k':=decide (0≤v5)&&decide (v5<(↑v0n:Int));let n':=zn (toNat v105) v0o;let a':=GQ v6 d';let c':=getD o0' n' 0;let m':=getD o0' b' 0;let f':=set o0' b' (P7 m' v12' v11);let l':=GJ a' v12' 0;.ite (decide (v105<v104)) (.ite (decide (0≤v105)&&decide (v105<(length v1:Int))) (.ite (zu v6&&zu d') (.ite (zu a'&&zu v12'&&decide (i'≤0)&&decide (0≤j')) (.ite h' (.ite e' (.ite (zu c'&&zu l'&&decide (i'≤v11)&&decide (v11≤j')) (.ite h' (.ite e' (L7 v9 v10 v11n v12 v13n v14 o1 o0 v0o v0n v0c v1 v5 v6 (Nw c' l' v11) (zc .u64 (Oh v6 d'+Mc a' v12' 0)) v104 (zc .i64 (v105+1)) o1' (set o0' n' (P7 c' l' v11))) .fail) .fail) .fail) .fail) .fail) .fail) .fail) .fail) (.ite k' (.ite g' (.ite (zu m'&&zu v12'&&decide (i'≤v11)&&decide (v11≤j')) (.ite k' (.ite g' (.ite (Nw m' v12' v11==0) (.ite (decide (0≤v14)&&decide (v14<(↑v13n:Int))) (.ite (decide (toNat v14<length o1')) (L4 v9 v10 v11n v12 v13n (zc .i64 (v14-1)) (set o1' (toNat v14) v6) f') .fail) .fail) (L8 v9 v10 v11n v12 v13n v14 o1 o0 v0o v0n v0c v1 v5 v6 0 v5 0 o1' f')) .fail) .fail) .fail) .fail) .fail):=by kernel_rfl
theorem E7(v9:Int)(v10:List Int)(v11n:Nat)(v12:Int)(v13n:Nat)(v14:Int)(o1 o0:List Int)(v0o v0n v0c:Nat)(v1:List Int)(v5 v6 v17 v156 v157:Int)(o1':List Int)(o0':List Int):stepT HN (L8 v9 v10 v11n v12 v13n v14 o1 o0 v0o v0n v0c v1 v5 v6 v17 v156 v157 o1' o0')=let b':=decide (zn (toNat v157) v0o<length o0');let c':=getD v1 (toNat v157) 0;let d':=decide (zn (toNat v5) v0o<length o0');let e':=decide (0≤v157)&&decide (v157<(↑v0n:Int));let f':=decide (0≤v5)&&decide (v5<(↑v0n:Int));let g':=zn (toNat v157) v0o;let h':=zn (toNat v5) v0o;let a':=getD o0' g' 0;.ite (decide (v157<v156)) (.ite e' (.ite b' (.ite (decide (0≤v157)&&decide (v157<(length v1:Int))) (.ite (zu a'&&zu c'&&decide ((0:yk (Bh [u64]))≤v17)&&decide (v17≤(1:yk (Bh [u64])))) (.ite e' (.ite b' (L8 v9 v10 v11n v12 v13n v14 o1 o0 v0o v0n v0c v1 v5 v6 (Mc a' c' v17) v156 (zc .i64 (v157+1)) o1' (set o0' g' (GJ a' c' v17))) .fail) .fail) .fail) .fail) .fail) .fail) (.ite f' (.ite d' (.ite f' (.ite d' (.ite (decide (0≤v14)&&decide (v14<(↑v13n:Int))) (.ite (decide (toNat v14<length o1')) (L4 v9 v10 v11n v12 v13n (zc .i64 (v14-1)) (set o1' (toNat v14) (zc .u64 (v6-1))) (set o0' h' (zc .u64 (getD o0' h' 0+v17)))) .fail) .fail) .fail) .fail) .fail) .fail):=by kernel_rfl
end T287
end
end Go.Pe
end
section
namespace Go.Pe
open Sp
open Go.Det
namespace T287
variable {Q:PV→Ob→Prop}
theorem kQ{r x d:Int}(hd:0<d)(hr:0≤r∧r<d)(hx:0≤x∧x<18446744073709551616):Sp.dq r x d*d+Sp.dr r x d=r*18446744073709551616+x∧0≤Sp.dq r x d∧Sp.dq r x d<18446744073709551616∧0≤Sp.dr r x d∧Sp.dr r x d<d:=by
 unfold Sp.dq Sp.dr;have h:=zN (r*18446744073709551616+x) d;rw[zq]at h;refine⟨h,ye (by omega) (by omega),zO hd (by omega),zV _ (by omega),zY _ hd⟩
theorem Ak(a:List Int)(d:Int)(ha:At Am a)(hd:0<d∧d<18446744073709551616)(hm:a.length≤20000)(hq:∀q r ob,At Am q→(0≤r∧r<d)→Ao a=Ao q*d+r→Q (.tup [.dat CJ (Az q),.dat CJ (Az [r])]) ob):∀(i:Nat) (q:List Int) (r:Int),i+q.length=a.length→At Am q→(0≤r∧r<d)→zf Am (a.drop i)=zf Am q*d+r→
  Ends HN (L1 a [d] a.length r ((i:Int)-1) (zo i 0++q)) Q
 |0,q,r,hl,hdq,hr,he=>by
  have ht:((zo 0 0++q).take a.length)=q:=by
   rw[List.replicate_zero,List.nil_append];exact zE (by omega)
  refine zP (Ai ..) (Ends.ff (by simp) ?_);rw[ht];refine zg (Aj (by simp;omega) (DE (by omega) hdq)) (zg (Aj rfl (DE (by simp) (fun x hx=>by rw[List.mem_singleton]at hx;subst hx;exact⟨hr.1,by show x<18446744073709551616;omega⟩))) (Ends.leaf (hq q r _ hdq hr he)))
 |i+1,q,r,hl,hdq,hr,he=>by
  have e1:(((i+1:Nat):Int)-1)=(i:Int):=by omega
  have gx:=AP ha i;obtain⟨d1,d2,d3,d4,d5⟩:=kQ hd.1 hr (zL gx);have da:a.drop i=a.getD i 0::a.drop (i+1):=by
   rw[zw,zJ (by omega)];exact z5 (by omega)
  have es:∀x,(zo (i+1) (0:Int)++q).set i x=zo i 0++(x::q):=by
   intro x;rw[List.replicate_succ',zD];exact Ch _ _ _ _ (by simp)
  rw[e1];refine zP (Ai ..) (zg (by simp) ?_);rw[zl,es,wr ((i:Int)-1) (by omega) (by omega)];refine zg (by simp;omega) (zg (by simp) (zg ?_ (zg (by simp;omega) (zg (by simp;omega) ?_))))
  ·exact Aj (Aj (Aj (Cn hr.1 (by omega)) gx) (Cn (by show 0≤d;omega) hd.2)) (decide_eq_true hr.2)
  ·refine Ak a d ha hd hm hq i _ _ (by simp;omega) (fun x hx=>?_) ⟨d4,d5⟩ ?_
   ·rcases List.mem_cons.1 hx with rfl|hx
    ·exact⟨d2,d3⟩
    ·exact hdq x hx
   ·rw[da];show a.getD i 0+(18446744073709551616:Int)*zf Am (a.drop (i+1))=(Sp.dq r (a.getD i 0) d+(18446744073709551616:Int)*zf Am q)*d+Sp.dr r (a.getD i 0) d;rw[he,zz,zr,zp];omega
end T287
end Go.Pe
end
section
namespace Go.Sp
theorem Qv{B P u0 u1 u2 u' v1 v2 v' q r:Int}(hP:0<P)(hv:0≤v')(hu:u'<P)(hq:0≤q)(he:q*v1+r=u0*B+u1)(h:r*B+u2<q*v2):
  ((u0*B+u1)*B+u2)*P+u'<q*((v1*B+v2)*P+v'):=by
 have e:q*(v1*B+v2)=q*v1*B+q*v2:=by rw[zr,zp]
 have e2:(u0*B+u1)*B=q*v1*B+r*B:=by rw[←he,zz]
 have h1:(u0*B+u1)*B+u2+1≤q*(v1*B+v2):=by rw[e,e2];omega
 have h2:=zj h1 (zt hP);have h3:0≤q*v':=zH hq hv;rw[zr q, ←zp];rw[zz,zC]at h2;omega
theorem Rn{B P u0 u1 u2 u' v1 v2 v' q r:Int}(hP:0<P)(hv:0≤v'∧v'<P)(hu:0≤u')(hq:0≤q∧q<B)(hv1:1≤v1)(hv2:0≤v2)(he:q*v1+r=u0*B+u1)(h:q*v2≤r*B+u2):
  q*((v1*B+v2)*P+v')<((u0*B+u1)*B+u2)*P+u'+((v1*B+v2)*P+v'):=by
 have e:q*(v1*B+v2)=q*v1*B+q*v2:=by rw[zr,zp]
 have e2:(u0*B+u1)*B=q*v1*B+r*B:=by rw[←he,zz]
 have h1:q*(v1*B+v2)≤(u0*B+u1)*B+u2:=by rw[e,e2];omega
 have h2:=zj h1 (zt hP);have h3:q*v'≤(B-1)*P:=Int.le_trans (zx (zt hv.2) hq.1) (zj (by omega) (zt hP));have h4:B≤v1*B+v2:=by
  have:=zj hv1 (show 0≤B by omega);omega
 have h5:=zj h4 (zt hP);rw[z6,zC]at h3;rw[zr q, ←zp];omega
end Go.Sp
end
section
namespace Go.Sp
theorem FX(b:Int):∀(l:List Int) (i:Nat) (x:Int),i<l.length→val b (l.set i x)=val b l+b^i*(x-l.getD i 0)
 |[],i,x,h=>by simp at h
 |d::l,0,x,_=>by
  show x+b*val b l=d+b*val b l+b^0*(x-d);rw[yh,zC];omega
 |d::l,i+1,x,h=>by
  have:=FX b l i x (by simpa using h);show d+b*val b (l.set i x)=d+b*val b l+b^(i+1)*(x-l.getD i 0);rw[this,zr,zM,zq (b^i) b,zp,zQ]
theorem FR{b:Int}{l:List Int}(h:At b l)(i:Nat){x:Int}(hx:0≤x∧x<b):At b (l.set i x):=by
 intro d hd;rcases List.mem_or_eq_of_mem_set hd with hd|rfl
 ·exact h d hd
 ·exact hx
theorem Ee{b:Int}{l r:List Int}(h1:At b l)(h2:At b r):At b (l++r):=by
 intro d hd;rcases yf.1 hd with hd|hd
 ·exact h1 d hd
 ·exact h2 d hd
theorem Nj{b:Int}(hb:0<b){l:List Int}(h:At b l)(i:Nat):0≤l.getD i 0∧l.getD i 0<b:=by
 rcases Nat.lt_or_ge i l.length with hi|hi
 ·have:l.getD i 0∈l:=by rw[zw,zJ hi];exact List.getElem_mem hi
  exact h _ this
 ·rw[zw,List.getElem?_eq_none hi];exact⟨Int.le_refl _,hb⟩
theorem Ci{l:List Int}{i:Nat}(h:i<l.length):l.drop i=l.getD i 0::l.drop (i+1):=by
 rw[zw,zJ h];exact z5 h
theorem FI(p r:List Int)(i j:Nat)(h:p.length=j):(p++r).getD (i+j) 0=r.getD i 0:=by
 subst h;rw[zw,zw,List.getElem?_append_right (by omega),Nat.add_sub_cancel]
theorem Pj(p r:List Int)(i j:Nat)(x:Int)(h:p.length=j):(p++r).set (i+j) x=p++r.set i x:=by
 subst h;rw[List.set_append_right _ _ (by omega),Nat.add_sub_cancel]
theorem aX(b:Int)(r:List Int)(k:Nat)(hl:k+3≤r.length)(hz:val b (r.drop (k+3))=0):
  val b r=((r.getD (k+2) 0*b+r.getD (k+1) 0)*b+r.getD k 0)*b^k+val b (r.take k):=by
 have p1:b^(k+1)=b^k*b:=zM ..;have p2:b^(k+2)=b^k*b*b:=by rw[←p1];exact zM ..
 rw[B4 b r (k+3) hl,hz,Ax,Ax,Ax,p1,p2,yc,zX];generalize b^k=P;generalize r.getD (k+2) 0=x;generalize r.getD (k+1) 0=y;generalize r.getD k 0=z;have e1:P*b*b*x=x*b*b*P:=by rw[zq (P*b*b) x,zq P b,zp b P b,zq P b, ←zp, ←zp]
 have e2:P*b*y=y*b*P:=by rw[zq (P*b) y,zq P b,zp]
 have e3:P*z=z*P:=zq _ _;have e4:((x*b+y)*b+z)*P=x*b*b*P+y*b*P+z*P:=by rw[zz,zz,zz]
 rw[e4];omega
theorem ZK(b:Int)(v:List Int)(k:Nat)(hl:v.length=k+2):
  val b v=(v.getD (k+1) 0*b+v.getD k 0)*b^k+val b (v.take k):=by
 have h0:val b (v.drop (k+2))=0:=by rw[List.drop_eq_nil_of_le (by omega)];rfl
 have p1:b^(k+1)=b^k*b:=zM ..;rw[B4 b v (k+2) (by omega),h0,Ax,Ax,p1,yc,zX];generalize b^k=P;generalize v.getD (k+1) 0=y;generalize v.getD k 0=z;have e2:P*b*y=y*b*P:=by rw[zq (P*b) y,zq P b,zp]
 have e3:P*z=z*P:=zq _ _;rw[e2,e3,zz];omega
theorem Xp{b:Int}(hb:2≤b){v:List Int}(hd:At b v)(hn:nz v){k:Nat}(h1:b^k≤val b v)(h2:val b v<b^(k+1)):v.length=k+1:=by
 have hp:=AQ (show 0<b by omega) k;have hne:v≠[]:=by rintro rfl;simp[val]at h1;omega
 have a1:=Bs (by omega) hd;have a2:=CH (by omega) hd hn hne;rcases Nat.lt_trichotomy v.length (k+1)with h|h|h
 ·have:=AU (show 1≤b by omega) (show v.length≤k by omega);omega
 ·exact h
 ·have:=AU (show 1≤b by omega) (show k+1≤v.length-1 by omega);omega
theorem HD{b:Int}(hb:2≤b){r:List Int}(hd:At b r){n:Nat}(hl:n≤r.length)(h:val b r<b^n):val b (r.drop n)=0:=by
 have h0:=Aw (show 0≤b by omega) (Fy hd n);have h1:=Aw (show 0≤b by omega) (AH hd n);rw[B4 b r n hl]at h;have hp:=AQ (show 0<b by omega) n;rcases yi 0 (val b (r.drop n))with g|g
 ·have:=zx (show 1≤val b (r.drop n)by omega) (show 0≤b^n by omega);omega
 ·omega
theorem On{b:Int}(hb:2≤b){r:List Int}(hd:At b r){n:Nat}(hl:n≤r.length)(h:val b (r.drop n)=0):val b r<b^n:=by
 have:=Bs (show 0<b by omega) (AH hd n);rw[zI,zW hl]at this;rw[B4 b r n hl,h];omega
theorem WW{b c d x y X:Int}(hc:0<c)(hb:b=c*d):(x+b*(y+b*X))/c=(x/c+(y % c)*d)+b*((y+b*X)/c):=by
 subst hb;have h1:(x+c*d*(y+c*d*X))/c=x/c+d*(y+c*d*X):=by
  rw[zp c d,Int.add_mul_ediv_left _ _ (by omega)]
 have h2:(y+c*d*X)/c=y/c+d*X:=by
  rw[zp c d,Int.add_mul_ediv_left _ _ (by omega)]
 have h3:=zN y c;rw[h1,h2];have e1:d*(y+c*d*X)=d*(c*(y/c)+y % c+c*d*X):=by rw[h3]
 rw[e1,zr,zr,zr (c*d)];have e2:d*(c*(y/c))=c*d*(y/c):=by rw[←zp,zq d c]
 have e3:d*(y % c)=(y % c)*d:=zq _ _;have e4:d*(c*d*X)=c*d*(d*X):=by rw[←zp,zq d (c*d),zp]
 rw[e2,e3,e4];omega
theorem Qe{b c d x k:Int}(hc:0<c)(hd:0<d)(hb:b=c*d)(hk:0≤k∧k<c)(hx:0≤x∧x<b):
  (x*c) % b=(x % d)*c∧(x % d)*c+k<b∧0≤(x % d)*c∧0≤x/d∧x/d<c∧(x % d)*c+b*(x/d)=x*c:=by
 subst hb;have h3:=zN x d;have m0:=zV x (show d≠0 by omega);have m1:=zY x hd;have q0:0≤x/d:=ye hx.1 (by omega);have q1:x/d<c:=zO hd (by have:=hx.2;omega);have p0:0≤(x % d)*c:=zH m0 (by omega);have p1:(x % d)*c≤(d-1)*c:=zj (by omega) (by omega);have p2:(d-1)*c=c*d-c:=by rw[z6,zC,zq]
 have e:(x % d)*c+c*d*(x/d)=x*c:=by
  conv=>rhs;rw[←h3]
  rw[zz,zp c d,zq c (d*(x/d))];omega
 refine⟨?_,by omega,p0,q0,q1,e⟩;rw[←e,Int.add_mul_emod_self_left];exact Int.emod_eq_of_lt p0 (by omega)
end Go.Sp
namespace Go.Sp
theorem Kc{B P u0 u1 u2 u' v1 v2 v' q r:Int}(hP:0<P)(hB:0<B)(hq:0≤q)(hv:0≤v')(hv2:0≤v2)(hu:u'<P)(hu2:u2<B)(he:q*v1+r=u0*B+u1)(h:r<v1):
  ((u0*B+u1)*B+u2)*P+u'<(q+1)*((v1*B+v2)*P+v'):=by
 have h1:u0*B+u1+1≤(q+1)*v1:=by rw[zz,zC];omega
 have h2:=zj h1 (zt hB);have h3:(u0*B+u1)*B+u2+1≤(q+1)*v1*B:=by
  rw[zz,zC]at h2;omega
 have h4:=zj h3 (zt hP);rw[zz,zC]at h4;have h5:0≤(q+1)*(v2*P):=zH (by omega) (zH hv2 (zt hP));have h6:0≤(q+1)*v':=zH (by omega) hv;have e:(q+1)*((v1*B+v2)*P+v')=(q+1)*v1*B*P+(q+1)*(v2*P)+(q+1)*v':=by
  rw[zz (v1*B),zr,zr];congr 2;rw[zp,zp,zp]
 rw[e];omega
end Go.Sp
end
section
namespace Go.Pe
open Sp
open Go.Det
theorem QA{q x y c b:Int}(hq:zu q=true)(hx:zu x=true)(hy:zu y=true)(hc:zu c=true)(hb:0≤b∧b≤1):
  zu (GQ q x)=true∧zu (GJ (GQ q x) c 0)=true∧zc .u64 (Oh q x+Mc (GQ q x) c 0)=(q*x+c)/18446744073709551616∧zu ((q*x+c)/18446744073709551616)=true∧
  zu (P7 y (GJ (GQ q x) c 0) b)=true∧(0≤Nw y (GJ (GQ q x) c 0) b∧Nw y (GJ (GQ q x) c 0) b≤1)∧
  c+b+(P7 y (GJ (GQ q x) c 0) b-y)=18446744073709551616*((q*x+c)/18446744073709551616+Nw y (GJ (GQ q x) c 0) b)-q*x:=by
 have hq:=zL hq;have hx:=zL hx;have hc:=zL hc;have h0:0≤q*x:=zH hq.1 hx.1;have h1:q*x≤18446744073709551615*18446744073709551615:=by
  have a:=zx (show x≤18446744073709551615 by omega) hq.1;have b:=zj (show q≤18446744073709551615 by omega) (show(0:Int)≤18446744073709551615 by omega);omega
 have hl:zu (GJ (GQ q x) c 0)=true:=by unfold GJ;exact Cn (by omega) (by omega)
 obtain⟨s1,s2,s3⟩:=LG hy hl hb;refine⟨?_,hl,?_,?_,s1,s2,?_⟩
 ·unfold GQ;exact Cn (by omega) (by omega)
 ·unfold GQ Oh Mc;rw[I2];generalize q*x=P at*;omega
 ·generalize q*x=P at*;exact Cn (by omega) (by omega)
 ·generalize Nw y (GJ (GQ q x) c 0) b=h at*;generalize P7 y (GJ (GQ q x) c 0) b=l at*;unfold GJ GQ at s3;generalize q*x=P at*;omega
namespace T287
variable {Q:PV→Ob→Prop}
theorem gw{lo r:List Int}{j:Nat}(h:lo.length=j)(i:Nat):(lo++r).getD (zn i j) 0=r.getD i 0:=FI lo r i j h
theorem sw{lo r:List Int}{j:Nat}(h:lo.length=j)(i:Nat)(x:Int):(lo++r).set (zn i j) x=lo++r.set i x:=Pj lo r i j x h
theorem lw{lo r:List Int}{j i:Nat}(h:lo.length=j)(hi:i<r.length):decide (zn i j<(lo++r).length)=true:=by
 refine decide_eq_true ?_;show i+j<_;rw[List.length_append];omega
theorem HO(r:List Int)(i n:Nat)(x:Int)(h:i<n):(r.set i x).drop n=r.drop n:=by
 rw[List.drop_set,if_pos h]
theorem BY(v9:Int)(v10:List Int)(v11n:Nat)(v12:Int)(v13n:Nat)(o1 o0:List Int)(v0c:Nat)(v:List Int)(n j:Nat)(lo:List Int)(m:Nat)(q W:Int)(o1':List Int)
  (hn:v.length=n) (hn9:n≤9000) (hm:n+1≤m) (hlo:lo.length=j) (hjv:j<v13n) (hj1:j<o1'.length) (hv:At Am v) (hq:zu q=true)
  (h0:∀r:List Int,r.length=m→At Am r→zf Am (r.drop (n+1))=0→zf Am r=W-q*zf Am v→Ends HN (L4 v9 v10 v11n v12 v13n (zc .i64 ((j:Int)-1)) (o1'.set j q) (lo++r)) Q)
  (h1:∀r:List Int,r.length=m→At Am r→zf Am (r.drop (n+1))=0→zf Am r=W-q*zf Am v+(Am:Int)^(n+1)→Ends HN (L8 v9 v10 v11n v12 v13n j o1 o0 j (n+1) v0c v n q 0 n 0 o1' (lo++r)) Q):
  ∀(k i:Nat) (r:List Int) (b c:Int),i+k=n→r.length=m→At Am r→zf Am (r.drop (n+1))=0→zu c=true→(0≤b∧b≤1)→zf Am r=W-q*zf Am (v.take i)+(Am:Int)^i*(c+b)→
   Ends HN (L7 v9 v10 v11n v12 v13n j o1 o0 j (n+1) v0c v n q b c n i o1' (lo++r)) Q
 |0,i,r,b,c,hi,hr,hd,hz,hc,hb,he=>by
  have hi:i=n:=by omega
  subst hi;have gy:=AP hd i;obtain⟨s1,s2,s3⟩:=LG gy hc hb;have hlw:decide (zn i j<(lo++r).length)=true:=lw hlo (by omega);have t1:(decide ((0:Int)≤(i:Int))&&decide ((i:Int)<((i+1:Nat):Int)))=true:=by simp;omega
  have hv1:v.take i=v:=zE (by omega);have hset:∀x:Int,0≤x∧x<18446744073709551616→(r.set i x).length=m∧At Am (r.set i x)∧zf Am ((r.set i x).drop (i+1))=0:=fun x hx=>
   ⟨by simp[hr],FR hd i hx,by rw[HO _ _ _ _ (by omega)];exact hz⟩
  obtain⟨e1,e2,e3⟩:=hset _ (zL s1);have ev:zf Am (r.set i (P7 (r.getD i 0) c b))=W-q*zf Am v+(Am:Int)^(i+1)*Nw (r.getD i 0) c b:=by
   rw[FX _ _ _ _ (by omega),he,hv1,Jv,zQ, ←zr];congr 2;omega
  refine zP (Dw ..) (Ends.ff (by simp) ?_);rw[zl,zl,gw hlo,sw hlo];refine zg t1 (zg hlw (zg (Aj (Aj (Aj gy hc) (decide_eq_true hb.1)) (decide_eq_true hb.2)) (zg t1 (zg hlw (ya (fun c1=>?_) (fun c1=>?_))))))
  ·have c1:Nw (r.getD i 0) c b=0:=by simpa using c1
   refine zg (by simp;omega) (zg (decide_eq_true hj1) (h0 _ e1 e2 e3 ?_));rw[ev,c1,yc,zX]
  ·have c1:Nw (r.getD i 0) c b≠0:=by simpa using c1
   refine h1 _ e1 e2 e3 ?_;rw[ev,show Nw (r.getD i 0) c b=1 by omega,Int.mul_one]
 |k+1,i,r,b,c,hi,hr,hd,hz,hc,hb,he=>by
  have gx:=AP hv i;have gy:=AP hd i;obtain⟨m1,m2,m3,m4,m5,m6,m7⟩:=QA hq gx gy hc hb;have hlw:decide (zn i j<(lo++r).length)=true:=lw hlo (by omega);have t1:(decide ((0:Int)≤(i:Int))&&decide ((i:Int)<((n+1:Nat):Int)))=true:=by simp;omega
  have e2:zc .i64 ((i:Int)+1)=((i+1:Nat):Int):=by rw[wr _ (by omega) (by omega)];omega
  refine zP (Dw ..) (zg (by simp;omega) ?_);rw[zl,gw hlo,sw hlo,m3,e2];refine zg (by simp;omega) (zg (Aj hq gx) (zg (Aj (Aj (Aj m1 hc) rfl) rfl) (zg t1 (zg hlw (zg (Aj (Aj (Aj gy m2) (decide_eq_true hb.1)) (decide_eq_true hb.2)) (zg t1 (zg hlw ?_)))))));refine BY v9 v10 v11n v12 v13n o1 o0 v0c v n j lo m q W o1' hn hn9 hm hlo hjv hj1 hv hq h0 h1 k (i+1) _ _ _ (by omega) (by simp[hr]) (FR hd i (zL m5)) (by rw[HO _ _ _ _ (by omega)];exact hz) m4 m6 ?_;rw[FX _ _ _ _ (by omega),he,Jv,Ax,zr q,z7 q];have e:(Am:Int)^i*(c+b)+(Am:Int)^i*(P7 (r.getD i 0) (GJ (GQ q (v.getD i 0)) c 0) b-r.getD i 0)=(Am:Int)^i*(18446744073709551616*((q*v.getD i 0+c)/18446744073709551616+Nw (r.getD i 0) (GJ (GQ q (v.getD i 0)) c 0) b))-(Am:Int)^i*(q*v.getD i 0):=by
   rw[←zr, ←z8,m7]
  omega
theorem Gi(v9:Int)(v10:List Int)(v11n:Nat)(v12:Int)(v13n:Nat)(o1 o0:List Int)(v0c:Nat)(v:List Int)(n j:Nat)(lo:List Int)(m:Nat)(q W:Int)(o1':List Int)
  (hn:v.length=n) (hn9:n≤9000) (hm:n+1≤m) (hlo:lo.length=j) (hjv:j<v13n) (hj1:j<o1'.length) (hv:At Am v)
  (hW:0≤W+zf Am v)
  (h0:∀r:List Int,r.length=m→At Am r→zf Am (r.drop (n+1))=0→zf Am r=W+zf Am v→Ends HN (L4 v9 v10 v11n v12 v13n (zc .i64 ((j:Int)-1)) (o1'.set j (zc .u64 (q-1))) (lo++r)) Q):
  ∀(k i:Nat) (r:List Int) (c:Int),i+k=n→r.length=m→At Am r→zf Am (r.drop (n+1))=0→(0≤c∧c≤1)→zf Am r=W+(Am:Int)^(n+1)+zf Am (v.take i)-(Am:Int)^i*c→
   Ends HN (L8 v9 v10 v11n v12 v13n j o1 o0 j (n+1) v0c v n q c n i o1' (lo++r)) Q
 |0,i,r,c,hi,hr,hd,hz,hc,he=>by
  have hi:i=n:=by omega
  subst hi;have gy:=zL (AP hd i);have hlw:decide (zn i j<(lo++r).length)=true:=lw hlo (by omega);have t1:(decide ((0:Int)≤(i:Int))&&decide ((i:Int)<((i+1:Nat):Int)))=true:=by simp;omega
  have hv1:v.take i=v:=zE (by omega);have gm:0≤(r.getD i 0+c) % 18446744073709551616∧(r.getD i 0+c) % 18446744073709551616<18446744073709551616:=by omega
  have e1:(r.set i ((r.getD i 0+c) % 18446744073709551616)).length=m:=by simp[hr]
  have e2:At Am (r.set i ((r.getD i 0+c) % 18446744073709551616)):=FR hd i gm;have e3:zf Am ((r.set i ((r.getD i 0+c) % 18446744073709551616)).drop (i+1))=0:=by rw[HO _ _ _ _ (by omega)];exact hz
  have eb:=On (b:=Am) (by decide) e2 (n:=i+1) (by omega) e3;refine zP (E7 ..) (Ends.ff (by simp) ?_);rw[zl,zl,gw hlo,sw hlo,I2 (r.getD i 0+c)];refine zg t1 (zg hlw (zg t1 (zg hlw (zg (by simp;omega) (zg (decide_eq_true hj1) (h0 _ e1 e2 e3 ?_))))));have hp:=AQ (b:=Am) (by decide) i;rw[FX _ _ _ _ (by omega),he,hv1]at eb ⊢;rcases show(r.getD i 0+c) % 18446744073709551616=r.getD i 0+c∨(r.getD i 0+c) % 18446744073709551616=r.getD i 0+c-18446744073709551616 by omega with g|g
  ·exfalso;rw[g,show r.getD i 0+c-r.getD i 0=c by omega]at eb;omega
  ·have ep:(Am:Int)^(i+1)=(Am:Int)^i*18446744073709551616:=zM ..;rw[g,show r.getD i 0+c-18446744073709551616-r.getD i 0=c-18446744073709551616 by omega,z8,ep];omega
 |k+1,i,r,c,hi,hr,hd,hz,hc,he=>by
  have gx:=AP hv i;have gy:=AP hd i;obtain⟨m1,m2,m3⟩:=IL gy gx hc;have hlw:decide (zn i j<(lo++r).length)=true:=lw hlo (by omega);have t1:(decide ((0:Int)≤(i:Int))&&decide ((i:Int)<((n+1:Nat):Int)))=true:=by simp;omega
  have e2:zc .i64 ((i:Int)+1)=((i+1:Nat):Int):=by rw[wr _ (by omega) (by omega)];omega
  refine zP (E7 ..) (zg (by simp;omega) ?_);rw[zl,gw hlo,sw hlo,e2];refine zg t1 (zg hlw (zg (by simp;omega) (zg (Aj (Aj (Aj gy gx) (decide_eq_true hc.1)) (decide_eq_true hc.2)) (zg t1 (zg hlw ?_)))));refine Gi v9 v10 v11n v12 v13n o1 o0 v0c v n j lo m q W o1' hn hn9 hm hlo hjv hj1 hv hW h0 k (i+1) _ _ (by omega) (by simp[hr]) (FR hd i (zL m1)) (by rw[HO _ _ _ _ (by omega)];exact hz) m2 ?_;rw[FX _ _ _ _ (by omega),he,Jv,Ax];have e:(Am:Int)^i*(GJ (r.getD i 0) (v.getD i 0) c-r.getD i 0)-(Am:Int)^i*c=(Am:Int)^i*v.getD i 0-(Am:Int)^i*(18446744073709551616*Mc (r.getD i 0) (v.getD i 0) c):=by
   rw[←z8, ←z8];congr 1;omega
  omega
theorem aF(v9:Int)(v10:List Int)(v11n:Nat)(v12:Int)(v13n:Nat)(o1 o0:List Int)(v0c:Nat)(v:List Int)(n j:Nat)(lo:List Int)(m:Nat)(r0 o1':List Int)
  (hn:v.length=n) (hn9:n≤9000) (hm:n+1≤m) (hlo:lo.length=j) (hjv:j<v13n) (hj1:j<o1'.length) (hv:At Am v)
  (hr:r0.length=m) (hd:At Am r0) (hz:zf Am (r0.drop (n+1))=0)
  (hfin:∀(q:Int) (r:List Int),r.length=m→At Am r→(0≤q∧q<18446744073709551616)→zf Am r<zf Am v→zf Am r=zf Am r0-q*zf Am v→Ends HN (L4 v9 v10 v11n v12 v13n (zc .i64 ((j:Int)-1)) (o1'.set j q) (lo++r)) Q)
  (q:Int) (hq:zu q=true) (h1:zf Am r0<(q+1)*zf Am v) (h2:q*zf Am v<zf Am r0+zf Am v):
  Ends HN (L7 v9 v10 v11n v12 v13n j o1 o0 j (n+1) v0c v n q 0 0 n 0 o1' (lo++r0)) Q:=by
 have gq:=zL hq;have hW0:=Aw (b:=Am) (by decide) hd;have hV0:=Aw (b:=Am) (by decide) hv;rw[zz,zC]at h1;refine BY v9 v10 v11n v12 v13n o1 o0 v0c v n j lo m q (zf Am r0) o1' hn hn9 hm hlo hjv hj1 hv hq (fun r a b c d=>hfin q r a b gq (by omega) d) (fun r a b c d=>?_) n 0 r0 0 0 (by omega) hr hd hz (by decide) (by decide) (by simp[zf]);have hb:=On (b:=Am) (by decide) b (n:=n+1) (by omega) c;have hq1:1≤q:=by
  rcases yi 0 q with g|g
  ·exact g
  ·have:q=0:=by omega
   subst this;rw[yj]at d;omega
 have ew:zc .u64 (q-1)=q-1:=wu _ (by omega) (by omega);refine Gi v9 v10 v11n v12 v13n o1 o0 v0c v n j lo m q (zf Am r0-q*zf Am v) o1' hn hn9 hm hlo hjv hj1 hv (by omega) (fun r' a' b' c' d'=>?_) n 0 r 0 (by omega) a b c (by decide) (by rw[d];simp[zf]);rw[ew];refine hfin (q-1) r' a' b' (by omega) (by omega) ?_;rw[d',z6,zC];omega
end T287
end Go.Pe
end
section
namespace Go.Pe
open Sp
open Go.Det
namespace T287
variable {Q:PV→Ob→Prop}
theorem kD(q x:Int):Oh q x*18446744073709551616+GQ q x=q*x∧0≤GQ q x∧GQ q x<18446744073709551616:=by
 unfold Oh GQ;generalize q*x=P;omega
theorem BP(v9:Int)(v10:List Int)(v11n:Nat)(v12:Int)(v13n:Nat)(o1 o0:List Int)(v0c:Nat)(v:List Int)(k j:Nat)(lo:List Int)(m:Nat)(r0 o1':List Int)
  (hn:v.length=k+2) (hn9:k+2≤9000) (hm:k+3≤m) (hlo:lo.length=j) (hjv:j<v13n) (hj1:j<o1'.length) (hv:At Am v)
  (hr:r0.length=m) (hd:At Am r0) (hz:zf Am (r0.drop (k+3))=0) (hv1:1≤v.getD (k+1) 0)
  (hfin:∀(q:Int) (r:List Int),r.length=m→At Am r→(0≤q∧q<18446744073709551616)→zf Am r<zf Am v→zf Am r=zf Am r0-q*zf Am v→Ends HN (L4 v9 v10 v11n v12 v13n (zc .i64 ((j:Int)-1)) (o1'.set j q) (lo++r)) Q):
  ∀(f:Nat) (q r o:Int),0≤q→q<f→q<18446744073709551616→zu r=true→(o=0∨o=1)→q*v.getD (k+1) 0+(r+18446744073709551616*o)=r0.getD (k+2) 0*18446744073709551616+r0.getD (k+1) 0→zf Am r0<(q+1)*zf Am v→
   Ends HN (L5 v9 v10 v11n v12 v13n j o1 o0 j (k+3) v0c v ((k+2:Nat):Int) q r o o1' (lo++r0)) Q
 |0,q,r,o,h0,hf,_,_,_,_,_=>by omega
 |f+1,q,r,o,h0,hf,hB,hr64,ho,he,hup=>by
  have uq:zu q=true:=Cn h0 hB;have uv2:=AP hv k;have uv1:=AP hv (k+1);have uu2:=AP hd k;have gv2:=zL uv2;have gv1:=zL uv1;have gu2:=zL uu2;have gr:=zL hr64;have hP:=AQ (b:=Am) (by decide) k;have hW:=aX Am r0 k (by omega) hz;have hV:=ZK Am v k hn;have hu':=Aw (b:=Am) (by decide) (AH hd k);have hu'':=Bs (b:=Am) (by decide) (AH hd k);have hv':=Aw (b:=Am) (by decide) (AH hv k);have hv'':=Bs (b:=Am) (by decide) (AH hv k);rw[zI,zW (by omega)]at hu'' hv'';have exit:q*v.getD k 0≤(r+18446744073709551616*o)*18446744073709551616+r0.getD k 0→Ends HN (L7 v9 v10 v11n v12 v13n j o1 o0 j (k+3) v0c v ((k+2:Nat):Int) q 0 0 ((k+2:Nat):Int) 0 o1' (lo++r0)) Q:=by
   intro hx;refine aF v9 v10 v11n v12 v13n o1 o0 v0c v (k+2) j lo m r0 o1' hn hn9 hm hlo hjv hj1 hv hr hd hz hfin q uq hup ?_;rw[hW,hV];exact Rn hP ⟨hv',hv''⟩ hu' ⟨h0,hB⟩ hv1 gv2.1 he hx
  have e1:zc .i64 (((k+2:Nat):Int)-2)=(k:Int):=by rw[wr _ (by omega) (by omega)];omega
  have e2:zc .i64 (((k+2:Nat):Int)-1)=((k+1:Nat):Int):=by rw[wr _ (by omega) (by omega)];omega
  obtain⟨w1,w2,w3⟩:=kD q (v.getD k 0);have hlw:decide (zn k j<(lo++r0).length)=true:=lw hlo (by omega);refine zP (CZ ..) (ya (fun c=>?_) (fun c=>?_))
  ·have c:o=0:=by simpa using c
   subst c;rw[e1,e2,zl,zl,gw hlo];refine zg (by simp;omega) (zg (Aj uq uv2) ?_);have dec:r*18446744073709551616+r0.getD k 0<q*v.getD k 0→Ends HN (L5 v9 v10 v11n v12 v13n j o1 o0 j (k+3) v0c v ((k+2:Nat):Int) (zc .u64 (q-1)) (GJ r (v.getD (k+1) 0) 0) (Mc r (v.getD (k+1) 0) 0) o1' (lo++r0)) Q:=by
    intro hx;obtain⟨a1,a2,a3⟩:=IL hr64 uv1 (c:=0) (by decide);have hq1:1≤q:=by
     rcases yi 0 q with g|g
     ·exact g
     ·have:q=0:=by omega
      subst this;rw[yj]at hx;omega
    rw[wu (q-1) (by omega) (by omega)];refine BP v9 v10 v11n v12 v13n o1 o0 v0c v k j lo m r0 o1' hn hn9 hm hlo hjv hj1 hv hr hd hz hv1 hfin f (q-1) _ _ (by omega) (by omega) (by omega) a1 (by omega) ?_ ?_
    ·rw[z6,zC,a3];omega
    ·have he':q*v.getD (k+1) 0+r=r0.getD (k+2) 0*18446744073709551616+r0.getD (k+1) 0:=by omega
     have:=Qv (B:=Am) (u0:=r0.getD (k+2) 0) (u1:=r0.getD (k+1) 0) (u2:=r0.getD k 0) hP hv' hu'' h0 (v1:=v.getD (k+1) 0) (v2:=v.getD k 0) (r:=r) he' hx;rw[←hW, ←hV]at this;rw[show q-1+1=q by omega];exact this
   refine ya (fun c1=>exit ?_) (fun c1=>ya (fun c2=>zg (by simp;omega) (zg hlw (ya (fun c3=>exit ?_) (fun c3=>zg (by simp;omega) (zg (Aj (Aj (Aj hr64 uv1) rfl) rfl) (dec ?_)))))) (fun c2=>zg (by simp;omega) (zg (Aj (Aj (Aj hr64 uv1) rfl) rfl) (dec ?_))))
   ·have c1:=of_decide_eq_true c1;omega
   ·have c2:Oh q (v.getD k 0)=r:=by simpa using c2
    have c3:=of_decide_eq_true c3;omega
   ·have c2:Oh q (v.getD k 0)=r:=by simpa using c2
    have c3:=of_decide_eq_false c3;omega
   ·have c1:=of_decide_eq_false c1;have c2:Oh q (v.getD k 0)≠r:=by simpa using c2
    omega
  ·have c:o≠0:=by simpa using c
   refine exit ?_;have a:=zx (show v.getD k 0≤18446744073709551615 by omega) h0;omega
theorem A5(s:Int)(v:List Int)(k la:Nat)(hn:v.length=k+2)(hla:la≤9000)(hkl:k+2≤la)(hv:At Am v)(hv1:1≤v.getD (k+1) 0)(W0:Int)
  (hq:∀u qs:List Int,u.length=la+1→At Am u→At Am qs→zf Am u<zf Am v→qs.length=la-(k+2)+1→W0=zf Am u+zf Am v*zf Am qs→Ends HN (L6 s (la+1) ((k+2:Nat):Int) (la-(k+2)+1) ((k+2:Nat):Int) 0 qs u) Q):
  ∀(t:Nat) (u qs:List Int),t+qs.length=la-(k+2)+1→u.length=la+1→At Am u→At Am qs→zf Am (u.drop t)<zf Am v→W0=zf Am u+zf Am v*((Am:Int)^t*zf Am qs)→
   Ends HN (L4 s v (la+1) ((k+2:Nat):Int) (la-(k+2)+1) ((t:Int)-1) (zo t 0++qs) u) Q
 |0,u,qs,hl,hu,hd,hdq,hlt,he=>by
  refine zP (BB ..) (Ends.ff (by simp) ?_);exact hq u qs hu hd hdq hlt (by omega) (by rw[he,yh,zC])
 |j+1,u,qs,hl,hu,hd,hdq,hlt,he=>by
  obtain⟨lo,r,rfl,hlo⟩:∃lo r:List Int,u=lo++r∧lo.length=j:=⟨u.take j,u.drop j,(List.take_append_drop j u).symm,by rw[zI];omega⟩;have hdlo:At Am lo:=fun d hd'=>hd d (yf.2 (.inl hd'))
  have hdr:At Am r:=fun d hd'=>hd d (yf.2 (.inr hd'))
  have hrl:r.length=la+1-j:=by rw[List.length_append]at hu;omega
  have hdrop:∀z:List Int,(lo++z).drop j=z:=fun z=>by rw[←hlo];exact List.drop_left
  have hr0:r=r.getD 0 0::r.drop 1:=by
   have:=Ci (l:=r) (i:=0) (by omega);rw[List.drop_zero]at this;exact this
  have hd1:(lo++r).drop (j+1)=r.drop 1:=by rw[Nat.add_comm j 1,Nat.add_comm 1 j, ←List.drop_drop,hdrop]
  rw[hd1]at hlt;have g0:=Nj (b:=Am) (by decide) hdr 0;have hvr:zf Am r=r.getD 0 0+18446744073709551616*zf Am (r.drop 1):=by
   conv=>lhs;rw[hr0]
   rfl
  have hVlt:=Bs (b:=Am) (by decide) hv;rw[hn]at hVlt;have g0:0≤r.getD 0 0∧r.getD 0 0<18446744073709551616:=g0;have hrV:zf Am r<18446744073709551616*zf Am v:=by rw[hvr];omega
  have hz:zf Am (r.drop (k+3))=0:=by
   refine HD (b:=Am) (by decide) hdr (by omega) ?_;have ep:(Am:Int)^(k+3)=(Am:Int)^(k+2)*18446744073709551616:=zM ..;rw[ep];omega
  have uu0:=AP hdr (k+2);have uu1:=AP hdr (k+1);have uu2:=AP hdr k;have uv1:=AP hv (k+1);have gu0:=zL uu0;have gu1:=zL uu1;have gu2:=zL uu2;have gv1:=zL uv1;have gv2:=zL (AP hv k);have hP:=AQ (b:=Am) (by decide) k;have hW:=aX Am r k (by omega) hz;have hV:=ZK Am v k hn;have hu':=Aw (b:=Am) (by decide) (AH hdr k);have hu'':=Bs (b:=Am) (by decide) (AH hdr k);have hv':=Aw (b:=Am) (by decide) (AH hv k);rw[zI,zW (by omega)]at hu'';have hle:r.getD (k+2) 0≤v.getD (k+1) 0:=by
   have a1:=B4 Am (r.drop 1) (k+1) (by rw[List.length_drop];omega);have a2:(r.drop 1).drop (k+1)=r.getD (k+2) 0::r.drop (k+3):=by
    rw[List.drop_drop,show 1+(k+1)=k+2 by omega];exact Ci (by omega)
   have a3:zf Am (r.getD (k+2) 0::r.drop (k+3))=r.getD (k+2) 0:=by
    show r.getD (k+2) 0+(Am:Int)*zf Am (r.drop (k+3))=_;rw[hz];omega
   rw[a2,a3]at a1;have b1:zf Am v=zf Am (v.take (k+1))+(Am:Int)^(k+1)*v.getD (k+1) 0:=by
    rw[←Ax,zE (by omega)]
   have b2:=Bs (b:=Am) (by decide) (AH hv (k+1));rw[zI,zW (by omega)]at b2;have c1:=Aw (b:=Am) (by decide) (AH (Fy hdr 1) (k+1));have c2:(Am:Int)^(k+1)*r.getD (k+2) 0<(Am:Int)^(k+1)*(v.getD (k+1) 0+1):=by
    rw[zr,Int.mul_one];omega
   have:=Int.lt_of_mul_lt_mul_left c2 (zt (AQ (by decide) (k+1)));omega
  have hfin:∀(q:Int) (r':List Int),r'.length=la+1-j→At Am r'→(0≤q∧q<18446744073709551616)→zf Am r'<zf Am v→zf Am r'=zf Am r-q*zf Am v→Ends HN (L4 s v (la+1) ((k+2:Nat):Int) (la-(k+2)+1) (zc .i64 ((j:Int)-1)) ((zo (j+1) 0++qs).set j q) (lo++r')) Q:=by
   intro q r' h1 h2 h3 h4 h5;have es:(zo (j+1) (0:Int)++qs).set j q=zo j 0++(q::qs):=by
    rw[List.replicate_succ',zD];exact Ch _ _ _ _ (by simp)
   rw[es,wr ((j:Int)-1) (by omega) (by omega)];refine A5 s v k la hn hla hkl hv hv1 W0 hq j (lo++r') (q::qs) (by simp;omega) (by simp;omega) (Ee hdlo h2) (fun d hd'=>?_) (by rw[hdrop];exact h4) ?_
   ·rcases List.mem_cons.1 hd' with rfl|hd'
    ·exact h3
    ·exact hdq d hd'
   ·rw[he,Cv,Cv,hlo,h5,Jv];show zf Am lo+(Am:Int)^j*zf Am r+zf Am v*((Am:Int)^j*(18446744073709551616*zf Am qs))=zf Am lo+(Am:Int)^j*(zf Am r-q*zf Am v)+zf Am v*((Am:Int)^j*(q+18446744073709551616*zf Am qs));have x1:zf Am v*((Am:Int)^j*q)=(Am:Int)^j*(q*zf Am v):=by
     rw[z7,zq (zf Am v) q]
    rw[z8,zr ((Am:Int)^j) q,zr (zf Am v),x1];omega
  have ez:zn 0 j=j:=Nat.zero_add j;have e0:(((j+1:Nat):Int)-1)=(j:Int):=by omega
  have e1:zc .i64 (zc .i64 ((j:Int)+((k+2:Nat):Int))+1)=((j+(k+3):Nat):Int):=by
   rw[wr ((j:Int)+((k+2:Nat):Int)) (by omega) (by omega),wr _ (by omega) (by omega)];omega
  have e2:zc .i64 (((k+2:Nat):Int)-1)=((k+1:Nat):Int):=by rw[wr _ (by omega) (by omega)];omega
  have e3:zA (j+(k+3)) j=k+3:=by show j+(k+3)-j=_;omega
  have lw1:decide (zn (k+2) j<(lo++r).length)=true:=lw hlo (by omega);have lw2:decide (zn (k+1) j<(lo++r).length)=true:=lw hlo (by omega);rw[e0];refine zP (BB ..) (zg (by simp) ?_);rw[hn,e1,e2,zl,zl,zl,zl,ez,e3,gw hlo,gw hlo];have b1:(decide ((0:Int)≤((k+2:Nat):Int))&&decide (((k+2:Nat):Int)<((k+3:Nat):Int)))=true:=by simp;omega
  have b2:(decide ((0:Int)≤((k+1:Nat):Int))&&decide (((k+1:Nat):Int)<((k+2:Nat):Int)))=true:=by simp;omega
  have b3:(decide ((0:Int)≤((k+1:Nat):Int))&&decide (((k+1:Nat):Int)<((k+3:Nat):Int)))=true:=by simp;omega
  have hjl:j<(zo (j+1) (0:Int)++qs).length:=by simp;omega
  refine zg (by simp;omega) (zg b1 (zg lw1 (zg b2 (ya (fun c=>?_) (fun c=>?_)))))
  ·have c:=of_decide_eq_true c;obtain⟨a1,a2,a3⟩:=IL uu1 uv1 (c:=0) (by decide);refine zg b3 (zg lw2 (zg b2 (zg (Aj (Aj (Aj uu1 uv1) rfl) rfl) ?_)));refine BP s v (la+1) _ _ _ _ _ v k j lo (la+1-j) r _ hn (by omega) (by omega) hlo (by omega) hjl hv hrl hdr hz hv1 hfin 18446744073709551616 _ _ _ (by decide) (by decide) (by decide) a1 (by omega) ?_ ?_
   ·rw[a3];omega
   ·exact hrV
  ·have c:=of_decide_eq_false c;obtain⟨d1,d2,d3,d4,d5⟩:=kQ (r:=r.getD (k+2) 0) (x:=r.getD (k+1) 0) (d:=v.getD (k+1) 0) (by omega) (by omega) gu1;refine zg b1 (zg lw1 (zg b3 (zg lw2 (zg b2 (zg (Aj (Aj (Aj uu0 uu1) uv1) (decide_eq_true (by omega))) ?_)))));refine BP s v (la+1) _ _ _ _ _ v k j lo (la+1-j) r _ hn (by omega) (by omega) hlo (by omega) hjl hv hrl hdr hz hv1 hfin 18446744073709551616 _ _ _ d2 d3 d3 (Cn d4 (by omega)) (.inl rfl) ?_ ?_
   ·rw[←d1];omega
   ·rw[hW,hV];exact Kc hP (by decide) d2 hv' gv2.1 hu'' gu2.2 d1 d5
end T287
end Go.Pe
end
section
namespace Go.Pe
open Sp
open Go.Det
theorem QY{a b:Int}{s:Nat}(ha:0≤a)(hb:0≤b)(h:b<2^s)(hm:a*2^s+b<18446744073709551616):U9 .u64 b (a*2^s)=a*2^s+b:=by
 have:=Ti ha hb h hm;rw[←this];show zc .u64 (((yd 64 b|||yd 64 (a*2^s)).toNat:Nat):Int)=zc .u64 (((yd 64 (a*2^s)|||yd 64 b).toNat:Nat):Int);rw[BitVec.or_comm]
theorem T6{s:Nat}(hs:s≤63):(18446744073709551616:Int)=2^s*2^(64-s):=by rw[←Int.pow_add,show s+(64-s)=64 by omega];rfl
namespace T287
variable {Q:PV→Ob→Prop}
theorem Ht(s:Nat)(hs:s≤63)(la n m:Nat)(hn:n≤la)(hla:la≤9000)(u qs:List Int)(hu:u.length=la+1)(hd:At Am u)(hz:zf Am (u.drop n)=0)(hm:qs.length=m)(hm9:m≤9000)(hdq:At Am qs)
  (hq:∀(w:List Int) ob,At Am w→zf Am w=zf Am u/2^s→Q (.tup [.dat CJ (Az qs),.dat CJ (Az w)]) ob):
  ∀(k i:Nat) (p:List Int),i+k=n→p.length=i→At Am p→zf Am p+(Am:Int)^i*(zf Am (u.drop i)/2^s)=zf Am u/2^s→
   Ends HN (L6 s (la+1) n m n i qs (p++u.drop i)) Q
 |0,i,p,hi,hp,hdp,he=>by
  have hi:i=n:=by omega
  subst hi;have ht:(p++u.drop i).take i=p:=by rw[←hp];exact List.take_left
  have ht2:qs.take m=qs:=zE (by omega);rw[hz,Int.zero_ediv,yc,zX]at he;refine zP (DP ..) (Ends.ff (by simp) ?_);rw[zl,ht,ht2];refine zg (by simp;omega) (zg (Aj (by simp;omega) (DE (by omega) hdq)) (zg (Aj (by simp;omega) (DE (by omega) hdp)) (Ends.leaf (hq p _ hdp he))))
 |k+1,i,p,hi,hp,hdp,he=>by
  have d1:=Ci (l:=u) (i:=i) (by omega);have d2:=Ci (l:=u) (i:=i+1) (by omega);have gx:=zL (AP hd i);have gy:=zL (AP hd (i+1));have g1:(p++u.drop i).getD i 0=u.getD i 0:=by rw[d1];exact Cj _ _ _ _ hp
  have s1:∀z,(p++u.drop i).set i z=p++z::u.drop (i+1):=fun z=>by rw[d1];exact Ch _ _ _ _ hp
  have s2:∀z x,(p++z::u.drop (i+1)).set i x=(p++[x])++u.drop (i+1):=fun z x=>by rw[Ch _ _ _ _ hp,zD];rfl
  have g2:∀z,(p++z::u.drop (i+1)).getD i 0=z:=fun z=>Cj _ _ _ _ hp
  have g3:∀z,(p++z::u.drop (i+1)).getD (i+1) 0=u.getD (i+1) 0:=fun z=>by
   rw[d2,show p++z::u.getD (i+1) 0::u.drop (i+1+1)=(p++[z])++u.getD (i+1) 0::u.drop (i+1+1)by rw[zD];rfl];exact Cj _ _ _ _ (by simp[hp])
  have hlen:∀z,(p++z::u.drop (i+1)).length=la+1:=fun z=>by simp;omega
  have hlen0:(p++u.drop i).length=la+1:=by simp;omega
  have e2:zc .i64 ((i:Int)+1)=((i+1:Nat):Int):=by rw[wr _ (by omega) (by omega)];omega
  have e3:zc .i64 ((64:Int)-(s:Int))=((64-s:Nat):Int):=by rw[wr _ (by omega) (by omega)];omega
  have em:yb s 64=s:=by omega
  have em2:yb (64-s) 64=64-s:=by omega
  have hB:=T6 hs;have hc:(0:Int)<2^s:=zU (by decide);have hd':(0:Int)<2^(64-s):=zU (by decide);have efd:z9 (u.getD i 0) ((2:Int)^s)=u.getD i 0/2^s:=zZ _ (zt hc);have a0:0≤u.getD i 0/2^s:=ye gx.1 (zt hc);have a1:u.getD i 0/2^s<2^(64-s):=zO hc (by rw[zq, ←hB];exact gx.2);have m0:=zV (u.getD (i+1) 0) (show(2:Int)^s≠0 by omega);have m1:=zY (u.getD (i+1) 0) hc;have p0:0≤(u.getD (i+1) 0 % 2^s)*2^(64-s):=zH m0 (zt hd');have p1:(u.getD (i+1) 0 % 2^s)*2^(64-s)≤18446744073709551616-2^(64-s):=by
   have:=zj (show u.getD (i+1) 0 % 2^s≤2^s-1 by omega) (zt hd');rw[z6,zC, ←hB]at this;exact this
  have hnew:0≤u.getD i 0/2^s+(u.getD (i+1) 0 % 2^s)*2^(64-s)∧u.getD i 0/2^s+(u.getD (i+1) 0 % 2^s)*2^(64-s)<18446744073709551616:=by omega
  have ewy:zc .u64 (u.getD (i+1) 0*2^(64-s))=(u.getD (i+1) 0 % 2^s)*2^(64-s):=by
   rw[I2];exact(Qe (b:=18446744073709551616) (c:=2^(64-s)) (d:=2^s) (k:=0) hd' hc (by rw[hB,zq]) ⟨Int.le_refl _,hd'⟩ gy).1
  have eio:U9 .u64 (u.getD i 0/2^s) ((u.getD (i+1) 0 % 2^s)*2^(64-s))=u.getD i 0/2^s+(u.getD (i+1) 0 % 2^s)*2^(64-s):=by
   rw[QY m0 a0 a1 (by omega),Int.add_comm]
  have next:∀z,z=u.getD i 0/2^s+(u.getD (i+1) 0 % 2^s)*2^(64-s)→Ends HN (L6 s (la+1) n m n ((i+1:Nat):Int) qs ((p++[z])++u.drop (i+1))) Q:=by
   intro z hz';refine Ht s hs la n m hn hla u qs hu hd hz hm hm9 hdq hq k (i+1) (p++[z]) (by omega) (by simp[hp]) (Dr hdp (by rw[hz'];exact Cn hnew.1 hnew.2)) ?_;rw[←he,Ek,hp,Jv,zQ, ←zr];congr 2;have:=WW (b:=18446744073709551616) (c:=2^s) (d:=2^(64-s)) (x:=u.getD i 0) (y:=u.getD (i+1) 0) (X:=zf Am (u.drop (i+1+1))) hc hB;rw[hz',d1,d2];exact this.symm
  have b1:(decide ((0:Int)≤(i:Int))&&decide ((i:Int)<((la+1:Nat):Int)))=true:=by simp;omega
  have b2:(decide ((0:Int)≤((i+1:Nat):Int))&&decide (((i+1:Nat):Int)<((la+1:Nat):Int)))=true:=by simp;omega
  refine zP (DP ..) (zg (by simp;omega) ?_);rw[e2,e3,zl,zl,zl,zl,em,em2,g1,efd,s1,g2,g3,s2,ewy,eio,hlen,hlen0];refine zg b1 (zg (decide_eq_true (by omega)) (zg (by simp) (zg b1 (zg (decide_eq_true (by omega)) (ya (fun c=>zg (by simp;omega) (zg b1 (zg (decide_eq_true (by omega)) (zg b2 (zg (decide_eq_true (by omega)) (zg (by simp) (zg b1 (zg (decide_eq_true (by omega)) (next _ rfl))))))))) (fun c=>?_))))));have c:=of_decide_eq_false c;have hs0:s=0:=by omega
  subst hs0;rw[show ∀z:Int,p++z::u.drop (i+1)=(p++[z])++u.drop (i+1)from fun z=>by rw[zD];rfl];refine next _ ?_;rw[yh,Int.emod_one,yj,zX]
theorem Pk{X:AX}{F:Int→List Int→Tr}(w:List Int)(s:Nat)(hs:s≤63)(hd:At Am w)
  (Cd:∀(i:Nat) (o:List Int),i<w.length→o.length=w.length+1→Ends X (F ((i+1:Nat):Int) (if 0<s then(o.set i (U9 .u64 (o.getD i 0) (zc .u64 (w.getD i 0*2^s)))).set (i+1) (z9 (w.getD i 0) (2^(64-s)))else o.set i (U9 .u64 (o.getD i 0) (zc .u64 (w.getD i 0*2^s))))) Q→Ends X (F i o) Q)
  (hend:∀o:List Int,o.length=w.length+1→At Am o→zf Am o=2^s*zf Am w→Ends X (F w.length o) Q):
  ∀(k i:Nat) (p:List Int) (c:Int),i+k=w.length→p.length=i→At Am p→(0≤c∧c<2^s)→zf Am p+(Am:Int)^i*c=2^s*zf Am (w.take i)→Ends X (F i (p++c::zo k 0)) Q
 |0,i,p,c,hi,hp,hdp,hc,he=>by
  have hi:i=w.length:=by omega
  subst hi;have hP:(2:Int)^s≤18446744073709551616:=by
   have:=T6 hs;have h1:(1:Int)≤2^(64-s):=zU (by decide);have h2:=zx h1 (show(0:Int)≤2^s from zt (zU (by decide)));omega
  rw[List.take_length]at he;refine hend _ (by simp[hp]) (Dr hdp (Cn hc.1 (by omega))) ?_;rw[←he];show zf Am (p++[c])=_;rw[Ek,hp]
 |k+1,i,p,c,hi,hp,hdp,hc,he=>by
  have gx:=zL (AP hd i);have hB:=T6 hs;have h2s:(0:Int)<2^s:=zU (by decide);have h2d:(0:Int)<2^(64-s):=zU (by decide);obtain⟨s1,s2,s3,s4,s5,s6⟩:=Qe (b:=18446744073709551616) (c:=2^s) (d:=2^(64-s)) (x:=w.getD i 0) (k:=c) h2s h2d hB hc gx;have efd:z9 (w.getD i 0) ((2:Int)^(64-s))=w.getD i 0/2^(64-s):=zZ _ (zt h2d);have g1:(p++c::zo (k+1) 0).getD i 0=c:=Cj _ _ _ _ hp;have st:∀z:Int,(p++c::zo (k+1) 0).set i z=p++z::zo (k+1) 0:=fun z=>Ch _ _ _ _ hp
  have st2:∀z y:Int,(p++z::zo (k+1) 0).set (i+1) y=(p++[z])++y::zo k 0:=fun z y=>by
   rw[show p++z::zo (k+1) (0:Int)=(p++[z])++0::zo k 0 by rw[zD];rfl];exact Ch _ _ _ _ (by simp[hp])
  have eio:U9 .u64 c ((w.getD i 0 % 2^(64-s))*2^s)=(w.getD i 0 % 2^(64-s))*2^s+c:=QY (zV _ (by omega)) hc.1 hc.2 s2;have go:=Pk w s hs hd Cd hend k (i+1) (p++[(w.getD i 0 % 2^(64-s))*2^s+c]) (w.getD i 0/2^(64-s)) (by omega) (by simp[hp]) (Dr hdp (Cn (by omega) s2)) ⟨s4,s5⟩ (by
   rw[Ek,hp,Jv,Ax,zr (2^s), ←he,zQ,zQ, ←zr,z7 (2^s), ←zr];congr 2;rw[zq (2^s)];omega)
  refine Cd i _ (by omega) (by simp;omega) ?_;rw[I2,s1,efd,g1,eio,st,st2];by_cases h0:0<s
  ·rw[if_pos h0];exact go
  ·have hs0:s=0:=by omega
   subst hs0;have hz:w.getD i 0/2^(64-0)=0:=Int.ediv_eq_zero_of_lt gx.1 gx.2;rw[hz]at go;rw[if_neg h0,show ∀z:Int,p++z::zo (k+1) (0:Int)=(p++[z])++0::zo k 0 from fun z=>by rw[zD];rfl];exact go
end T287
end Go.Pe
end
