import Derived.Test.YtlapcggejnojjaaGreatDoorX10
import Derived.Test.YtlapcggejnojjaaGreatDoorX11
import Derived.Test.YtlapcggejnojjaaGreatDoorX13
import Derived.Test.YtlapcggejnojjaaGreatDoorX09
import Derived.Test.YtlapcggejnojjaaGreatDoorX04
/- A part of a proof (no law is stated here). Made by program out of texts by AI agents. -/
open Go.Pe.Ends renaming tt → zc, An → ze, leaf → zf, ite → zg, ff → zi, eq → zA
open Go.IntKind renaming wrap → zd, i64 → zS
open Go.Pe.Sh renaming list → zh, str → zr, pair → zw, bool → zJ
open Int renaming toNat → zj, tdiv → zo, toNat_natCast → zx, mul_le_mul_of_nonneg_left → zG, tmod → zN, eq_ofNat_of_zero_le → zP, mul_le_mul → zU
open Go.Sp renaming first → zk, upto → zn, tk → zz
open Go.Fn renaming func → zl
open List renaming getD → zm, take_succ_eq_append_getElem → zp, replicate → zt, mem_cons_of_mem → zy, mem_cons_self → zC, length_take → zD, any_cons → zE, append_nil → zH, mem_map → zK, mem_or_eq_of_mem_set → zL, take_length → zO, range_succ_eq_map → zQ, map_append → zR
open Nat renaming zero_le → zq, add → zM
open Option renaming some → zu, getD → zT
open Bool renaming eq_iff_iff → zB, false_or → zF, true_or → zW
open Go.Pe.PV renaming fn → zI
open Go.Pe.Af renaming of → zV
section
namespace Go.Pe
open Sp
open Go.Det
noncomputable section
open List Int Prod
namespace T6
def T(h:List (Int×Int))(c:List UInt8×List (Int×List UInt8)):Tr:=tree fL false 9 6 (Ah ([zh (zw i64 i64),zw zr (zh (zw i64 zr))]) (h,c))
theorem Ay(h:List (Int×Int))(c:List UInt8×List (Int×List UInt8)):T h c=let a':=[(0,.box [.dat zr (fst c),.dat (zh (zw i64 zr)) (snd c)])];let c':=decide (length h≤45)&&decide (length (fst c)≤100)&&decide (length (snd c)≤45);let d':=decide (length h≤1000000);let b':Tr:=.ite true (.leaf (.dat zJ true) a') .fail;.ite (decide ((length h:Int)>45)) b' (.ite (decide ((↑(length (snd c)):Int)>45)) b' (.ite (decide ((↑(length (fst c)):Int)>100)) b' (.ite d' (.ite d' (.ite (De h==De h) (.ite c' (.ite c' (.ite (Pq h (fst c) (snd c)==Pq h (fst c) (snd c)) b' (.leaf (.bl false) a')) .fail) .fail) (.leaf (.bl false) a')) .fail) .fail))):=by kernel_rfl
end T6
namespace T4
def T(t:Int)(w:List Int):Tr:=tree cN false 9 4 (Ah ([Sh.int zS,zh i64]) (t,w))
theorem Ay(t:Int)(w:List Int):T t w=let c':=[(0,.arr false 3 i64 [0,AO w])];let d':=[(0,.arr false 3 i64 [3,AO w])];let g':Tr:=.ite true (.leaf (.dat zJ true) []) .fail;let j':=Ct t w;let k':=decide (2≤2)&&true&&decide (2≤1000000);let l':=Ct t w==H6 t w;let n':=decide (length w≤1000000);let o':=(length w:Int);let e':Tr:=.leaf (.bl false) c';let f':Tr:=.leaf (.bl false) d';let h':Tr:=.ite true (.leaf (.dat zJ true) c') .fail;let i':Tr:=.ite true (.leaf (.dat zJ true) d') .fail;let m':=decide (length j'≤1000000);let b':Tr:=.ite n' (.ite k' (.ite (zk [3,AO w] !=0) (.ite ((↑(length j'):Int)==0) (.ite (A5 t w==zk [3,AO w]) i' f') f') (.ite (A5 t w==0) (.ite (cO t w) (.ite m' (.ite l' i' f') .fail) .fail) f')) .fail) .fail;let a':Tr:=.ite (decide (o'>261)) g' (.ite (EC w) (.ite (decide (t<0)) b' (.ite (decide (t>999999999)) b' (.ite n' (.ite k' (.ite (zk [0,AO w] !=0) (.ite ((↑(length j'):Int)==0) (.ite (A5 t w==zk [0,AO w]) h' e') e') (.ite (A5 t w==0) (.ite (cO t w) (.ite m' (.ite l' h' e') .fail) .fail) e')) .fail) .fail))) .fail);.ite (decide (o'>20)) (.ite (decide (o'≤256)) g' a') a':=by kernel_rfl
end T4
namespace T5
def T(t:Int)(w:List Int):Tr:=tree SB false 9 5 (Ah ([Sh.int zS,zh i64]) (t,w))
def L1(v0:Int)(v1 v5:List Int)(v7 v8 v46 v47:Int):Tr:=re ((T 0 []).R.L.R.R.R.L.R.R) (AB 176 [(0,.dat i64 v0),(1,.dat (zh i64) v1),(5,.dat (zh i64) v5),(7,.dat i64 v7),(8,.dat i64 v8),(46,.dat i64 v46),(47,.dat i64 v47)] [] 0)
theorem Ay(t:Int)(w:List Int):T t w=let a':Tr:=.ite true (.leaf (.dat zJ true) []) .fail;let b':=(↑(length (Ct t w)):Int);.ite (decide ((length w:Int)>20)) a' (.ite (decide (length w≤1000000)) (.ite (AO w !=0) a' (.ite (decide (t<0)) a' (.ite (decide (t>999999999)) a' (.ite (EC w) (.ite (A5 t w !=0) (.leaf (.bl false) []) (.ite (b' !=(length w:Int)) (.leaf (.bl false) []) (L1 t w (Ct t w) 0 0 (b') 0))) .fail)))) .fail):=by kernel_rfl
def L2(v0:Int)(v1 v5:List Int)(v7 v8 v76 v77:Int):Tr:=re ((stepT SB (L1 0 [] [] 0 0 0 0)).R) (AB 176 [(0,.dat i64 v0),(1,.dat (zh i64) v1),(5,.dat (zh i64) v5),(7,.dat i64 v7),(8,.dat i64 v8),(76,.dat i64 v76),(77,.dat i64 v77)] [] 0)
theorem Ap(v0:Int)(v1 v5:List Int)(v7 v8 v46 v47:Int):stepT SB (L1 v0 v1 v5 v7 v8 v46 v47)=let a':=decide (0≤v47)&&decide (v47<(length v5:Int));.ite (decide (v47<v46)) (.ite a' (.ite (decide (getD v5 (toNat v47) 0<0)) (.leaf (.bl false) []) (.ite a' (.ite (decide (getD v5 (toNat v47) 0>999999999)) (.leaf (.bl false) []) (.ite (decide (0≤v47)&&decide (v47<(length v1:Int))) (.ite a' (L1 v0 v1 v5 (zd .i64 (v7+getD v5 (toNat v47) 0)) (zd .i64 (v8+getD v1 (toNat v47) 0)) v46 (zd .i64 (v47+1))) .fail) .fail)) .fail)) .fail) (L2 v0 v1 v5 v7 v8 ((length v5:Int)) 0):=by kernel_rfl
def L3(v0:Int)(v1 v5:List Int)(v7 v8 v10 v12 v76 v77:Int):Tr:=re ((stepT SB (L2 0 [] [] 0 0 0 0)).L.L.L.L.L.L.R.L.L.L.L.R) (AB 176 [(0,.dat i64 v0),(1,.dat (zh i64) v1),(5,.dat (zh i64) v5),(7,.dat i64 v7),(8,.dat i64 v8),(10,.dat i64 v10),(12,.dat i64 v12),(76,.dat i64 v76),(77,.dat i64 v77)] [] 0)
theorem AS(v0:Int)(v1 v5:List Int)(v7 v8 v76 v77:Int):stepT SB (L2 v0 v1 v5 v7 v8 v76 v77)=let b':=zd .i64 (v0*getD v1 (toNat v77) 0);let c':=decide (0≤v77)&&decide (v77<(length v5:Int));let d':=decide (0≤v77)&&decide (v77<(length v1:Int));let e':Tr:=.leaf (.bl false) [];let f':=L3 v0 v1 v5 v7 v8 v77 0 v76 v77;let g':=zo b' v8;let a':Tr:=.ite c' (.ite (decide (getD v5 (toNat v77) 0>zd .i64 g')) (.ite d' (.ite (decide (v8≠0)) (.ite (zN b' v8==0) e' f') .fail) .fail) f') .fail;.ite (decide (v77<v76)) (.ite d' (.ite (decide (v8≠0)) (.ite c' (.ite (getD v5 (toNat v77) 0 !=zd .i64 g') (.ite c' (.ite (getD v5 (toNat v77) 0 !=zd .i64 (zd .i64 g'+1)) e' a') .fail) a') .fail) .fail) .fail) (.ite (v7==v0) (.ite true (.leaf (.dat zJ true) []) .fail) e'):=by kernel_rfl
theorem BD(v0:Int)(v1 v5:List Int)(v7 v8 v10 v12 v76 v77:Int):stepT SB (L3 v0 v1 v5 v7 v8 v10 v12 v76 v77)=let b':=L3 v0 v1 v5 v7 v8 v10 (zd .i64 (v12+1)) v76 v77;let c':=decide (0≤v12)&&decide (v12<(length v1:Int));let d':=decide (0≤v10)&&decide (v10<(length v1:Int));let e':=decide (0≤v12)&&decide (v12<(length v5:Int));let f':=decide (0≤v10)&&decide (v10<(length v5:Int));let a':Tr:=.ite c' (.ite d' (.ite (decide (getD v1 (toNat v12) 0<getD v1 (toNat v10) 0)) (.ite e' (.ite f' (.ite (decide (getD v5 (toNat v12) 0>getD v5 (toNat v10) 0)) (.leaf (.bl false) []) b') .fail) .fail) b') .fail) .fail;.ite (decide (v12<v10)) (.ite c' (.ite d' (.ite (decide (getD v1 (toNat v12) 0≥getD v1 (toNat v10) 0)) (.ite e' (.ite f' (.ite (decide (getD v5 (toNat v12) 0<getD v5 (toNat v10) 0)) (.leaf (.bl false) []) a') .fail) .fail) a') .fail) .fail) (L2 v0 v1 v5 v7 v8 v76 (zd .i64 (v77+1))):=by kernel_rfl
end T5
namespace T48
def T(w:List Int):Tr:=tree SO false 9 48 (Ah ([zh i64]) w)
def L1(w v0:List Int)(v7 v8:Int):Tr:=re ((T w)) (AB 19 [(0,.dat (zh i64) v0),(1,zI (zl 104) [] []),(7,.dat i64 v7),(8,.dat i64 v8)] [] 0)
theorem Ay(w:List Int):T w=L1 w w ((length w:Int)) 0:=by kernel_rfl
def L2(v0:List Int)(v3:Bool):Tr:=re ((stepT SO (L1 [] [] 0 0)).L.L.L) (AB 24 [(0,.dat (zh i64) v0),(3,.dat zJ v3)] [] 0)
theorem Ap(w v0:List Int)(v7 v8:Int):stepT SO (L1 w v0 v7 v8)=.ite (decide (v8<v7)) (.ite (decide (0≤v8)&&decide (v8<(length v0:Int))) (.ite (decide (getD v0 (toNat v8) 0<0)) (L2 w (decide (v8≥0))) (.ite (decide (getD v0 (toNat v8) 0>999999999)) (L2 w (decide (v8≥0))) (L1 w v0 v7 (zd .i64 (v8+1))))) .fail) (L2 w false):=by kernel_rfl
def L3(v0:List Int)(v3:Bool)(v0':List Int)(v7 v8:Int):Tr:=re ((stepT SO (L2 v0 v3))) (AB 19 [(0,.dat (zh i64) v0'),(1,zI (zl 105) [] []),(7,.dat i64 v7),(8,.dat i64 v8)] [] 0)
theorem AS(v0:List Int)(v3:Bool):stepT SO (L2 v0 v3)=L3 v0 v3 v0 ((length v0:Int)) 0:=by kernel_rfl
def L4(v0:List Int)(v3 v4:Bool):Tr:=re ((stepT SO (L3 [] false [] 0 0)).L.L.L) (AB 24 [(0,.dat (zh i64) v0),(3,.dat zJ v3),(4,.dat zJ v4)] [] 0)
theorem BD(v0:List Int)(v3:Bool)(v0':List Int)(v7 v8:Int):stepT SO (L3 v0 v3 v0' v7 v8)=.ite (decide (v8<v7)) (.ite (decide (0≤v8)&&decide (v8<(↑(length v0'):Int))) (.ite (getD v0' (toNat v8) 0 !=0) (L4 v0 v3 (!decide (v8≥0))) (L3 v0 v3 v0' v7 (zd .i64 (v8+1)))) .fail) (L4 v0 v3 true):=by kernel_rfl
theorem CG(v0:List Int)(v3 v4:Bool):stepT SO (L4 v0 v3 v4)=let a':=(length v0:Int);.ite true (.ite true (.ite true (.ite true (.ite (decide (4≤4)&&true&&decide (4≤1000000)) (.leaf (.dat i64 (zk [BS (a'==0) 12,BS (decide (a'>256)) 5,BS v3 3,BS v4 6])) ([(0,.arr false 24 i64 [BS (a'==0) 12,BS (decide (a'>256)) 5,BS v3 3,BS v4 6])])) .fail) .fail) .fail) .fail) .fail:=by kernel_rfl
end T48
end
end Go.Pe
end
section
namespace Go.Pe
open Sp
open Go.Det
noncomputable section
open List Int Prod
namespace T107
def T(x:Int×List UInt8):Tr:=tree dW false 9 107 (Ah ([zw i64 zr]) x)
def L1(v1:Int×List UInt8):Tr:=re ((T (0,[]))) (AB 21 [(1,PV.dptr (zw i64 zr) v1 0)] [] 0)
theorem Ay(x:Int×List UInt8):T x=L1 ((fst x,snd x)):=by kernel_rfl
theorem Ap(v1:Int×List UInt8):stepT dW (L1 v1)=let b':=zw Sh.fnv Sh.fnv;let e':=zl 128;let f':=zl 127;let g':=BS (!decide (fst v1≤99)) 3;let a':=FE zr b' [(45:UInt8)] (zu e',zu (zl 131)) (FE zr b' [(120:UInt8)] (zu e',zu (zl 130)) (FE zr b' [(99:UInt8)] (zu f',zu (zl 129)) (FE zr b' [] (zu f',zu (zl 82)) [])));let c':=[(zM 0 1,.box [zI f' [] [],zI (zl 129) [] []]),(0,Obj.map zr b' a')];let d':=[(zM 0 1,.box [zI f' [] [],zI (zl 82) [] []]),(0,Obj.map zr b' a')];.ite (Nh zr (snd v1) []) (.ite (decide (fst v1≥1)) (.ite true (.leaf (.dat i64 g') d') .fail) (.ite true (.leaf (.dat i64 (BS true 3)) d') .fail)) (.ite (Nh zr (snd v1) [(99:UInt8)]) (.ite (decide (fst v1≥1)) (.ite true (.leaf (.dat i64 g') c') .fail) (.ite true (.leaf (.dat i64 (BS true 3)) c') .fail)) (.ite (Nh zr (snd v1) [(120:UInt8)]) (.ite true (.leaf (.dat i64 (BS (!fst v1==0) 3)) ([(zM 0 1,.box [zI e' [] [],zI (zl 130) [] []]),(0,Obj.map zr b' a')])) .fail) (.ite (Nh zr (snd v1) [(45:UInt8)]) (.ite true (.leaf (.dat i64 (BS (!fst v1==0) 3)) ([(zM 0 1,.box [zI e' [] [],zI (zl 131) [] []]),(0,Obj.map zr b' a')])) .fail) (.leaf (.dat i64 (13:Int)) ([(zM 0 1,.box [PV.nilf,PV.nilf]),(0,Obj.map zr b' a')]))))):=by kernel_rfl
end T107
namespace T14
def T(w:List Int):Tr:=tree D0 false 9 14 (Ah ([zh i64]) w)
def L1(v0:List Int)(v4:Int):Tr:=re ((T []).R.R) (AB 39 [(0,.dat (zh i64) v0),(3,.bl false),(4,.dat i64 v4)] [] 0)
theorem Ay(w:List Int):T w=.ite ((length w:Int)==0) (.leaf (.dat i64 (12:Int)) []) (.ite (decide ((length w:Int)>256)) (.leaf (.dat i64 (5:Int)) []) (L1 w 0)):=by kernel_rfl
def L2(v0:List Int)(v3:Bool)(v4:Int):Tr:=re ((stepT D0 (L1 [] 0)).L.L.R.L.R.L) (AB 39 [(0,.dat (zh i64) v0),(3,.dat zJ v3),(4,.dat i64 v4)] [] 0)
theorem Ap(v0:List Int)(v4:Int):stepT D0 (L1 v0 v4)=let b':=decide (v4<(length v0:Int));let c':Tr:=.leaf (.dat i64 (3:Int)) [];let a':=decide (0≤v4)&&b';.ite (b') (.ite a' (.ite (decide (getD v0 (toNat v4) 0<0)) c' (.ite a' (.ite (decide (getD v0 (toNat v4) 0>999999999)) c' (.ite a' (L2 v0 (decide (getD v0 (toNat v4) 0>0)) (zd .i64 (v4+1))) .fail)) .fail)) .fail) (.leaf (.dat i64 (6:Int)) []):=by kernel_rfl
def L3(v0:List Int)(v4:Int):Tr:=re ((stepT D0 (L2 [] false 0)).L.L.R.L.R.L) (AB 39 [(0,.dat (zh i64) v0),(3,.bl true),(4,.dat i64 v4)] [] 0)
theorem AS(v0:List Int)(v3:Bool)(v4:Int):stepT D0 (L2 v0 v3 v4)=let b':=decide (v4<(length v0:Int));let c':Tr:=.leaf (.dat i64 (3:Int)) [];let d':=zd .i64 (v4+1);let a':=decide (0≤v4)&&b';.ite (b') (.ite a' (.ite (decide (getD v0 (toNat v4) 0<0)) c' (.ite a' (.ite (decide (getD v0 (toNat v4) 0>999999999)) c' (.ite v3 (L3 v0 d') (.ite a' (L2 v0 (decide (getD v0 (toNat v4) 0>0)) d') .fail))) .fail)) .fail) (.ite (!v3) (.leaf (.dat i64 (6:Int)) []) (.leaf (.dat i64 (0:Int)) [])):=by kernel_rfl
theorem BD(v0:List Int)(v4:Int):stepT D0 (L3 v0 v4)=let a':=decide (v4<(length v0:Int));let b':Tr:=.leaf (.dat i64 (3:Int)) [];.ite (a') (.ite (decide (0≤v4)&&a') (.ite (decide (getD v0 (toNat v4) 0<0)) b' (.ite (decide (0≤v4)&&a') (.ite (decide (getD v0 (toNat v4) 0>999999999)) b' (L3 v0 (zd .i64 (v4+1)))) .fail)) .fail) (.leaf (.dat i64 (0:Int)) []):=by kernel_rfl
end T14
namespace T13
def T(l:List Int):Tr:=tree D0 false 9 13 (Ah ([zh i64]) l)
def L1(v0:List Int)(v3:Int):Tr:=re ((T [])) (AB 19 [(0,.dat (zh i64) v0),(3,.dat i64 v3)] [] 0)
theorem Ay(l:List Int):T l=L1 l 0:=by kernel_rfl
theorem Ap(v0:List Int)(v3:Int):stepT D0 (L1 v0 v3)=let a':=decide (v3<(length v0:Int));.ite (a') (.ite (decide (0≤v3)&&a') (.ite (getD v0 (toNat v3) 0 !=0) (.ite (decide (0≤v3)&&a') (.leaf (.dat i64 (getD v0 (toNat v3) 0)) []) .fail) (L1 v0 (zd .i64 (v3+1)))) .fail) (.leaf (.dat i64 (0:Int)) []):=by kernel_rfl
end T13
namespace T15
def T(a b:List Int):Tr:=tree D0 false 9 15 (Ah ([zh i64,zh i64]) (a,b))
def L1(v0 v1:List Int)(v5:Int):Tr:=re ((T [] []).R) (AB 26 [(0,.dat (zh i64) v0),(1,.dat (zh i64) v1),(5,.dat i64 v5)] [] 0)
theorem Ay(a b:List Int):T a b=.ite ((length a:Int) !=(length b:Int)) (.leaf (.bl false) []) (L1 a b 0):=by kernel_rfl
theorem Ap(v0 v1:List Int)(v5:Int):stepT D0 (L1 v0 v1 v5)=let a':=decide (v5<(length v0:Int));.ite (a') (.ite (decide (0≤v5)&&a') (.ite (decide (0≤v5)&&decide (v5<(length v1:Int))) (.ite (getD v0 (toNat v5) 0 !=getD v1 (toNat v5) 0) (.leaf (.bl false) []) (L1 v0 v1 (zd .i64 (v5+1)))) .fail) .fail) (.leaf (.bl true) []):=by kernel_rfl
end T15
namespace T16
def T(t:Int)(w:List Int):Tr:=tree D0 false 9 16 (Ah ([Sh.int zS,zh i64]) (t,w))
def L1(v0:Int)(v1:List Int)(v5 v6:Int):Tr:=re ((T 0 [])) (AB 90 [(0,.dat i64 v0),(1,.dat (zh i64) v1),(5,.dat i64 v5),(6,.dat i64 v6)] [] 0)
theorem Ay(t:Int)(w:List Int):T t w=L1 t w 0 0:=by kernel_rfl
def L2(v0:Int)(v1:List Int)(v5 v9 v10:Int):Tr:=re ((stepT D0 (L1 0 [] 0 0)).R) (AB 90 [(0,.dat i64 v0),(1,.dat (zh i64) v1),(5,.dat i64 v5),(7,.nil),(8,.nil),(9,.dat i64 v9),(10,.dat i64 v10)] [] 0)
theorem Ap(v0:Int)(v1:List Int)(v5 v6:Int):stepT D0 (L1 v0 v1 v5 v6)=let a':=decide (v6<(length v1:Int));.ite (a') (.ite (decide (0≤v6)&&a') (L1 v0 v1 (zd .i64 (v5+getD v1 (toNat v6) 0)) (zd .i64 (v6+1))) .fail) (L2 v0 v1 v5 v0 0):=by kernel_rfl
def L3(v0:Int)(v1:List Int)(v5:Int)(v7n v8n:Nat)(v9 v10:Int)(o1 o0:List Int):Tr:=re ((stepT D0 (L2 0 [] 0 0 0)).L.L.L.L.L.L.L.L.L) (AB 90 [(0,.dat i64 v0),(1,.dat (zh i64) v1),(5,.dat i64 v5),(7,.sl 0 1 0 v7n none),(8,.sl 1 1 0 v8n none),(9,.dat i64 v9),(10,.dat i64 v10)] [(1,.arr false 3 i64 o1),(0,.arr false 3 i64 o0)] 2)
def L4(v9:Int):Tr:=re ((stepT D0 (L2 0 [] 0 0 0)).R) (AB 90 [(7,.nil),(8,.nil),(9,.dat i64 v9)] [] 0)
theorem AS(v0:Int)(v1:List Int)(v5 v9 v10:Int):stepT D0 (L2 v0 v1 v5 v9 v10)=let a':=zd .i64 (v0*getD v1 (toNat v10) 0);let b':=decide (1≤1)&&decide (0<1)&&decide ((2*1+1000)*8≤281474976710656);let c':=decide (v10<(length v1:Int));.ite (c') (.ite (decide (0≤v10)&&c') (.ite (decide (v5≠0)) (.ite b' (.ite (decide (0≤v10)&&c') (.ite (decide (v5≠0)) (.ite b' (.ite (decide (0≤v10)&&decide (v10<(↑1:Int))) (.ite (decide (toNat v10<1)) (L3 v0 v1 v5 1 1 (zd .i64 (v9-getD [zd .i64 (zo a' v5)] (toNat v10) 0)) (zd .i64 (v10+1)) ([zN a' v5]) ([zd .i64 (zo a' v5)])) .fail) .fail) .fail) .fail) .fail) .fail) .fail) .fail) (L4 v9):=by kernel_rfl
def L5(v7n v8n:Nat)(v9:Int)(o1 o0:List Int):Tr:=re ((stepT D0 (L3 0 [] 0 0 0 0 0 [] [])).R) (AB 90 [(7,.sl 0 1 0 v7n none),(8,.sl 1 1 0 v8n none),(9,.dat i64 v9)] [(1,.arr false 3 i64 o1),(0,.arr false 3 i64 o0)] 2)
theorem BD(v0:Int)(v1:List Int)(v5:Int)(v7n v8n:Nat)(v9 v10:Int)(o1 o0:List Int):stepT D0 (L3 v0 v1 v5 v7n v8n v9 v10 o1 o0)=let b':=decide (v10<(length v1:Int));let c':=zd .i64 (v0*getD v1 (toNat v10) 0);let a':=o0++[zd .i64 (zo c' v5)];.ite (b') (.ite (decide (0≤v10)&&b') (.ite (decide (v5≠0)) (.ite (decide (1≤1)&&true&&decide (v7n=length o0)&&decide ((2*(v7n+1)+1000)*8≤281474976710656)) (.ite (decide (0≤v10)&&b') (.ite (decide (v5≠0)) (.ite (decide (1≤1)&&true&&decide (v8n=length o1)&&decide ((2*(v8n+1)+1000)*8≤281474976710656)) (.ite (decide (0≤v10)&&decide (v10<(↑(zM v7n 1):Int))) (.ite (decide (toNat v10<length a')) (L3 v0 v1 v5 (zM v7n 1) (zM v8n 1) (zd .i64 (v9-getD a' (toNat v10) 0)) (zd .i64 (v10+1)) (o1++[zN c' v5]) a') .fail) .fail) .fail) .fail) .fail) .fail) .fail) .fail) (L5 v7n v8n v9 o1 o0):=by kernel_rfl
def L7(v7n v8n:Nat)(v9 v11 v12:Int)(o1 o0:List Int):Tr:=re ((stepT D0 (L5 0 0 0 [] [])).L) (AB 90 [(7,.sl 0 1 0 v7n none),(8,.sl 1 1 0 v8n none),(9,.dat i64 v9),(11,.dat i64 v11),(12,.dat i64 v12)] [(1,.arr false 3 i64 o1),(0,.arr false 3 i64 o0)] 2)
theorem Dk(v7n v8n:Nat)(v9:Int)(o1 o0:List Int):stepT D0 (L5 v7n v8n v9 o1 o0)=.ite (decide (v9>0)) (L7 v7n v8n v9 0 1 o1 o0) (.leaf (.sl 0 1 0 v7n none) ([(1,.arr false 3 i64 o1),(0,.arr false 3 i64 o0)])):=by kernel_rfl
theorem Dj(v7n v8n:Nat)(v9 v11 v12:Int)(o1 o0:List Int):stepT D0 (L7 v7n v8n v9 v11 v12 o1 o0)=let a':=decide (0≤v11)&&decide (v11<(↑v8n:Int));let b':=decide (0≤v11)&&decide (v11<(↑v7n:Int));let c':=decide (toNat v11<length o1);let d':=decide (toNat v11<length o0);let e':=zd .i64 (v12+1);.ite (decide (v12<(↑v8n:Int))) (.ite (decide (0≤v12)&&decide (v12<(↑v8n:Int))) (.ite (decide (toNat v12<length o1)) (.ite a' (.ite c' (.ite (decide (getD o1 (toNat v12) 0>getD o1 (toNat v11) 0)) (L7 v7n v8n v9 v12 e' o1 o0) (L7 v7n v8n v9 v11 e' o1 o0)) .fail) .fail) .fail) .fail) (.ite b' (.ite d' (.ite b' (.ite d' (.ite a' (.ite c' (L5 v7n v8n (zd .i64 (v9-1)) (set o1 (toNat v11) (-1)) (set o0 (toNat v11) (zd .i64 (getD o0 (toNat v11) 0+1)))) .fail) .fail) .fail) .fail) .fail) .fail):=by kernel_rfl
end T16
namespace T19
def T(h:List (Int×Int))(c:List UInt8×List (Int×List UInt8)):Tr:=tree cG false 9 19 (Ah ([zh (zw i64 i64),zw zr (zh (zw i64 zr))]) (h,c))
theorem Ay(h:List (Int×Int))(c:List UInt8×List (Int×List UInt8)):T h c=let a':=(↑(length (snd c)):Int) !=(length h:Int);.ite (decide (length h≤1000000)) (.ite (decide (length (fst c)≤1000000)) (.ite true (.ite true (.ite (decide (length (snd c)≤1000000)) (.ite (decide (4≤4)&&true&&decide (4≤1000000)) (.leaf (.dat i64 (zk [De h,BS (!Sp.isName (fst c)) 8,BS a' 2,HO (snd c)])) ([(zM 0 1,.arr false 24 i64 [De h,BS (!Sp.isName (fst c)) 8,BS a' 2,HO (snd c)]),(0,.box [.dat zr (fst c),.dat (zh (zw i64 zr)) (snd c)])])) .fail) .fail) .fail) .fail) .fail) .fail:=by kernel_rfl
end T19
namespace T20
def T(h:List (Int×Int))(c:List UInt8×List (Int×List UInt8)):Tr:=tree cG false 9 20 (Ah ([zh (zw i64 i64),zw zr (zh (zw i64 zr))]) (h,c))
theorem Ay(h:List (Int×Int))(c:List UInt8×List (Int×List UInt8)):T h c=let a':=[(0,.box [.dat zr (fst c),.dat (zh (zw i64 zr)) (snd c)])];let e':=(↑(length (snd c)):Int) !=(length h:Int);let h':=De h==0;let b':Tr:=.ite (decide (length (snd c)≤1000000)) (.leaf (.dat i64 (HO (snd c))) a') .fail;let d':Tr:=.ite h' b' (.leaf (.dat i64 (De h)) a');let f':Tr:=.ite false b' (.leaf (.dat i64 (2:Int)) a');let g':Tr:=.ite false b' (.leaf (.dat i64 (8:Int)) a');let c':Tr:=.ite h' (.ite e' f' d') d';.ite (decide (length h≤1000000)) (.ite h' (.ite (decide (length (fst c)≤1000000)) (.ite (!Sp.isName (fst c)) (.ite false (.ite e' f' g') g') c') .fail) c') .fail:=by kernel_rfl
end T20
namespace T12
def T(t:Int)(w:List Int):Tr:=tree EF false 9 12 (Ah ([Sh.int zS,zh i64]) (t,w))
def L1(v0:Int)(v1:List Int)(v7:Int)(v32:List Int)(v33 v34:Int):Tr:=re ((T 0 []).L.L.L.L.R) (AB 105 [(0,.dat i64 v0),(1,.dat (zh i64) v1),(7,.dat i64 v7),(32,.dat (zh i64) v32),(33,.dat i64 v33),(34,.dat i64 v34)] [] 0)
theorem Ay(t:Int)(w:List Int):T t w=let a':=decide (t>999999999);let b':=decide (2≤2)&&true&&decide (2≤1000000);let c':=L1 t w 0 w ((length w:Int)) 0;let d':=decide (length w≤1000000);.ite (decide (t<0)) (.ite true (.ite d' (.ite b' (.ite (zk [BS true 3,AO w] !=0) (.leaf (.tup [.nil,.dat i64 (zk [BS true 3,AO w])]) ([(0,.arr false 24 i64 [BS true 3,AO w])])) c') .fail) .fail) .fail) (.ite true (.ite d' (.ite b' (.ite (zk [BS a' 3,AO w] !=0) (.leaf (.tup [.nil,.dat i64 (zk [BS a' 3,AO w])]) ([(0,.arr false 24 i64 [BS a' 3,AO w])])) c') .fail) .fail) .fail):=by kernel_rfl
def L2(v0 v7:Int)(v10n v12n:Nat)(v13:Int)(v52:List Int)(v53 v54:Int)(o3 o2:List Int)(o1n:Nat)(o0:List Int):Tr:=re ((stepT EF (L1 0 [] 0 [] 0 0)).R.L.L.L) (AB 105 [(0,.dat i64 v0),(7,.dat i64 v7),(10,.sl 0 1 0 v10n none),(11,.ptr 1 0),(12,.sl 2 1 0 v12n none),(13,.dat i64 v13),(52,.dat (zh i64) v52),(53,.dat i64 v53),(54,.dat i64 v54)] [(3,.arr false 3 i64 o3),(2,.arr false 3 i64 o2),(1,.box [.sl 3 1 0 o1n none]),(0,.arr false 3 i64 o0)] 4)
theorem Ap(v0:Int)(v1:List Int)(v7:Int)(v32:List Int)(v33 v34:Int):stepT EF (L1 v0 v1 v7 v32 v33 v34)=let b':=(length v1:Int);let a':=decide (0≤b')&&decide (b'=b')&&decide (8*toNat b'≤281474976710656)&&decide (b'<9223372036854775808);let c':=replicate (toNat b') 0;.ite (decide (v34<v33)) (.ite (decide (0≤v34)&&decide (v34<(length v32:Int))) (L1 v0 v1 (zd .i64 (v7+getD v32 (toNat v34) 0)) v32 v33 (zd .i64 (v34+1))) .fail) (.ite a' (.ite a' (.ite a' (L2 v0 v7 (toNat b') (toNat b') v0 v1 (b') 0 c' c' (toNat b') c') .fail) .fail) .fail):=by kernel_rfl
def L3(v0 v7:Int)(v10n v12n:Nat)(v13:Int)(v52:List Int)(v53 v54:Int)(o3 o2:List Int)(o1n:Nat)(o0:List Int)(v0n:Nat)(v1 v6:Int)(v7':Int)(v8:Int)(o3':List Int)(o2':List Int)(o1n':Nat)(o0':List Int):Tr:=re ((stepT EF (L2 v0 v7 v10n v12n v13 v52 v53 v54 o3 o2 o1n o0)).R) (AB 63 [(0,.sl 2 1 0 v0n none),(1,.dat i64 v1),(2,zI (zl 50) [] [.ptr 1 0]),(6,.dat i64 v6),(7,.dat i64 v7'),(8,.dat i64 v8)] [(3,.arr false 3 i64 o3'),(2,.arr false 3 i64 o2'),(1,.box [.sl 3 1 0 o1n' none]),(0,.arr false 3 i64 o0')] 4)
theorem AS(v0 v7:Int)(v10n v12n:Nat)(v13:Int)(v52:List Int)(v53 v54:Int)(o3 o2:List Int)(o1n:Nat)(o0:List Int):stepT EF (L2 v0 v7 v10n v12n v13 v52 v53 v54 o3 o2 o1n o0)=let b':=zd .i64 (v0*getD v52 (toNat v54) 0);let c':=decide (0≤v54)&&decide (v54<(↑v10n:Int));let a':=set o0 (toNat v54) (zd .i64 (zo b' v7));.ite (decide (v54<v53)) (.ite (decide (0≤v54)&&decide (v54<(length v52:Int))) (.ite (decide (v7≠0)) (.ite (decide (v7≠0)) (.ite c' (.ite (decide (toNat v54<length o0)) (.ite (decide (0≤v54)&&decide (v54<(↑o1n:Int))) (.ite (decide (toNat v54<length o3)) (.ite (decide (0≤v54)&&decide (v54<(↑v12n:Int))) (.ite (decide (toNat v54<length o2)) (.ite c' (.ite (decide (toNat v54<length a')) (L2 v0 v7 v10n v12n (zd .i64 (v13-getD a' (toNat v54) 0)) v52 v53 (zd .i64 (v54+1)) (set o3 (toNat v54) (zN b' v7)) (set o2 (toNat v54) v54) o1n a') .fail) .fail) .fail) .fail) .fail) .fail) .fail) .fail) .fail) .fail) .fail) (L3 v0 v7 v10n v12n v13 v52 v53 v54 o3 o2 o1n o0 v12n ((↑v12n:Int)) 20 0 20 o3 o2 o1n o0):=by kernel_rfl
def L4(v0 v7:Int)(v10n v12n:Nat)(v13:Int)(v52:List Int)(v53 v54:Int)(o3 o2:List Int)(o1n:Nat)(o0:List Int)(v0n:Nat)(v1 v6:Int)(v7':Int)(v8:Int)(o3':List Int)(o2':List Int)(o1n':Nat)(o0':List Int)(v0n':Nat)(v1':Int)(v2:Int)(v8':Int)(o3'':List Int)(o2'':List Int)(o1n'':Nat)(o0'':List Int):Tr:=re ((stepT EF (L3 v0 v7 v10n v12n v13 v52 v53 v54 o3 o2 o1n o0 v0n v1 v6 v7' v8 o3' o2' o1n' o0')).L) (AB 53 [(0,.sl 2 1 0 v0n' none),(1,.dat i64 v1'),(2,.dat i64 v2),(3,zI (zl 50) [] [.ptr 1 0]),(8,.dat i64 v8')] [(3,.arr false 3 i64 o3''),(2,.arr false 3 i64 o2''),(1,.box [.sl 3 1 0 o1n'' none]),(0,.arr false 3 i64 o0'')] 4)
def L5(v0 v7:Int)(v10n v12n:Nat)(v13:Int)(v52:List Int)(v53 v54:Int)(o3 o2:List Int)(o1n:Nat)(o0:List Int)(v0n:Nat)(v1 v6:Int)(v7':Int)(v8:Int)(o3':List Int)(o2':List Int)(o1n':Nat)(o0':List Int)(v0n':Nat)(v1':Int)(v2:Int)(v8':Int)(o3'':List Int)(o2'':List Int)(o1n'':Nat)(o0'':List Int):Tr:=re ((stepT EF (L3 v0 v7 v10n v12n v13 v52 v53 v54 o3 o2 o1n o0 v0n v1 v6 v7' v8 o3' o2' o1n' o0')).R) (AB 53 [(0,.sl 2 1 0 v0n' none),(1,.dat i64 v1'),(2,.dat i64 v2),(3,zI (zl 50) [] [.ptr 1 0]),(8,.dat i64 v8')] [(3,.arr false 3 i64 o3''),(2,.arr false 3 i64 o2''),(1,.box [.sl 3 1 0 o1n'' none]),(0,.arr false 3 i64 o0'')] 4)
theorem BD(v0 v7:Int)(v10n v12n:Nat)(v13:Int)(v52:List Int)(v53 v54:Int)(o3 o2:List Int)(o1n:Nat)(o0:List Int)(v0n:Nat)(v1 v6:Int)(v7':Int)(v8:Int)(o3':List Int)(o2':List Int)(o1n':Nat)(o0':List Int):stepT EF (L3 v0 v7 v10n v12n v13 v52 v53 v54 o3 o2 o1n o0 v0n v1 v6 v7' v8 o3' o2' o1n' o0')=let a':=zd .i64 (v7'+1);.ite (decide (v8≤v1)) (L4 v0 v7 v10n v12n v13 v52 v53 v54 o3 o2 o1n o0 v0n v1 v6 v7' v8 o3' o2' o1n' o0' v0n v7' v8 a' o3' o2' o1n' o0') (L5 v0 v7 v10n v12n v13 v52 v53 v54 o3 o2 o1n o0 v0n v1 v6 v7' v8 o3' o2' o1n' o0' v0n v7' v1 a' o3' o2' o1n' o0'):=by kernel_rfl
def L6(v0 v7:Int)(v10n v12n:Nat)(v13:Int)(v52:List Int)(v53 v54:Int)(o3 o2:List Int)(o1n:Nat)(o0:List Int)(v0n:Nat)(v1 v6:Int)(v7':Int)(v8:Int)(o3':List Int)(o2':List Int)(o1n':Nat)(o0':List Int)(v0n':Nat)(v1':Int)(v2:Int)(v8':Int)(v9:Int)(o3'':List Int)(o2'':List Int)(o1n'':Nat)(o0'':List Int):Tr:=re ((stepT EF (L4 v0 v7 v10n v12n v13 v52 v53 v54 o3 o2 o1n o0 v0n v1 v6 v7' v8 o3' o2' o1n' o0' 0 0 0 0 [] [] 0 [])).L) (AB 53 [(0,.sl 2 1 0 v0n' none),(1,.dat i64 v1'),(2,.dat i64 v2),(3,zI (zl 50) [] [.ptr 1 0]),(8,.dat i64 v8'),(9,.dat i64 v9)] [(3,.arr false 3 i64 o3''),(2,.arr false 3 i64 o2''),(1,.box [.sl 3 1 0 o1n'' none]),(0,.arr false 3 i64 o0'')] 4)
theorem CG(v0 v7:Int)(v10n v12n:Nat)(v13:Int)(v52:List Int)(v53 v54:Int)(o3 o2:List Int)(o1n:Nat)(o0:List Int)(v0n:Nat)(v1 v6:Int)(v7':Int)(v8:Int)(o3':List Int)(o2':List Int)(o1n':Nat)(o0':List Int)(v0n':Nat)(v1':Int)(v2:Int)(v8':Int)(o3'':List Int)(o2'':List Int)(o1n'':Nat)(o0'':List Int):stepT EF (L4 v0 v7 v10n v12n v13 v52 v53 v54 o3 o2 o1n o0 v0n v1 v6 v7' v8 o3' o2' o1n' o0' v0n' v1' v2 v8' o3'' o2'' o1n'' o0'')=.ite (decide (v8'<v2)) (L6 v0 v7 v10n v12n v13 v52 v53 v54 o3 o2 o1n o0 v0n v1 v6 v7' v8 o3' o2' o1n' o0' v0n' v1' v2 v8' v8' o3'' o2'' o1n'' o0'') (L3 v0 v7 v10n v12n v13 v52 v53 v54 o3 o2 o1n o0 v0n v1 v6 v8 (zd .i64 (v8+v6)) o3'' o2'' o1n'' o0''):=by kernel_rfl
def L7(v0 v7:Int)(v10n v12n:Nat)(v13:Int)(v52:List Int)(v53 v54:Int)(o3 o2:List Int)(o1n:Nat)(o0:List Int)(v0n:Nat)(v1 v6:Int)(v7':Int)(v8:Int)(o3':List Int)(o2':List Int)(o1n':Nat)(o0':List Int)(v0n':Nat)(v1':Int)(v2:Int)(v8':Int)(v9:Int)(o3'':List Int)(o2'':List Int)(o1n'':Nat)(o0'':List Int):Tr:=re ((stepT EF (L5 v0 v7 v10n v12n v13 v52 v53 v54 o3 o2 o1n o0 v0n v1 v6 v7' v8 o3' o2' o1n' o0' 0 0 0 0 [] [] 0 [])).L) (AB 53 [(0,.sl 2 1 0 v0n' none),(1,.dat i64 v1'),(2,.dat i64 v2),(3,zI (zl 50) [] [.ptr 1 0]),(8,.dat i64 v8'),(9,.dat i64 v9)] [(3,.arr false 3 i64 o3''),(2,.arr false 3 i64 o2''),(1,.box [.sl 3 1 0 o1n'' none]),(0,.arr false 3 i64 o0'')] 4)
def L8(v0 v7:Int)(v10n v12n:Nat)(v13:Int)(v52:List Int)(v53 v54:Int)(o3 o2:List Int)(o1n:Nat)(o0:List Int)(v0n:Nat)(v1 v6:Int)(o3':List Int)(o2':List Int)(o1n':Nat)(o0':List Int):Tr:=re ((stepT EF (L5 v0 v7 v10n v12n v13 v52 v53 v54 o3 o2 o1n o0 0 0 0 0 0 [] [] 0 [] 0 0 0 0 [] [] 0 [])).R) (AB 63 [(0,.sl 2 1 0 v0n none),(1,.dat i64 v1),(2,zI (zl 50) [] [.ptr 1 0]),(6,.dat i64 v6)] [(3,.arr false 3 i64 o3'),(2,.arr false 3 i64 o2'),(1,.box [.sl 3 1 0 o1n' none]),(0,.arr false 3 i64 o0')] 4)
theorem Dk(v0 v7:Int)(v10n v12n:Nat)(v13:Int)(v52:List Int)(v53 v54:Int)(o3 o2:List Int)(o1n:Nat)(o0:List Int)(v0n:Nat)(v1 v6:Int)(v7':Int)(v8:Int)(o3':List Int)(o2':List Int)(o1n':Nat)(o0':List Int)(v0n':Nat)(v1':Int)(v2:Int)(v8':Int)(o3'':List Int)(o2'':List Int)(o1n'':Nat)(o0'':List Int):stepT EF (L5 v0 v7 v10n v12n v13 v52 v53 v54 o3 o2 o1n o0 v0n v1 v6 v7' v8 o3' o2' o1n' o0' v0n' v1' v2 v8' o3'' o2'' o1n'' o0'')=.ite (decide (v8'<v2)) (L7 v0 v7 v10n v12n v13 v52 v53 v54 o3 o2 o1n o0 v0n v1 v6 v7' v8 o3' o2' o1n' o0' v0n' v1' v2 v8' v8' o3'' o2'' o1n'' o0'') (L8 v0 v7 v10n v12n v13 v52 v53 v54 o3 o2 o1n o0 v0n v1 v6 o3'' o2'' o1n'' o0''):=by kernel_rfl
theorem HC(v0 v7:Int)(v10n v12n:Nat)(v13:Int)(v52:List Int)(v53 v54:Int)(o3 o2:List Int)(o1n:Nat)(o0:List Int)(v0n:Nat)(v1 v6:Int)(v7':Int)(v8:Int)(o3':List Int)(o2':List Int)(o1n':Nat)(o0':List Int)(v0n':Nat)(v1':Int)(v2:Int)(v8':Int)(v9:Int)(o3'':List Int)(o2'':List Int)(o1n'':Nat)(o0'':List Int):stepT EF (L6 v0 v7 v10n v12n v13 v52 v53 v54 o3 o2 o1n o0 v0n v1 v6 v7' v8 o3' o2' o1n' o0' v0n' v1' v2 v8' v9 o3'' o2'' o1n'' o0'')=let a':=zd .i64 (v9-1);let b':=decide (0≤zd .i64 (v9-1))&&decide (zd .i64 (v9-1)<(↑v0n':Int));let c':=L4 v0 v7 v10n v12n v13 v52 v53 v54 o3 o2 o1n o0 v0n v1 v6 v7' v8 o3' o2' o1n' o0' v0n' v1' v2 (zd .i64 (v8'+1)) o3'' o2'' o1n'' o0'';let d':=decide (0≤v9)&&decide (v9<(↑v0n':Int));let f':=decide (toNat v9<length o2'');let g':=getD o2'' (toNat v9) 0;let e':=getD o2'' (toNat a') 0;let h':=decide (toNat a'<length o2'');let i':=set o2'' (toNat v9) e';.ite (decide (v9>v1')) (.ite d' (.ite f' (.ite b' (.ite h' (.ite (decide (0≤getD o2'' (toNat a') 0)&&decide (getD o2'' (toNat a') 0<(↑o1n'':Int))) (.ite (decide (toNat e'<length o3'')) (.ite (decide (0≤getD o2'' (toNat v9) 0)&&decide (getD o2'' (toNat v9) 0<(↑o1n'':Int))) (.ite (decide (toNat g'<length o3'')) (.ite (decide (zd .i64 (getD o3'' (toNat e') 0-getD o3'' (toNat g') 0)<0)) (.ite b' (.ite h' (.ite d' (.ite f' (.ite d' (.ite f' (.ite b' (.ite (decide (toNat a'<length i')) (L6 v0 v7 v10n v12n v13 v52 v53 v54 o3 o2 o1n o0 v0n v1 v6 v7' v8 o3' o2' o1n' o0' v0n' v1' v2 v8' a' o3'' (set i' (toNat a') g') o1n'' o0'') .fail) .fail) .fail) .fail) .fail) .fail) .fail) .fail) c') .fail) .fail) .fail) .fail) .fail) .fail) .fail) .fail) c':=by kernel_rfl
theorem Dj(v0 v7:Int)(v10n v12n:Nat)(v13:Int)(v52:List Int)(v53 v54:Int)(o3 o2:List Int)(o1n:Nat)(o0:List Int)(v0n:Nat)(v1 v6:Int)(v7':Int)(v8:Int)(o3':List Int)(o2':List Int)(o1n':Nat)(o0':List Int)(v0n':Nat)(v1':Int)(v2:Int)(v8':Int)(v9:Int)(o3'':List Int)(o2'':List Int)(o1n'':Nat)(o0'':List Int):stepT EF (L7 v0 v7 v10n v12n v13 v52 v53 v54 o3 o2 o1n o0 v0n v1 v6 v7' v8 o3' o2' o1n' o0' v0n' v1' v2 v8' v9 o3'' o2'' o1n'' o0'')=let a':=zd .i64 (v9-1);let b':=decide (0≤zd .i64 (v9-1))&&decide (zd .i64 (v9-1)<(↑v0n':Int));let c':=L5 v0 v7 v10n v12n v13 v52 v53 v54 o3 o2 o1n o0 v0n v1 v6 v7' v8 o3' o2' o1n' o0' v0n' v1' v2 (zd .i64 (v8'+1)) o3'' o2'' o1n'' o0'';let d':=decide (0≤v9)&&decide (v9<(↑v0n':Int));let f':=decide (toNat v9<length o2'');let g':=getD o2'' (toNat v9) 0;let e':=getD o2'' (toNat a') 0;let h':=decide (toNat a'<length o2'');let i':=set o2'' (toNat v9) e';.ite (decide (v9>v1')) (.ite d' (.ite f' (.ite b' (.ite h' (.ite (decide (0≤getD o2'' (toNat a') 0)&&decide (getD o2'' (toNat a') 0<(↑o1n'':Int))) (.ite (decide (toNat e'<length o3'')) (.ite (decide (0≤getD o2'' (toNat v9) 0)&&decide (getD o2'' (toNat v9) 0<(↑o1n'':Int))) (.ite (decide (toNat g'<length o3'')) (.ite (decide (zd .i64 (getD o3'' (toNat e') 0-getD o3'' (toNat g') 0)<0)) (.ite b' (.ite h' (.ite d' (.ite f' (.ite d' (.ite f' (.ite b' (.ite (decide (toNat a'<length i')) (L7 v0 v7 v10n v12n v13 v52 v53 v54 o3 o2 o1n o0 v0n v1 v6 v7' v8 o3' o2' o1n' o0' v0n' v1' v2 v8' a' o3'' (set i' (toNat a') g') o1n'' o0'') .fail) .fail) .fail) .fail) .fail) .fail) .fail) .fail) c') .fail) .fail) .fail) .fail) .fail) .fail) .fail) .fail) c':=by kernel_rfl
def L9(v0 v7:Int)(v10n v12n:Nat)(v13:Int)(v52:List Int)(v53 v54:Int)(o3 o2:List Int)(o1n:Nat)(o0:List Int)(v0n:Nat)(v1 v6:Int)(v7':Int)(v8:Int)(o3':List Int)(o2':List Int)(o1n':Nat)(o0':List Int):Tr:=re ((stepT EF (L8 v0 v7 v10n v12n v13 v52 v53 v54 o3 o2 o1n o0 0 0 0 [] [] 0 [])).L) (AB 63 [(0,.sl 2 1 0 v0n none),(1,.dat i64 v1),(2,zI (zl 50) [] [.ptr 1 0]),(6,.dat i64 v6),(7,.dat i64 v7'),(8,.dat i64 v8)] [(3,.arr false 3 i64 o3'),(2,.arr false 3 i64 o2'),(1,.box [.sl 3 1 0 o1n' none]),(0,.arr false 3 i64 o0')] 4)
def Za(v10n v91n v91c:Nat)(v92 v93:Int)(o1 o0:List Int):Tr:=re ((stepT EF (L8 0 0 0 0 0 [] 0 0 [] [] 0 [] 0 0 0 [] [] 0 [])).R.L) (AB 105 [(10,.sl 0 1 0 v10n none),(91,.sl 1 1 0 v91n (zu v91c)),(92,.dat i64 v92),(93,.dat i64 v93)] [(1,.arr false 3 i64 o1),(0,.arr false 3 i64 o0)] 2)
theorem J6(v0 v7:Int)(v10n v12n:Nat)(v13:Int)(v52:List Int)(v53 v54:Int)(o3 o2:List Int)(o1n:Nat)(o0:List Int)(v0n:Nat)(v1 v6:Int)(o3':List Int)(o2':List Int)(o1n':Nat)(o0':List Int):stepT EF (L8 v0 v7 v10n v12n v13 v52 v53 v54 o3 o2 o1n o0 v0n v1 v6 o3' o2' o1n' o0')=.ite (decide (v6<v1)) (L9 v0 v7 v10n v12n v13 v52 v53 v54 o3 o2 o1n o0 v0n v1 v6 0 (zd .i64 (2*v6)) o3' o2' o1n' o0') (.ite (decide (0≤v13)&&true&&decide (0≤toNat v13)&&decide (toNat v13≤zT none v12n)&&decide (zT none v12n≤zT none v12n)&&true) (Za v10n (toNat v13) (zT none v12n) ((toNat v13:Int)) 0 o2' o0') .fail):=by kernel_rfl
theorem OB(v10n v91n v91c:Nat)(v92 v93:Int)(o1 o0:List Int):stepT EF (Za v10n v91n v91c v92 v93 o1 o0)=let a':=decide (0≤getD o1 (toNat v93) 0)&&decide (getD o1 (toNat v93) 0<(↑v10n:Int));let b':=getD o1 (toNat v93) 0;let c':=decide (toNat b'<length o0);.ite (decide (v93<v92)) (.ite (decide (0≤v93)&&decide (v93<(↑v91n:Int))) (.ite (decide (toNat v93<length o1)) (.ite a' (.ite c' (.ite a' (.ite c' (Za v10n v91n v91c v92 (zd .i64 (v93+1)) o1 (set o0 (toNat b') (zd .i64 (getD o0 (toNat b') 0+1)))) .fail) .fail) .fail) .fail) .fail) .fail) (.leaf (.tup [.sl 0 1 0 v10n none,.dat i64 (0:Int)]) ([(1,.arr false 3 i64 o1),(0,.arr false 3 i64 o0)])):=by kernel_rfl
end T12
end
end Go.Pe
end
section
namespace Go.Pe
open Sp
open Go.Det
theorem Hb:∀g sp,D0.sp g=some sp→Ac A4 g sp:=fun g sp h=>by cases h
theorem YC:∀g sp,aH.sp g=some sp→Ac A4 g sp:=Ab T38.ok (Ab T39.ok (fun g sp h=>by cases h))
theorem XG:∀g sp,dW.sp g=some sp→Ac A4 g sp:=Ab T38.ok (Ab T39.ok (fun g sp h=>by cases h))
theorem T108.ok:Ac A4 108 JG:=by
 refine AJ (X:=D0) rfl Hb (d:=9) (by kernel_rfl) (by kernel_rfl) rfl (fun(x:Int×List UInt8) _=>?_) (Ad (by kernel_rfl));have key:∀(v:Int) ob,v=HP x→Af JG x (.dat i64 v) ob:=fun v ob h=>zV rfl rfl h
 refine zA (T108.Ay x) ?_;conv=>zeta
 obtain⟨n,s⟩:=x;simp only[CI,Dn,beq_iff_eq,decide_eq_true_eq,bne_iff_ne,ne_eq];unfold HP at key;simp only at key;repeat' split
 all_goals first|(apply key;simp_all;done)|(apply key;simp_all;omega)
theorem T107.ok:Ac A4 107 JG:=by
 refine AJ (X:=dW) rfl XG (d:=9) (by kernel_rfl) (by kernel_rfl) rfl (fun(x:Int×List UInt8) _=>?_) (Ad (by kernel_rfl));have key:∀(v:Int) ob,v=HP x→Af JG x (.dat i64 v) ob:=fun v ob h=>zV rfl rfl h
 refine zA (T107.Ay x) (ze (T107.Ap ..) ?_);obtain⟨n,s⟩:=x;have kq:∀a b:List UInt8,Nh zr a b=(a==b):=fun _ _=>rfl
 simp only[CI,Dn,TA,kq,beq_iff_eq,decide_eq_true_eq,if_true];unfold HP at key;simp only at key;repeat' split
 all_goals first|(apply key;simp_all [BS];done)|(apply key;simp_all [BS];first|omega|(split<;>omega)|(cases hd:decide (n≤99)<;>simp_all<;>omega)|(cases hd:(n==0)<;>simp_all))
theorem Th:∀g sp,Yl.sp g=some sp→Ac A4 g sp:=Ab T38.ok (Ab T39.ok (Ab T107.ok (Ab T108.ok (fun g sp h=>by cases h))))
namespace T51
theorem loop{Q:PV→Ob→Prop}(l:List (Int×List UInt8))(hl:l.length≤1000000):∀(r:List (Int×List UInt8)) (i:Nat),l.drop i=r→i≤l.length→(∀ob,Q (.dat i64 (HO r)) ob)→Ends Yl (L1 l (l.length:Int) i) Q
 |[],i,h,hi,hq=>by
  have:=drop_nil h hi;subst this;exact ze (Ap ..) (zi (by simp) (zf (hq _)))
 |x::r,i,h,hi,hq=>by
  obtain⟨h1,h2,h3⟩:=drop_cons (d:=((0:Int),[])) h;refine ze (Ap ..) (zc (by simp;omega) (zc (by simp;omega) (zc rfl ?_)));have h2':zm l (zj (i:Int)) ((0:Int),([]:List UInt8))=x:=h2;rw[h2',wr ((i:Int)+1) (by omega) (by omega)];unfold HO at hq;refine zg (fun c=>zf ?_) (fun c=>?_)
  ·have:¬HP x=0:=by simpa using c
   rw[if_neg this]at hq;exact hq _
  ·have:HP x=0:=by simpa using c
   rw[if_pos this]at hq;exact loop l hl r (i+1) h3 h1 hq
theorem ok:Ac A4 51 IV:=by
 refine AJ (X:=Yl) rfl Th (d:=9) (by kernel_rfl) (by kernel_rfl) rfl (fun(l:List (Int×List UInt8)) hl=>?_) (Ad (by kernel_rfl));exact zA (Ay l) (loop l (of_decide_eq_true hl) l 0 rfl (zq _) (fun ob=>zV rfl rfl rfl))
end T51
namespace T52
theorem loop{Q:PV→Ob→Prop}(l:List (Int×List UInt8))(hl:l.length≤1000000):∀(r:List (Int×List UInt8)) (i:Nat),l.drop i=r→i≤l.length→(∀ob,Q (.dat i64 (HO r)) ob)→Ends Yl (L1 l i) Q
 |[],i,h,hi,hq=>by
  have:=drop_nil h hi;subst this;exact ze (Ap ..) (zi (by simp) (zf (hq _)))
 |x::r,i,h,hi,hq=>by
  obtain⟨h1,h2,h3⟩:=drop_cons (d:=((0:Int),[])) h;refine ze (Ap ..) (zc (by simp;omega) (zc (by simp;omega) (zc rfl ?_)));have h2':zm l (zj (i:Int)) ((0:Int),([]:List UInt8))=x:=h2;rw[h2',wr ((i:Int)+1) (by omega) (by omega)];unfold HO at hq;refine zg (fun c=>zf ?_) (fun c=>?_)
  ·have:¬HP x=0:=by simpa using c
   rw[if_neg this]at hq;exact hq _
  ·have:HP x=0:=by simpa using c
   rw[if_pos this]at hq;exact loop l hl r (i+1) h3 h1 hq
theorem ok:Ac A4 52 IV:=by
 refine AJ (X:=Yl) rfl Th (d:=9) (by kernel_rfl) (by kernel_rfl) rfl (fun(l:List (Int×List UInt8)) hl=>?_) (Ad (by kernel_rfl));exact zA (Ay l) (loop l (of_decide_eq_true hl) l 0 rfl (zq _) (fun ob=>zV rfl rfl rfl))
end T52
namespace T18
variable {Q:PV→Ob→Prop}
theorem inner(l:List (Int×Int))(hl:l.length≤36)(i:Nat)(hi:i<l.length)(x:Int×Int)(hx:l.getD i ((0:Int),(0:Int))=x)(h9:x.2∈(l.take i).map (·.2)→∀ob,Q (.dat i64 9) ob)(hn:x.2∉(l.take i).map (·.2)→Ends D0 (L1 l ((i:Int)+1)) Q):
  ∀(f k:Nat),i-k=f→k≤i→x.2∉(l.take k).map (·.2)→Ends D0 (L2 l i k) Q
 |0,k,hf,hk,hno=>by
  have:k=i:=by omega
  subst this;refine ze (AS ..) (zi (by simp) ?_);rw[wr ((k:Int)+1) (by omega) (by omega)];exact hn hno
 |f+1,k,hf,hk,hno=>by
  have hlt:k<i:=by omega
  have hkl:k<l.length:=by omega
  refine ze (AS ..) (zc (by simp;omega) (zc (by simp;omega) (zc (by simp;omega) ?_)));have e1:zm l (zj (i:Int)) ((0:Int),(0:Int))=x:=hx;have e2:zm l (zj (k:Int)) ((0:Int),(0:Int))=l[k]:=by simp[hkl]
  rw[e1,e2,wr ((k:Int)+1) (by omega) (by omega)];have hmem:∀m,k<m→m≤l.length→(l[k]).2∈(l.take m).map (·.2):=fun m h1 h2=>zK.2 ⟨l[k],List.mem_take_iff_getElem.2 ⟨k,by omega,rfl⟩,rfl⟩
  refine zg (fun c=>zf ?_) (fun c=>?_)
  ·have c:(l[k]).2=x.2:=by simpa using c
   exact h9 (c▸hmem i hlt (by omega)) _
  ·have c:(l[k]).2≠x.2:=by simpa using c
   refine inner l hl i hi x hx h9 hn f (k+1) (by omega) hlt ?_;rw[zp hkl,zR,List.mem_append];rintro(h|h)
   ·exact hno h
   ·simp at h;exact c h.symm
theorem loop(l:List (Int×Int))(hl:l.length≤36):∀(r:List (Int×Int)) (i:Nat),l.drop i=r→i≤l.length→(∀ob,Q (.dat i64 (Jp (l.length:Int) ((l.take i).map (·.2)) r)) ob)→Ends D0 (L1 l i) Q
 |[],i,h,hi,hq=>by
  have:=drop_nil h hi;subst this;exact ze (Ap ..) (zi (by simp) (zf (hq _)))
 |x::r,i,h,hi,hq=>by
  obtain⟨h1,h2,h3⟩:=drop_cons (d:=((0:Int),(0:Int))) h;have b:(decide ((0:Int)≤(i:Int))&&decide ((i:Int)<(l.length:Int)))=true:=by simp;omega
  refine ze (Ap ..) (zc (by simp;omega) (zc b ?_));have h2':zm l (zj (i:Int)) ((0:Int),(0:Int))=x:=h2;rw[h2'];unfold Jp at hq;have bad:(x.1<3∨6<x.1∨x.2<1∨(l.length:Int)<x.2)→∀ob,Q (.dat i64 3) ob:=fun hb=>by rw[if_pos hb]at hq;exact hq
  refine zg (fun c=>zf (bad (.inl (of_decide_eq_true c)) _)) (fun c1=>zc b (zg (fun c=>zf (bad (.inr (.inl (of_decide_eq_true c))) _)) (fun c2=>zc b (zg (fun c=>zf (bad (.inr (.inr (.inl (of_decide_eq_true c)))) _)) (fun c3=>zc b (zg (fun c=>zf (bad (.inr (.inr (.inr (of_decide_eq_true c)))) _)) (fun c4=>?_)))))));have hok:¬(x.1<3∨6<x.1∨x.2<1∨(l.length:Int)<x.2):=by
   have c1:=of_decide_eq_false c1;have c2:=of_decide_eq_false c2;have c3:=of_decide_eq_false c3;have c4:=of_decide_eq_false c4;rintro(h|h|h|h)
   ·exact c1 h
   ·exact c2 h
   ·exact c3 h
   ·exact c4 h
  rw[if_neg hok]at hq;refine inner l hl i h1 x h2 (fun hm=>by rw[if_pos hm]at hq;exact hq) (fun hm=>?_) i 0 (by omega) (zq _) (by simp);rw[if_neg hm]at hq;have e:(l.take (i+1)).map (·.2)=(l.take i).map (·.2)++[x.2]:=by
   rw[zp h1,zR];have:l[i]=x:=by rw[←h2];simp[h1]
   rw[this];rfl
  exact loop l hl r (i+1) h3 h1 (by rw[e];exact hq)
theorem ok:Ac A4 18 GA:=by
 refine AJ (X:=D0) rfl Hb (d:=9) (by kernel_rfl) (by kernel_rfl) rfl (fun(l:List (Int×Int)) hl=>?_) (Ad (by kernel_rfl));have key:∀(v:Int) ob,v=De l→Af GA l (.dat i64 v) ob:=fun v ob h=>zV rfl rfl h
 unfold De at key;refine zA (Ay l) (zg (fun c=>zf (key _ _ ?_)) (fun c=>zg (fun d=>zf (key _ _ ?_)) (fun d=>?_)))
 ·have:l.length=0:=by simpa using c
  rw[if_pos this]
 ·have c:¬l.length=0:=by simpa using c
  have d:=of_decide_eq_true d;rw[if_neg c,if_pos (by omega)]
 ·have c:¬l.length=0:=by simpa using c
  have d:=of_decide_eq_false d;rw[if_neg c,if_neg (by omega)]at key;exact loop l (by omega) l 0 rfl (zq _) (fun ob=>key _ ob rfl)
end T18
namespace T17
variable {Q:PV→Ob→Prop}
theorem loop(l:List (Int×Int))(hl:l.length≤36):∀(r:List (Int×Int)) (i:Nat) (m:List (Int×Bool)),l.drop i=r→i≤l.length→MW m (fun y=>y∈(l.take i).map (·.2))→(∀ob,Q (.dat i64 (Jp (l.length:Int) ((l.take i).map (·.2)) r)) ob)→Ends aH (L1 l l (l.length:Int) i m) Q
 |[],i,m,h,hi,hm,hq=>by
  have:=drop_nil h hi;subst this;exact ze (Ap ..) (zi (by simp) (zf (hq _)))
 |x::r,i,m,h,hi,hm,hq=>by
  obtain⟨h1,h2,h3⟩:=drop_cons (d:=((0:Int),(0:Int))) h;refine ze (Ap ..) (zc (by simp;omega) (zc (by simp;omega) ?_));have h2':zm l (zj (i:Int)) ((0:Int),(0:Int))=x:=h2;rw[h2',wr ((i:Int)+1) (by omega) (by omega)];unfold Jp at hq;have nxt:¬(x.1<3∨6<x.1∨x.2<1∨(l.length:Int)<x.2)→x.2∉(l.take i).map (·.2)→Ends aH (L1 l l (l.length:Int) ((i:Int)+1) (FE (.int .i64) .bool x.2 true m)) Q:=by
   intro hok hno;rw[if_neg hok,if_neg hno]at hq;have e:(l.take (i+1)).map (·.2)=(l.take i).map (·.2)++[x.2]:=by
    rw[zp h1,zR];have:l[i]=x:=by rw[←h2];simp[h1]
    rw[this];rfl
   refine loop l hl r (i+1) _ h3 h1 ((hm.add x.2).congr fun y=>?_) (by rw[e];exact hq);rw[e,List.mem_append];simp;constructor<;>(rintro(h|h)<;>simp[h])
  have hmem:(Dz (.int .i64) .bool x.2 m).getD false=decide (x.2∈(l.take i).map (·.2)):=by
   rw[zB,decide_eq_true_eq];exact hm x.2
  rw[hmem];have bad:∀ {t:Tr} {ob:Ob} (c:Bool),(x.1<3∨6<x.1∨x.2<1∨(l.length:Int)<x.2)→Ends aH (.ite (zk [BS true 3,BS c 9] !=(0:Int)) (.leaf (.dat i64 (zk [BS true 3,BS c 9])) ob) t) Q:=fun c hb=>by
   rw[if_pos hb]at hq;have e:zk [BS true 3,BS c 9]=3:=rfl
   rw[e];exact zc rfl (zf (hq _))
  refine zg (fun c=>zc rfl (zc rfl (zc rfl (bad _ (.inl (of_decide_eq_true c)))))) (fun c1=>zg (fun c=>zc rfl (zc rfl (zc rfl (bad _ (.inr (.inl (of_decide_eq_true c))))))) (fun c2=>zg (fun c=>zc rfl (zc rfl (zc rfl (bad _ (.inr (.inr (.inl (of_decide_eq_true c)))))))) (fun c3=>zc rfl (zc rfl (zc rfl ?_)))));have c1:=of_decide_eq_false c1;have c2:=of_decide_eq_false c2;have c3:=of_decide_eq_false c3;by_cases hb:(l.length:Int)<x.2
  ·rw[decide_eq_true (show x.2>(l.length:Int)from hb)];exact bad _ (.inr (.inr (.inr hb)))
  ·rw[decide_eq_false (show ¬x.2>(l.length:Int)from hb)];have hok:¬(x.1<3∨6<x.1∨x.2<1∨(l.length:Int)<x.2):=by
    rintro(h|h|h|h)
    ·exact c1 h
    ·exact c2 h
    ·exact c3 h
    ·exact hb h
   by_cases hs:x.2∈(l.take i).map (·.2)
   ·rw[decide_eq_true hs];rw[if_neg hok,if_pos hs]at hq;exact zc rfl (zf (hq _))
   ·rw[decide_eq_false hs];exact zi rfl (nxt hok hs)
theorem ok:Ac A4 17 GA:=by
 refine AJ (X:=aH) rfl YC (d:=9) (by kernel_rfl) (by kernel_rfl) rfl (fun(l:List (Int×Int)) hl=>?_) (Ad (by kernel_rfl));have key:∀(v:Int) ob,v=De l→Af GA l (.dat i64 v) ob:=fun v ob h=>zV rfl rfl h
 unfold De at key;refine zA (Ay l) (zc rfl (zc rfl (zc rfl ?_)));by_cases c:l.length=0
 ·rw[if_pos c]at key;have e:zk [BS ((l.length:Int)==0) 12,BS (decide ((l.length:Int)>36)) 5]=12:=by
   rw[show((l.length:Int)==0)=true by simp[c]];rfl
  rw[e];exact zc rfl (zf (key _ _ rfl))
 ·rw[if_neg c]at key;rw[show((l.length:Int)==0)=false by rw[beq_eq_false_iff_ne];omega];by_cases d:36<l.length
  ·rw[if_pos d]at key;rw[decide_eq_true (show(l.length:Int)>36 by omega)];exact zc rfl (zf (key _ _ rfl))
  ·rw[if_neg d]at key;rw[decide_eq_false (show ¬(l.length:Int)>36 by omega)];exact zi rfl (loop l (by omega) l 0 [] rfl (zq _) (MW.nil.congr (by simp)) (fun ob=>key _ ob rfl))
end T17
end Go.Pe
end
section
namespace Go.Pe
open Sp
open Go.Det
section
theorem Y6{s:Sh}(hs:s.sz=1){ob:Ob}{id n:Nat}{c:Option Nat}{fz:Bool}{t:TypeId}{o:List s.T}(hg:AF ob id=some (.arr fz t s o))(hle:n=o.length):
  GH ⟨0,.leaf,ob,0⟩ (.list s) (.sl id 1 0 n c)=some (true,o):=by
 subst hle;unfold GH;have h2:EI ⟨0,.leaf,ob,0⟩ (PV.cells (.sl id 1 0 o.length c))=some (true,[.dat (.list s) o]):=by
  show(match Cm ⟨0,.leaf,ob,0⟩ (.sl id 1 0 o.length c),some (true,[])with|some (c,x),some (d,xs)=>some (c&&d,x::xs)|_,_=>none)=_;have:Cm ⟨0,.leaf,ob,0⟩ (.sl id 1 0 o.length c)=some (true,.dat (.list s) o):=by
   unfold Cm AD.obj;simp only[hg,hs,Nat.beq_refl,cond_true];rw[decide_eq_true (by omega),List.drop_zero,zO]
  rw[this];rfl
 simp only[Jn,Sh.MV,beq_self_eq_true,cond_true];rw[h2];simp only[Q8,Bool.true_and];simp[Dc,BW,Zm,DQ]
end
theorem Xa:∀g sp,SO.sp g=some sp→Ac A4 g sp:=Ab T38.ok (Ab T39.ok (fun g sp h=>by cases h))
theorem Fm(n:Int):EJ n=true↔n<0∨999999999<n:=by unfold EJ;simp
namespace T48
variable {Q:PV→Ob→Prop}
theorem PU(w:List Int)(hw:w.length≤1000000)(r:List Int):∀(i:Nat),w.drop i=r→i≤w.length→Ends SO (L2 w (r.any EJ)) Q→Ends SO (L1 w w (w.length:Int) i) Q:=by
 induction r with
 |nil=>
  intro i h hi hq;have:=drop_nil h hi;subst this;exact ze (Ap ..) (zi (by simp) hq)
 |cons x r ih=>
  intro i h hi hq;obtain⟨h1,h2,h3⟩:=drop_cons (d:=(0:Int)) h;refine ze (Ap ..) (zc (by simp;omega) (zc (by simp;omega) ?_));have h2':zm w (zj (i:Int)) (0:Int)=x:=h2;rw[h2',wr ((i:Int)+1) (by omega) (by omega),decide_eq_true (show(i:Int)≥0 by omega)];rw[zE]at hq;by_cases hf:EJ x=true
  ·rw[hf,zW]at hq;rcases(Fm x).1 hf with c|c
   ·exact zc (decide_eq_true c) hq
   ·exact zg (fun _=>hq) (fun _=>zc (decide_eq_true c) hq)
  ·have nf:¬(x<0∨999999999<x):=fun k=>hf ((Fm x).2 k)
   have hf:EJ x=false:=by simpa using hf
   rw[hf,zF]at hq;have:=ih (i+1) h3 h1 hq;exact zi (decide_eq_false (by omega)) (zi (decide_eq_false (by omega)) this)
theorem Nk(w:List Int)(b:Bool)(hw:w.length≤1000000)(r:List Int):∀(i:Nat),w.drop i=r→i≤w.length→Ends SO (L4 w b (!(r.any fun n=>decide (n≠0)))) Q→Ends SO (L3 w b w (w.length:Int) i) Q:=by
 induction r with
 |nil=>
  intro i h hi hq;have:=drop_nil h hi;subst this;exact ze (BD ..) (zi (by simp) hq)
 |cons x r ih=>
  intro i h hi hq;obtain⟨h1,h2,h3⟩:=drop_cons (d:=(0:Int)) h;refine ze (BD ..) (zc (by simp;omega) (zc (by simp;omega) ?_));have h2':zm w (zj (i:Int)) (0:Int)=x:=h2;rw[h2',wr ((i:Int)+1) (by omega) (by omega),decide_eq_true (show(i:Int)≥0 by omega)];rw[zE]at hq;by_cases hx:x=0
  ·rw[decide_eq_false (fun k=>k hx),zF]at hq;have:=ih (i+1) h3 h1 hq;exact zi (by simp[hx]) this
  ·rw[decide_eq_true hx,zW]at hq;exact zc (by simp[hx]) hq
theorem ok:Ac A4 48 DF:=by
 refine AJ (X:=SO) rfl Xa (d:=9) (by kernel_rfl) (by kernel_rfl) (by kernel_rfl) (fun(w:List Int) hl=>?_) (Ad (by kernel_rfl));have hl:w.length≤1000000:=of_decide_eq_true hl;have key:∀(v:Int) ob,v=AO w→Af DF w (.dat i64 v) ob:=fun v ob h=>zV rfl rfl h
 refine zA (Ay w) (PU w hl w 0 rfl (zq _) (ze (AS ..) (Nk w _ hl w 0 rfl (zq _) (ze (CG ..) ?_))));refine zc rfl (zc rfl (zc rfl (zc rfl (zc rfl (zf (key _ _ ?_))))));unfold AO;have f1:∀ {x:Int} {r:List Int},x≠0→zk (x::r)=x:=fun h=>if_pos h
 have f0:∀ {r:List Int},zk (0::r)=zk r:=if_neg (by decide)
 by_cases c:w.length=0
 ·rw[if_pos c,show((w.length:Int)==0)=true by simp[c]];exact f1 (by decide)
 ·rw[if_neg c,show((w.length:Int)==0)=false by rw[beq_eq_false_iff_ne];omega];show zk (0::_)=_
  rw[f0];by_cases d:256<w.length
  ·rw[if_pos d,decide_eq_true (show(w.length:Int)>256 by omega)];exact f1 (by decide)
  ·rw[if_neg d,decide_eq_false (show ¬(w.length:Int)>256 by omega)];show zk (0::_)=_
   rw[f0];cases hf:w.any EJ with
   |true=>rw[if_pos rfl];exact f1 (by decide)
   |false=>
    rw[if_neg (by decide)];show zk (0::_)=_
    rw[f0];cases w.any (fun n=>decide (n≠0))<;>rfl
end T48
namespace T14
variable {Q:PV→Ob→Prop}
def rest(b:Bool)(r:List Int):Int:=if r.any EJ=true then 3 else if (b||r.any fun n=>decide (n≠0))=true then 0 else 6
theorem EV{b:Bool}{x:Int}{r:List Int}(h:x<0∨999999999<x):rest b (x::r)=3:=by
 unfold rest;rw[zE,(Fm x).2 h,zW,if_pos rfl]
theorem JI{b:Bool}{x:Int}{r:List Int}(h:¬(x<0∨999999999<x)):rest b (x::r)=rest (b||decide (x≠0)) r:=by
 have:EJ x=false:=by cases hf:EJ x with|false=>rfl|true=>exact absurd ((Fm x).1 hf) h
 unfold rest;rw[zE,this,zF,zE,Bool.or_assoc]
theorem Nk(w:List Int)(hw:w.length≤1000000):∀(r:List Int) (i:Nat),w.drop i=r→i≤w.length→(∀ob,Q (.dat i64 (rest true r)) ob)→Ends D0 (L3 w i) Q
 |[],i,h,hi,hq=>by
  have:=drop_nil h hi;subst this;exact ze (BD ..) (zi (by simp) (zf (hq _)))
 |x::r,i,h,hi,hq=>by
  obtain⟨h1,h2,h3⟩:=drop_cons (d:=(0:Int)) h;have b:(decide ((0:Int)≤(i:Int))&&decide ((i:Int)<(w.length:Int)))=true:=by simp;omega
  refine ze (BD ..) (zc (by simp;omega) (zc b ?_));have h2':zm w (zj (i:Int)) (0:Int)=x:=h2;rw[h2',wr ((i:Int)+1) (by omega) (by omega)];refine zg (fun c=>zf ?_) (fun c=>zc b (zg (fun d=>zf ?_) (fun d=>?_)))
  ·rw[EV (.inl (of_decide_eq_true c))]at hq;exact hq _
  ·rw[EV (.inr (of_decide_eq_true d))]at hq;exact hq _
  ·have c:=of_decide_eq_false c;have d:=of_decide_eq_false d;rw[JI (by omega)]at hq;exact Nk w hw r (i+1) h3 h1 hq
theorem S4(w:List Int)(hw:w.length≤1000000):∀(r:List Int) (i:Nat) (s:Bool),w.drop i=r→i≤w.length→(∀ob,Q (.dat i64 (rest s r)) ob)→Ends D0 (L2 w s i) Q
 |[],i,s,h,hi,hq=>by
  have:=drop_nil h hi;subst this;refine ze (AS ..) (zi (by simp) ?_);cases s
  ·exact zc rfl (zf (hq _))
  ·exact zi rfl (zf (hq _))
 |x::r,i,s,h,hi,hq=>by
  obtain⟨h1,h2,h3⟩:=drop_cons (d:=(0:Int)) h;have b:(decide ((0:Int)≤(i:Int))&&decide ((i:Int)<(w.length:Int)))=true:=by simp;omega
  refine ze (AS ..) (zc (by simp;omega) (zc b ?_));have h2':zm w (zj (i:Int)) (0:Int)=x:=h2;rw[h2',wr ((i:Int)+1) (by omega) (by omega)];refine zg (fun c=>zf ?_) (fun c=>zc b (zg (fun d=>zf ?_) (fun d=>?_)))
  ·rw[EV (.inl (of_decide_eq_true c))]at hq;exact hq _
  ·rw[EV (.inr (of_decide_eq_true d))]at hq;exact hq _
  ·have c:=of_decide_eq_false c;have d:=of_decide_eq_false d;rw[JI (by omega)]at hq;cases s with
   |true=>exact zc rfl (Nk w hw r (i+1) h3 h1 hq)
   |false=>
    have e:decide (x>0)=decide (x≠0):=by rw[zB,decide_eq_true_eq,decide_eq_true_eq];omega
    exact zi rfl (zc b (by rw[e];exact S4 w hw r (i+1) _ h3 h1 hq))
theorem ok:Ac A4 14 DF:=by
 refine AJ (X:=D0) rfl Hb (d:=9) (by kernel_rfl) (by kernel_rfl) rfl (fun(w:List Int) hl=>?_) (Ad (by kernel_rfl));have hl:w.length≤1000000:=of_decide_eq_true hl;have key:∀(v:Int) ob,v=AO w→Af DF w (.dat i64 v) ob:=fun v ob h=>zV rfl rfl h
 unfold AO at key;refine zA (Ay w) (zg (fun c=>zf (key _ _ ?_)) (fun c=>zg (fun d=>zf (key _ _ ?_)) (fun d=>?_)))
 ·have:w.length=0:=by simpa using c
  rw[if_pos this]
 ·have c:¬w.length=0:=by simpa using c
  have d:=of_decide_eq_true d;rw[if_neg c,if_pos (by omega)]
 ·have c:¬w.length=0:=by simpa using c
  have d:=of_decide_eq_false d;rw[if_neg c,if_neg (by omega)]at key;have hq:∀ob,Af DF w (.dat i64 (rest false w)) ob:=fun ob=>key _ ob (by unfold rest;rw[zF])
  match w,c,hq,hl with
  |[],c,_,_=>exact absurd rfl c
  |x::r,c,hq,hl=>
   have b:(decide ((0:Int)≤(0:Int))&&decide ((0:Int)<(((x::r).length:Nat):Int)))=true:=by simp
   refine ze (Ap ..) (zc (by simp) (zc b ?_));have h2':zm (x::r) (zj (0:Int)) (0:Int)=x:=rfl;rw[h2',wr ((0:Int)+1) (by omega) (by omega)];refine zg (fun c=>zf ?_) (fun c=>zc b (zg (fun d=>zf ?_) (fun d=>zc b ?_)))
   ·rw[EV (.inl (of_decide_eq_true c))]at hq;exact hq _
   ·rw[EV (.inr (of_decide_eq_true d))]at hq;exact hq _
   ·have c:=of_decide_eq_false c;have d:=of_decide_eq_false d;rw[JI (by omega),zF]at hq;have e:decide (x>0)=decide (x≠0):=by rw[zB,decide_eq_true_eq,decide_eq_true_eq];omega
    rw[e];exact S4 (x::r) hl r 1 _ rfl (by simp) hq
end T14
namespace T13
theorem loop{Q:PV→Ob→Prop}(l:List Int)(hl:l.length≤1000000):∀(r:List Int) (i:Nat),l.drop i=r→i≤l.length→(∀ob,Q (.dat i64 (zk r)) ob)→Ends D0 (L1 l i) Q
 |[],i,h,hi,hq=>by
  have:=drop_nil h hi;subst this;exact ze (Ap ..) (zi (by simp) (zf (hq _)))
 |x::r,i,h,hi,hq=>by
  obtain⟨h1,h2,h3⟩:=drop_cons (d:=(0:Int)) h;have b:(decide ((0:Int)≤(i:Int))&&decide ((i:Int)<(l.length:Int)))=true:=by simp;omega
  refine ze (Ap ..) (zc (by simp;omega) (zc b ?_));have h2':zm l (zj (i:Int)) (0:Int)=x:=h2;rw[h2',wr ((i:Int)+1) (by omega) (by omega)];unfold zk at hq
  by_cases hx:x=0
  ·rw[if_neg (fun k=>k hx)]at hq;exact zi (by simp[hx]) (loop l hl r (i+1) h3 h1 hq)
  ·rw[if_pos hx]at hq;exact zc (by simp[hx]) (zc b (zf (hq _)))
theorem ok:Ac A4 13 DN:=by
 refine AJ (X:=D0) rfl Hb (d:=9) (by kernel_rfl) (by kernel_rfl) rfl (fun(l:List Int) hl=>?_) (Ad (by kernel_rfl));exact zA (Ay l) (loop l (by simpa [DN]using hl) l 0 rfl (zq _) (fun ob=>zV rfl rfl rfl))
end T13
namespace T15
theorem loop{Q:PV→Ob→Prop}(a b:List Int)(hl:a.length≤1000000)(he:a.length=b.length):∀(r s:List Int) (i:Nat),a.drop i=r→b.drop i=s→i≤a.length→(∀ob,Q (.bl (r==s)) ob)→Ends D0 (L1 a b i) Q
 |[],s,i,h,k,hi,hq=>by
  have:=drop_nil h hi;subst this;have:s=[]:=by rw[←k,he];simp
  subst this;exact ze (Ap ..) (zi (by simp) (zf (hq _)))
 |x::r,[],i,h,k,hi,hq=>by
  obtain⟨h1,h2,h3⟩:=drop_cons (d:=(0:Int)) h;have:=List.drop_eq_nil_iff.1 k;omega
 |x::r,y::s,i,h,k,hi,hq=>by
  obtain⟨h1,h2,h3⟩:=drop_cons (d:=(0:Int)) h;obtain⟨k1,k2,k3⟩:=drop_cons (d:=(0:Int)) k;refine ze (Ap ..) (zc (by simp;omega) (zc (by simp;omega) (zc (by simp;omega) ?_)));have h2':zm a (zj (i:Int)) (0:Int)=x:=h2;have k2':zm b (zj (i:Int)) (0:Int)=y:=k2;rw[h2',k2',wr ((i:Int)+1) (by omega) (by omega)];by_cases hx:x=y
  ·subst hx;exact zi (by simp) (loop a b hl he r s (i+1) h3 k3 h1 (fun ob=>by have:=hq ob;rwa [show((x::r)==(x::s))=(r==s)by simp]at this))
  ·exact zc (by simp[hx]) (zf (by have:=hq [];rwa [show((x::r)==(y::s))=false by simp[hx]]at this))
theorem ok:Ac A4 15 Wz:=by
 refine AJ (X:=D0) rfl Hb (d:=9) (by kernel_rfl) (by kernel_rfl) rfl (fun⟨(a:List Int),(b:List Int)⟩ hl=>?_) (Ad (by kernel_rfl));have hl:a.length≤1000000:=of_decide_eq_true hl;have key:∀(v:Bool) ob,v=(a==b)→Af Wz (a,b) (.bl v) ob:=fun v ob h=>zV rfl rfl h
 refine zA (Ay a b) (zg (fun c=>zf (key _ _ ?_)) (fun c=>?_))
 ·have c:a.length≠b.length:=by intro e;simp[e]at c
  symm;rw[beq_eq_false_iff_ne];rintro rfl;exact c rfl
 ·have c:(a.length:Int)=b.length:=by simpa using c
  have c:a.length=b.length:=by omega
  exact loop a b hl c a b 0 rfl rfl (zq _) (fun ob=>key _ ob rfl)
end T15
end Go.Pe
end
section
namespace Go.Sp
theorem Wu{l:List Int}(h:∀x∈l,0≤x){x:Int}(hx:x∈l)(h0:x≠0):0<Ak l:=by
 have:=I7 h x hx;have:=h x hx;omega
theorem Vd{w:List Int}(h:AO w=0):w.length≠0∧w.length≤256∧(∀x∈w,0≤x∧x≤999999999)∧0<Ak w:=by
 unfold AO at h;split at h
 ·cases h
 ·rename_i h1;split at h
  ·cases h
  ·rename_i h2;split at h
   ·cases h
   ·rename_i h3;split at h
    ·rename_i h4;have hr:∀x∈w,0≤x∧x≤999999999:=fun x hx=>by
      have:¬EJ x=true:=fun k=>h3 (List.any_eq_true.2 ⟨x,hx,k⟩)
      unfold EJ at this;simp only[Bool.or_eq_true,decide_eq_true_eq]at this;omega
     obtain⟨x,hx,hn⟩:=List.any_eq_true.1 h4;exact⟨h1,by omega,hr,Wu (fun y hy=>(hr y hy).1) hx (of_decide_eq_true hn)⟩
    ·cases h
theorem Ja{t:Int}{w:List Int}(h:A5 t w=0):okW t w∧w.length≠0∧w.length≤256∧AO w=0∧EJ t=false:=by
 unfold A5 first at h
 cases hf:EJ t with
 |true=>rw[hf]at h;simp[BS]at h
 |false=>
  rw[hf]at h;have h:first [AO w]=0:=by simpa [BS]using h
  have h:AO w=0:=by
   unfold first first at h
   split at h
   ·exact h
   ·rename_i k;simpa using k
  obtain⟨h1,h2,h3,h4⟩:=Vd h;unfold EJ at hf;simp only[Bool.or_eq_false_iff,decide_eq_false_iff_not]at hf;exact⟨⟨by omega,by omega,h3,h4⟩,h1,h2,h,rfl⟩
theorem Di{t:Int}{w:List Int}(h:okW t w){x:Int}(hx:x∈w):0≤t*x∧t*x≤999999998000000001∧0≤zo (t*x) (Ak w)∧zo (t*x) (Ak w)≤t∧0≤zN (t*x) (Ak w)∧zN (t*x) (Ak w)<Ak w:=by
 obtain⟨h1,h2,h3,h4⟩:=h;obtain⟨x0,x1⟩:=h3 x hx;have hm:=I7 (fun y hy=>(h3 y hy).1) x hx;have a0:0≤t*x:=Int.mul_nonneg h1 x0;have a1:t*x≤999999999*999999999:=zU h2 x1 x0 (by decide);refine⟨a0,by omega,Int.tdiv_nonneg a0 (Int.le_of_lt h4),?_,Int.tmod_nonneg _ a0,Int.tmod_lt_of_pos _ h4⟩;have a2:t*x≤t*Ak w:=zG hm h1;have:=OV h4 a0 a2;rwa [Int.mul_tdiv_cancel _ (by omega)]at this
theorem QX{w:List Int}(h:∀x∈w,0≤x∧x≤999999999)(hl:w.length≤256):0≤Ak w∧Ak w≤255999999744:=by
 have:=Ex fun x hx=>(h x hx).1
 have:=FJ (s:=999999999) fun x hx=>(h x hx).2
 omega
theorem PX{t s:Int}{w:List Int}{x:Int}{r:List Int}{i:Nat}(h:w.drop i=x::r):ES t s (w.take (i+1))=ES t s (w.take i)++[zo (t*x) s]:=by
 rw[Go.Pe.Fa h];simp[ES]
theorem PS{t s:Int}{w:List Int}{x:Int}{r:List Int}{i:Nat}(h:w.drop i=x::r):F4 t s (w.take (i+1))=F4 t s (w.take i)++[zN (t*x) s]:=by
 rw[Go.Pe.Fa h];simp[F4]
theorem Sg{t:Int}{w:List Int}(h:okW t w):∀i:Nat,0≤Ak (ES t (Ak w) (w.take i))∧Ak (ES t (Ak w) (w.take i))≤t*w.length:=by
 intro i;have hm:∀y∈ES t (Ak w) (w.take i),0≤y∧y≤t:=fun y hy=>by
  obtain⟨x,hx,rfl⟩:=zK.1 hy;obtain⟨_,_,a,b,_⟩:=Di h (List.mem_of_mem_take hx);exact⟨a,b⟩
 refine⟨Ex fun y hy=>(hm y hy).1,Int.le_trans (FJ fun y hy=>(hm y hy).2) ?_⟩;refine zG ?_ h.1;simp[ES];omega
end Go.Sp
namespace Go.Pe
open Sp
open Go.Det
theorem Up{A:List Int}{x:Int}{i:Nat}(h:A.length=i):(A++[x]).getD i 0=x:=by subst h;simp
namespace T16
variable {Q:PV→Ob→Prop}
theorem PU(t:Int)(w:List Int)(hw:w.length≤256)(hx:∀x∈w,0≤x∧x≤999999999)(r:List Int):∀(i:Nat) (acc:Int),w.drop i=r→i≤w.length→0≤acc→acc+Ak r≤1000000000000→Ends D0 (L2 t w (acc+Ak r) t 0) Q→Ends D0 (L1 t w acc i) Q:=by
 induction r with
 |nil=>
  intro i acc h hi h0 h1 hq;have:=drop_nil h hi;subst this;rw[show acc+Ak []=acc from Int.add_zero _]at hq;exact ze (Ap ..) (zi (by simp) hq)
 |cons x r ih=>
  intro i acc h hi h0 h1 hq;obtain⟨g1,g2,g3⟩:=drop_cons (d:=(0:Int)) h;have hxm:=hx x (Eg h);have hr:0≤Ak r:=Ex fun y hy=>(hx y (List.mem_of_mem_drop (i:=i+1) (by rw[g3];exact hy))).1
  simp only[Ak]at h1 hq;refine ze (Ap ..) (zc (by simp;omega) (zc (by simp;omega) ?_));have g2':zm w (zj (i:Int)) (0:Int)=x:=g2;rw[g2',wr ((i:Int)+1) (by omega) (by omega),wr (acc+x) (by omega) (by omega)];exact ih (i+1) (acc+x) g3 g1 (by omega) (by omega) (by rw[Int.add_assoc];exact hq)
theorem BL(n:Nat)(left:Int)(R o:List Int)(hn:n≤256)(hR:R.length=n)(ho:o.length=n)(r:List Int):∀(i:Nat) (b:Int),R.drop i=r→i≤n→0≤b→b<n→
  (∀c:Int,c=Rb R r i b→0≤c→c<n→Ends D0 (L5 n n (zd .i64 (left-1)) (R.set c.toNat (-1)) (o.set c.toNat (zd .i64 (o.getD c.toNat 0+1)))) Q)→Ends D0 (L7 n n left b i R o) Q:=by
 induction r with
 |nil=>
  intro i b h hi h0 h1 hq;have:=drop_nil h (by omega);have e:i=n:=by omega
  subst e;refine ze (Dj ..) (zi (by simp) ?_);have c1:(decide ((0:Int)≤b)&&decide (b<(i:Int)))=true:=by simp;omega
  have c2:decide (b.toNat<o.length)=true:=decide_eq_true (by omega);have c3:decide (b.toNat<R.length)=true:=decide_eq_true (by omega);exact zc c1 (zc c2 (zc c1 (zc c2 (zc c1 (zc c3 (hq b rfl h0 h1))))))
 |cons x r ih=>
  intro i b h hi h0 h1 hq;obtain⟨g1,g2,g3⟩:=drop_cons (d:=(0:Int)) h;have c1:(decide ((0:Int)≤b)&&decide (b<(n:Int)))=true:=by simp;omega
  refine ze (Dj ..) (zc (decide_eq_true (by omega)) (zc (by simp;omega) (zc (decide_eq_true (by omega)) (zc c1 (zc (decide_eq_true (by omega)) ?_)))));have g2':zm R (zj (i:Int)) (0:Int)=x:=g2;rw[g2',wr ((i:Int)+1) (by omega) (by omega)];unfold Rb at hq;refine zg (fun c=>?_) (fun c=>?_)
  ·have c:x>zz R b:=of_decide_eq_true c;rw[if_pos c]at hq;exact ih (i+1) i g3 (by omega) (by omega) (by omega) hq
  ·have c:¬x>zz R b:=of_decide_eq_false c;rw[if_neg c]at hq;exact ih (i+1) b g3 (by omega) h0 h1 hq
theorem BK(n:Nat)(hn:n≤256)(h0:0<n)(f:Nat):∀(R o:List Int),f≤256→R.length=n→o.length=n→(∀x∈o,0≤x∧x+f≤2000000000)→(∀w R',w=Pp f o R→Q (.sl 0 1 0 n none) [(1,.arr false 3 i64 R'),(0,.arr false 3 i64 w)])→Ends D0 (L5 n n f R o) Q:=by
 induction f with
 |zero=>
  intro R o _ hR ho hb hq;exact ze (Dk ..) (zi (by simp) (zf (hq o R rfl)))
 |succ f ih=>
  intro R o hf hR ho hb hq;refine ze (Dk ..) (zc (decide_eq_true (by omega)) ?_);refine BL n _ R o hn hR ho (R.drop 1) 1 0 rfl (by omega) (by omega) (by omega) (fun c hc c0 c1=>?_);have hm:o.getD c.toNat 0∈o:=by
   have:c.toNat<o.length:=by omega
   simp[this]
  have hbm:=hb _ hm;rw[wr (((f+1:Nat):Int)-1) (by omega) (by omega),wr (o.getD c.toNat 0+1) (by omega) (by omega),show(((f+1:Nat):Int)-1)=(f:Int)by omega];refine ih _ _ (by omega) (by simp[hR]) (by simp[ho]) (fun x hx=>?_) (fun w R' hw=>hq w R' ?_)
  ·rcases zL hx with h|h
   ·have:=hb x h;omega
   ·subst h;omega
  ·have hc:c=NH R:=hc;subst hc;exact hw
theorem Nk(t:Int)(w:List Int)(hok:Sp.okW t w)(hl:w.length≤256)(hq:Ends D0 (L5 w.length w.length (UC t w) (F4 t (Ak w) w) (ES t (Ak w) w)) Q)(r:List Int):
  ∀(i:Nat),w.drop i=r→i≤w.length→Ends D0 (L3 t w (Ak w) i i (t-Ak (ES t (Ak w) (w.take i))) i (F4 t (Ak w) (w.take i)) (ES t (Ak w) (w.take i))) Q:=by
 have hs:=(QX hok.2.2.1 hl);induction r with
 |nil=>
  intro i h hi;have:=drop_nil h hi;subst this;rw[zO];exact ze (BD ..) (zi (by simp) hq)
 |cons x r ih=>
  intro i h hi;obtain⟨g1,g2,g3⟩:=drop_cons (d:=(0:Int)) h;obtain⟨b1,b2,b3,b4,b5,b6⟩:=Sp.Di hok (Eg h);obtain⟨p1,p2⟩:=Sg hok i;have hpt:t*(w.length:Int)≤999999999*256:=zU hok.2.1 (by omega) (by omega) (by decide);have ht:=hok.1;have hok2:=hok.2.1;have hs0:Ak w≠0:=by have:=hok.2.2.2;omega
  have lO:(ES t (Ak w) (w.take i)).length=i:=by rw[Ho,zD];omega
  have lR:(F4 t (Ak w) (w.take i)).length=i:=by rw[GZ,zD];omega
  have c1:(decide ((0:Int)≤(i:Int))&&decide ((i:Int)<(w.length:Int)))=true:=by simp;omega
  have c2:∀k:List Int,k.length=i→(decide ((1:Nat)≤1)&&true&&decide (i=k.length)&&decide ((2*(i+1)+1000)*8≤281474976710656))=true:=fun k hk=>by rw[hk];simp;omega
  have c3:decide (Ak w≠0)=true:=decide_eq_true hs0;refine ze (BD ..) ?_;conv=>zeta
  have g2':zm w (zj (i:Int)) (0:Int)=x:=g2;simp only[g2'];rw[wr (t*x) (by omega) (by omega),wr (zo (t*x) (Ak w)) (by omega) (by omega)];have e3:(ES t (Ak w) (w.take i)++[zo (t*x) (Ak w)]).getD (zj (i:Int)) 0=zo (t*x) (Ak w):=Up lO;rw[e3,wr (t-Ak (ES t (Ak w) (w.take i))-zo (t*x) (Ak w)) (by omega) (by omega),wr ((i:Int)+1) (by omega) (by omega)];refine zc (by simp;omega) (zc c1 (zc c3 (zc (c2 _ lO) (zc c1 (zc c3 (zc (c2 _ lR) (zc (by simp;omega) (zc (by simp[lO]) ?_))))))));have:=ih (i+1) g3 g1;rw[PX h,PS h,Fh]at this;have e4:t-(Ak (ES t (Ak w) (w.take i))+Ak [zo (t*x) (Ak w)])=t-Ak (ES t (Ak w) (w.take i))-zo (t*x) (Ak w):=by simp only[Ak];omega
  rw[e4]at this;exact this
theorem ok:Ac A4 16 MF:=by
 refine AJ (X:=D0) rfl Hb (d:=9) (by kernel_rfl) (by kernel_rfl) rfl (fun⟨(t:Int),(w:List Int)⟩ hp=>?_) (Ad (by kernel_rfl));have hp:(decide (w.length≤20)&&decide (A5 t w=0))=true:=hp;rw[Bool.and_eq_true,decide_eq_true_eq,decide_eq_true_eq]at hp;obtain⟨hok,hne,hl,_,_⟩:=Ja hp.2;have hs:=QX hok.2.2.1 hl;have hL:=He hok;refine zA (Ay t w) (PU t w hl hok.2.2.1 w 0 0 rfl (zq _) (Int.le_refl _) (by omega) ?_);rw[Int.zero_add];have fin:Ends D0 (L5 w.length w.length (UC t w) (F4 t (Ak w) w) (ES t (Ak w) w)) (Af MF (t,w)):=by
  obtain⟨f,hf⟩:=zP hL.1;rw[hf];refine BK w.length hl (by omega) f _ _ (by omega) (GZ ..) (Ho ..) (fun x hx=>?_) (fun v R' hv=>?_)
  ·obtain⟨y,hy,rfl⟩:=zK.1 hx;obtain⟨_,_,a,b,_⟩:=Sp.Di hok hy;have:=hok.2.1;omega
  ·have lv:w.length=v.length:=by
    rw[hv];have:∀(f:Nat) (o R:List Int),(Pp f o R).length=o.length:=by
     intro f;induction f with
     |zero=>intro o R;rfl
     |succ f ih=>intro o R;unfold Pp;rw[ih];simp
    rw[this,Ho]
   have hg:AF [(1,Obj.arr false 3 i64 R'),(0,Obj.arr false 3 i64 v)] 0=some (Obj.arr false 3 i64 v):=rfl;refine⟨v,Y6 (s:=.int .i64) (c:=none) (o:=v) rfl hg lv,?_⟩;rw[hv];show _=H6 t w;unfold H6;rw[hf];rfl
 cases w with
 |nil=>exact absurd rfl hne
 |cons x r=>
  have l3:=Nk t (x::r) hok hl fin r 1 rfl (by simp);obtain⟨b1,b2,b3,b4,b5,b6⟩:=Sp.Di hok (x:=x) zC;have ht:=hok.1;have hok2:=hok.2.1;have hs0:Ak (x::r)≠0:=by have:=hok.2.2.2;omega
  have c1:(decide ((0:Int)≤(0:Int))&&decide ((0:Int)<(((x::r).length:Nat):Int)))=true:=by simp
  refine ze (AS ..) ?_;conv=>zeta
  have g2':zm (x::r) (zj (0:Int)) (0:Int)=x:=rfl;rw[g2'];rw[wr (t*x) (by omega) (by omega),wr (zo (t*x) (Ak (x::r))) (by omega) (by omega)];have e3:zm [zo (t*x) (Ak (x::r))] (zj (0:Int)) 0=zo (t*x) (Ak (x::r)):=rfl;rw[e3,wr (t-zo (t*x) (Ak (x::r))) (by omega) (by omega),wr ((0:Int)+1) (by omega) (by omega)];refine zc (by simp) (zc c1 (zc (decide_eq_true hs0) (zc rfl (zc c1 (zc (decide_eq_true hs0) (zc rfl (zc rfl (zc rfl ?_))))))));have e4:t-Ak (ES t (Ak (x::r)) ((x::r).take 1))=t-zo (t*x) (Ak (x::r)):=by simp[ES,Ak]
  rw[e4]at l3;exact l3
end T16
end Go.Pe
end
section
namespace Go.Pe
open Sp
open Go.Det
section gen
variable {X:A2}{Q:PV→Ob→Prop}
theorem Rk(R:List Int)(ok:Int→Prop)(n:Nat)(F:List Int→Tr)(G:Int→List Int→Tr)
  (hG:∀(j:Nat) (arr:List Int) (x y:Int),j+1<n→arr.length=n→arr.getD (j+1) 0=x→arr.getD j 0=y→ok x→ok y→(zz R y<zz R x→Ends X (G j ((arr.set (j+1) y).set j x)) Q)→(¬zz R y<zz R x→Ends X (F arr) Q)→Ends X (G ((j:Int)+1) arr) Q)
  (hG0:∀arr:List Int,arr.length=n→Ends X (F arr) Q→Ends X (G 0 arr) Q) (x:Int) (hx:ok x) (S:List Int) (rev:List Int):
  ∀(P:List Int),(∀y∈rev,ok y)→rev.length+1+P.length+S.length=n→(∀arr,arr=Oz R x P rev++S→Ends X (F arr) Q)→∀k:Int,k=(rev.length:Int)→Ends X (G k (rev.reverse++x::(P++S))) Q:=by
 induction rev with
 |nil=>
  intro P _ hl hq k hk;have hk:k=0:=hk;subst hk;exact hG0 _ (by simp at hl ⊢;omega) (hq _ rfl)
 |cons y r ih=>
  intro P hok hl hq k hk;have hk:k=(r.length:Int)+1:=by rw[hk];simp
  subst hk;have hl':r.length+1+1+P.length+S.length=n:=by simpa using hl
  have e2:(y::r).reverse++x::(P++S)=r.reverse++y::x::(P++S):=by simp
  have e3:r.reverse++y::x::(P++S)=(r.reverse++[y])++x::(P++S):=by simp
  rw[e2];refine hG r.length _ x y (by omega) (by simp;omega) ?_ (BZ _ _ _ _ (by simp)) hx (hok y zC) (fun c=>?_) (fun c=>hq _ ?_)
  ·rw[e3];exact BZ _ _ _ _ (by simp)
  ·have s1:((r.reverse++y::x::(P++S)).set (r.length+1) y).set r.length x=r.reverse++x::((y::P)++S):=by
    rw[e3,BT (r.reverse++[y]) (P++S) x y (by simp)];rw[show(r.reverse++[y])++y::(P++S)=r.reverse++y::y::(P++S)by simp];exact BT _ _ _ _ (by simp)
   rw[s1];refine ih (y::P) (fun z hz=>hok z (zy _ hz)) (by simp;omega) (fun arr ha=>hq arr ?_) _ rfl;rw[ha];conv=>rhs;unfold Oz
   rw[if_pos c]
  ·conv=>rhs;unfold Oz
   rw[if_neg c];simp
theorem La(R:List Int)(ok:Int→Prop)(n:Nat)(F:Int→List Int→Tr)(G:Int→Int→List Int→Tr)
  (hG:∀(i j:Nat) (arr:List Int) (x y:Int),i<n→j+1<n→arr.length=n→arr.getD (j+1) 0=x→arr.getD j 0=y→ok x→ok y→(zz R y<zz R x→Ends X (G i j ((arr.set (j+1) y).set j x)) Q)→(¬zz R y<zz R x→Ends X (F ((i:Int)+1) arr) Q)→Ends X (G i ((j:Int)+1) arr) Q)
  (hG0:∀(i:Nat) (arr:List Int),i<n→arr.length=n→Ends X (F ((i:Int)+1) arr) Q→Ends X (G i 0 arr) Q)
  (hF:∀(i:Nat) (arr:List Int),i<n→arr.length=n→Ends X (G i i arr) Q→Ends X (F i arr) Q) (w:List Int) (hw:Ends X (F n w) Q) (s:List Int):
  ∀(o:List Int) (k:Int),o.length+s.length=n→k=(o.length:Int)→(∀y∈o,ok y)→(∀y∈s,ok y)→s.foldl (OA R) o=w→Ends X (F k (o++s)) Q:=by
 induction s with
 |nil=>
  intro o k hn hk _ _ he;have he:o=w:=he;subst he hk;rw[zH];have:o.length=n:=by simpa using hn
  rw[this];exact hw
 |cons x s ih=>
  intro o k hn hk ho hs he;subst hk;have hn':o.length+(s.length+1)=n:=by simpa using hn
  refine hF o.length _ (by omega) (by simp;omega) ?_;have:=Rk (X:=X) (Q:=Q) R ok n (F ((o.length:Int)+1)) (G o.length) (fun j arr x y h1 h2 h3 h4 h5 h6 h7 h8=>hG o.length j arr x y (by omega) h1 h2 h3 h4 h5 h6 h7 h8) (fun arr h1 h2=>hG0 o.length arr (by omega) h1 h2) x (hs x zC) s o.reverse [] (fun y hy=>ho y (List.mem_reverse.1 hy)) (by simp;omega)
   (fun arr ha=>?_) (o.length:Int) (by simp)
  ·simpa using this
  ·subst ha;have hl:=WA R o x;unfold OA at hl;refine ih _ _ (by omega) (by omega) (fun y hy=>?_) (fun y hy=>hs y (zy _ hy)) he;rcases List.mem_cons.1 ((G7 R o x).mem_iff.1 hy)with rfl|h
   ·exact hs y zC
   ·exact ho y h
end gen
theorem XK{st:AD}{a b:Sh}{l:List Sh}{p:PV}{ps:List PV}{x:a.T}{y:(Bb (b::l)).T}(h1:GH st a p=some (true,x))(h2:CA st (b::l) ps=some (true,y)):CA st (a::b::l) (p::ps)=some (true,(x,y)):=by
 show(match GH st a p,CA st (b::l) ps with|some (c,x),some (d,y)=>some (c&&d,(x,y))|_,_=>none)=_;rw[h1,h2];rfl
namespace T12
variable {Q:PV→Ob→Prop}
theorem Xb:∀g sp,EF.sp g=some sp→Ac A4 g sp:=Ab T38.ok (Ab T39.ok (Ab T48.ok (Ab (Eb (by kernel_rfl) (Ad (by kernel_rfl))) (fun g sp h=>by cases h))))
theorem PU(t:Int)(w:List Int)(hw:w.length≤256)(hx:∀x∈w,0≤x∧x≤999999999)(hq:∀n:Nat,n=w.length→Ends EF (L2 t (Ak w) n n t w (w.length:Int) 0 (zt n 0) (zt n 0) n (zt n 0)) Q)(r:List Int):
  ∀(i:Nat) (acc:Int),w.drop i=r→i≤w.length→0≤acc→acc+Ak r≤1000000000000→acc+Ak r=Ak w→Ends EF (L1 t w acc w (w.length:Int) i) Q:=by
 induction r with
 |nil=>
  intro i acc h hi h0 h1 he;have:=drop_nil h hi;subst this;rw[show acc+Ak []=acc from Int.add_zero _]at he;subst he;refine ze (Ap ..) (zi (by simp) ?_);have c1:(decide ((0:Int)≤(w.length:Int))&&decide ((w.length:Int)=(w.length:Int))&&decide (8*zj (w.length:Int)≤281474976710656)&&decide ((w.length:Int)<9223372036854775808))=true:=by simp;omega
  exact zc c1 (zc c1 (zc c1 (hq _ (zx _))))
 |cons x r ih=>
  intro i acc h hi h0 h1 he;obtain⟨g1,g2,g3⟩:=drop_cons (d:=(0:Int)) h;have hxm:=hx x (Eg h);have hr:0≤Ak r:=Ex fun y hy=>(hx y (List.mem_of_mem_drop (i:=i+1) (by rw[g3];exact hy))).1
  simp only[Ak]at h1 he;refine ze (Ap ..) (zc (by simp;omega) (zc (by simp;omega) ?_));have g2':zm w (zj (i:Int)) (0:Int)=x:=g2;rw[g2',wr ((i:Int)+1) (by omega) (by omega),wr (acc+x) (by omega) (by omega)];exact ih (i+1) (acc+x) g3 g1 (by omega) (by omega) (by omega)
theorem OT(A:List Int)(k:Nat)(y:Int){i:Nat}(h:A.length=i):(A++zt (k+1) 0).set i y=(A++[y])++zt k 0:=by
 rw[List.replicate_succ,BT A _ 0 y h];simp
theorem Yc(A:List Int)(k:Nat)(y:Int){i:Nat}(h:A.length=i):((A++[y])++zt k (0:Int)).getD i 0=y:=by
 rw[List.append_assoc];exact BZ A _ y 0 h
theorem S4(t:Int)(w:List Int)(n:Nat)(hn:n=w.length)(hok:Sp.okW t w)(hl:w.length≤256)
  (hq:Ends EF (L2 t (Ak w) n n (UC t w) w (n:Int) (n:Int) (F4 t (Ak w) w) (zn n) n (ES t (Ak w) w)) Q) (r:List Int):
  ∀(i:Nat),w.drop i=r→i≤n→Ends EF (L2 t (Ak w) n n (t-Ak (ES t (Ak w) (w.take i))) w (n:Int) i (F4 t (Ak w) (w.take i)++zt (n-i) 0) (zn i++zt (n-i) 0) n (ES t (Ak w) (w.take i)++zt (n-i) 0)) Q:=by
 induction r with
 |nil=>
  intro i h hi;have:=drop_nil h (by omega);have e:i=n:=by omega
  subst e;rw[hn,zO, ←hn,Nat.sub_self,List.replicate_zero,zH,zH,zH];exact hq
 |cons x r ih=>
  intro i h hi;obtain⟨g1,g2,g3⟩:=drop_cons (d:=(0:Int)) h;obtain⟨b1,b2,b3,b4,b5,b6⟩:=Sp.Di hok (Eg h);obtain⟨p1,p2⟩:=Sg hok i;have hpt:t*(w.length:Int)≤999999999*256:=zU hok.2.1 (by omega) (by omega) (by decide);have ht:=hok.1;have hok2:=hok.2.1;have hs0:decide (Ak w≠0)=true:=decide_eq_true (by have:=hok.2.2.2;omega);have lO:(ES t (Ak w) (w.take i)).length=i:=by rw[Ho,zD];omega
  have lR:(F4 t (Ak w) (w.take i)).length=i:=by rw[GZ,zD];omega
  have lU:(zn i).length=i:=E9 i;have ek:n-i=(n-(i+1))+1:=by omega
  have c1:∀m:Nat,i<m→(decide ((0:Int)≤(i:Int))&&decide ((i:Int)<(m:Int)))=true:=fun m hm=>by simp;omega
  have g2':zm w (zj (i:Int)) (0:Int)=x:=g2;refine ze (AS ..) ?_;conv=>zeta
  simp only[g2'];rw[wr (t*x) (by omega) (by omega),wr (zo (t*x) (Ak w)) (by omega) (by omega),ek];simp only[zx];have s1:=fun y=>OT _ (n-(i+1)) y lO
  have s2:=fun y=>OT _ (n-(i+1)) y lR
  have s3:=fun y=>OT _ (n-(i+1)) y lU
  have s4:=fun y=>Yc _ (n-(i+1)) y lO
  simp only[s1,s2,s3,s4];rw[wr (t-Ak (ES t (Ak w) (w.take i))-zo (t*x) (Ak w)) (by omega) (by omega),wr ((i:Int)+1) (by omega) (by omega)];refine zc (decide_eq_true (by omega)) (zc (c1 _ (by omega)) (zc hs0 (zc hs0 (zc (c1 _ (by omega)) (zc (decide_eq_true (by simp[lO])) (zc (c1 _ (by omega)) (zc (decide_eq_true (by simp[lR])) (zc (c1 _ (by omega)) (zc (decide_eq_true (by simp[lU])) (zc (c1 _ (by omega)) (zc (decide_eq_true (by simp[lO])) ?_)))))))))));have:=ih (i+1) g3 (by omega);rw[PX h,PS h,Fh,Uj]at this;have e4:t-(Ak (ES t (Ak w) (w.take i))+Ak [zo (t*x) (Ak w)])=t-Ak (ES t (Ak w) (w.take i))-zo (t*x) (Ak w):=by simp only[Ak];omega
  rw[e4]at this;exact this
theorem aR(n m c:Nat)(ord O:List Int)(hm:m≤ord.length)(hn:n=O.length)(hl:ord.length≤256)(hr:∀x∈ord,0≤x∧x<(n:Int))
  (hq:∀ob,AF ob 0=some (.arr false 3 i64 (Sp.bump O (ord.take m)))→Q (.tup [.sl 0 1 0 n none,.dat i64 0]) ob) (f:Nat):
  ∀(i:Nat) (out:List Int),m-i=f→i≤m→out=Sp.bump O (ord.take i)→(∀x∈out,0≤x∧x≤999999999+i)→Ends EF (Za n m c (m:Int) i ord out) Q:=by
 induction f with
 |zero=>
  intro i out hf hi ho hb;have:i=m:=by omega
  subst this;exact ze (OB ..) (zi (by simp) (zf (hq _ (by rw[ho];rfl))))
 |succ f ih=>
  intro i out hf hi ho hb;have hlt:i<m:=by omega
  have hio:i<ord.length:=by omega
  have lo:out.length=n:=by rw[ho,I6,hn]
  have hx:=hr ord[i] (List.getElem_mem hio);have gx:ord.getD (zj (i:Int)) 0=ord[i]:=by simp[hio]
  generalize hxe:ord[i]=x at hx gx;have hxm:out.getD x.toNat 0∈out:=by
   have:x.toNat<out.length:=by omega
   simp[this]
  have hbx:=hb _ hxm;refine ze (OB ..) ?_;conv=>zeta
  rw[gx,wr (out.getD x.toNat 0+1) (by omega) (by omega),wr ((i:Int)+1) (by omega) (by omega)];have c1:(decide ((0:Int)≤x)&&decide (x<(n:Int)))=true:=by simp;omega
  have c2:decide (x.toNat<out.length)=true:=decide_eq_true (by omega);refine zc (decide_eq_true (by omega)) (zc (by simp;omega) (zc (decide_eq_true (by omega)) (zc c1 (zc c2 (zc c1 (zc c2 ?_))))));refine ih (i+1) _ (by omega) (by omega) ?_ (fun y hy=>?_)
  ·rw[zp hio,hxe];unfold Sp.bump;rw[List.foldl_append];subst ho;rfl
  ·rcases zL hy with h|h
   ·have:=hb y h;omega
   ·subst h;omega
theorem RZ(R:List Int)(hR:∀x∈R,0≤x∧x≤255999999744){x y:Int}(hx:0≤x∧x<R.length)(hy:0≤y∧y<R.length):decide (zd .i64 (R.getD y.toNat 0-R.getD x.toNat 0)<0)=decide (zz R y<zz R x):=by
 have h1:=hR _ (Ia hx.2 hx.1);have h2:=hR _ (Ia hy.2 hy.1);unfold zz at h1 h2;rw[wr _ (by omega) (by omega),zB,decide_eq_true_eq,decide_eq_true_eq];unfold zz;omega
section
variable (v0 v7:Int)(v10n v12n:Nat)(v13:Int)(v52:List Int)(v53 v54:Int)(o3 o2:List Int)(o1n:Nat)(o0:List Int)
theorem Ou(n:Nat)(hn:n≤256)(e b:Int)(R S O:List Int)(hR:∀x∈R,0≤x∧x≤255999999744)(hRl:R.length=n)(i j:Nat)(arr:List Int)(x y:Int)(hi:i<n)(hj:j+1<n)(hl:arr.length=n)(hx:arr.getD (j+1) 0=x)(hy:arr.getD j 0=y)(px:0≤x∧x<n)(py:0≤y∧y<n)
  (h1:zz R y<zz R x→Ends EF (L7 v0 v7 v10n v12n v13 v52 v53 v54 o3 o2 o1n o0 n n 20 e b R S n O n 0 n i j R ((arr.set (j+1) y).set j x) n O) Q) (h2:¬zz R y<zz R x→Ends EF (L5 v0 v7 v10n v12n v13 v52 v53 v54 o3 o2 o1n o0 n n 20 e b R S n O n 0 n ((i:Int)+1) R arr n O) Q):
  Ends EF (L7 v0 v7 v10n v12n v13 v52 v53 v54 o3 o2 o1n o0 n n 20 e b R S n O n 0 n i ((j:Int)+1) R arr n O) Q:=by
 have e1:zd .i64 ((j:Int)+1-1)=j:=by rw[wr _ (by omega) (by omega)];omega
 have t1:((j:Int)+1).toNat=j+1:=by omega
 have ec:=RZ R hR (x:=x) (y:=y) (by omega) (by omega);refine ze (Dj ..) ?_;conv=>zeta
 simp only[e1,t1,zx,hx,hy,List.length_set,ec];rw[wr ((i:Int)+1) (by omega) (by omega)];have c1:(decide ((0:Int)≤(j:Int)+1)&&decide ((j:Int)+1<(n:Int)))=true:=by simp;omega
 have c2:decide (j+1<arr.length)=true:=decide_eq_true (by omega);have c3:(decide ((0:Int)≤(j:Int))&&decide ((j:Int)<(n:Int)))=true:=by simp;omega
 have c4:decide (j<arr.length)=true:=decide_eq_true (by omega);have c5:(decide ((0:Int)≤y)&&decide (y<(n:Int)))=true:=by simp;omega
 have c6:decide (y.toNat<R.length)=true:=decide_eq_true (by omega);have c7:(decide ((0:Int)≤x)&&decide (x<(n:Int)))=true:=by simp;omega
 have c8:decide (x.toNat<R.length)=true:=decide_eq_true (by omega);refine zc (decide_eq_true (by omega)) (zc c1 (zc c2 (zc c3 (zc c4 (zc c5 (zc c6 (zc c7 (zc c8 ?_))))))));exact zg (fun c=>zc c3 (zc c4 (zc c1 (zc c2 (zc c1 (zc c2 (zc c3 (zc c4 (h1 (of_decide_eq_true c)))))))))) (fun c=>h2 (of_decide_eq_false c))
theorem X5(n:Nat)(hn:n≤256)(e b:Int)(R S O:List Int)(hR:∀x∈R,0≤x∧x≤255999999744)(hRl:R.length=n)(hq:Ends EF (L5 v0 v7 v10n v12n v13 v52 v53 v54 o3 o2 o1n o0 n n 20 e b R S n O n 0 n n R (GC R (zn n)) n O) Q)(h0:0<n):
  Ends EF (L5 v0 v7 v10n v12n v13 v52 v53 v54 o3 o2 o1n o0 n n 20 e b R S n O n 0 n 1 R (zn n) n O) Q:=by
 have hu:zn n=0::(zn n).drop 1:=by
  obtain⟨m,rfl⟩:∃m,n=m+1:=⟨n-1,by omega⟩;unfold zn;rw[zQ];rfl
 have hm:∀y∈zn n,0≤y∧y<(n:Int):=fun y hy=>Gk.1 hy
 have hlen:=E9 n;generalize hs:(zn n).drop 1=s at hu;have:=La (X:=EF) (Q:=Q) R (fun y=>0≤y∧y<(n:Int)) n (fun k arr=>L5 v0 v7 v10n v12n v13 v52 v53 v54 o3 o2 o1n o0 n n 20 e b R S n O n 0 n k R arr n O) (fun i j arr=>L7 v0 v7 v10n v12n v13 v52 v53 v54 o3 o2 o1n o0 n n 20 e b R S n O n 0 n i j R arr n O)
  (fun i j arr x y h1 h2 h3 h4 h5 h6 h7 h8 h9=>Ou v0 v7 v10n v12n v13 v52 v53 v54 o3 o2 o1n o0 n hn e b R S O hR hRl i j arr x y h1 h2 h3 h4 h5 h6 h7 h8 h9)
  (fun i arr h1 h2 h3=>ze (Dj ..) (zi rfl (by rw[wr ((i:Int)+1) (by omega) (by omega)];exact h3)))
  (fun i arr h1 h2 h3=>ze (Dk ..) (zc (decide_eq_true (by omega)) h3)) (GC R (zn n)) hq s [0] 1 (by rw[hu]at hlen;simp at hlen ⊢;omega) rfl (fun y hy=>hm y (by rw[hu];simp at hy;simp[hy])) (fun y hy=>hm y (by rw[hu];exact zy _ hy)) (by rw[hu];rfl)
 rw[hu];exact this
theorem Xj(n:Nat)(hn:n≤256)(e b:Int)(R S O:List Int)(hR:∀x∈R,0≤x∧x≤255999999744)(hRl:R.length=n)(i j:Nat)(arr:List Int)(x y:Int)(hi:i<n)(hj:j+1<n)(hl:arr.length=n)(hx:arr.getD (j+1) 0=x)(hy:arr.getD j 0=y)(px:0≤x∧x<n)(py:0≤y∧y<n)
  (h1:zz R y<zz R x→Ends EF (L6 v0 v7 v10n v12n v13 v52 v53 v54 o3 o2 o1n o0 n n 20 e b R S n O n 0 n i j R ((arr.set (j+1) y).set j x) n O) Q) (h2:¬zz R y<zz R x→Ends EF (L4 v0 v7 v10n v12n v13 v52 v53 v54 o3 o2 o1n o0 n n 20 e b R S n O n 0 n ((i:Int)+1) R arr n O) Q):
  Ends EF (L6 v0 v7 v10n v12n v13 v52 v53 v54 o3 o2 o1n o0 n n 20 e b R S n O n 0 n i ((j:Int)+1) R arr n O) Q:=by
 have e1:zd .i64 ((j:Int)+1-1)=j:=by rw[wr _ (by omega) (by omega)];omega
 have t1:((j:Int)+1).toNat=j+1:=by omega
 have ec:=RZ R hR (x:=x) (y:=y) (by omega) (by omega);refine ze (HC ..) ?_;conv=>zeta
 simp only[e1,t1,zx,hx,hy,List.length_set,ec];rw[wr ((i:Int)+1) (by omega) (by omega)];have c1:(decide ((0:Int)≤(j:Int)+1)&&decide ((j:Int)+1<(n:Int)))=true:=by simp;omega
 have c2:decide (j+1<arr.length)=true:=decide_eq_true (by omega);have c3:(decide ((0:Int)≤(j:Int))&&decide ((j:Int)<(n:Int)))=true:=by simp;omega
 have c4:decide (j<arr.length)=true:=decide_eq_true (by omega);have c5:(decide ((0:Int)≤y)&&decide (y<(n:Int)))=true:=by simp;omega
 have c6:decide (y.toNat<R.length)=true:=decide_eq_true (by omega);have c7:(decide ((0:Int)≤x)&&decide (x<(n:Int)))=true:=by simp;omega
 have c8:decide (x.toNat<R.length)=true:=decide_eq_true (by omega);refine zc (decide_eq_true (by omega)) (zc c1 (zc c2 (zc c3 (zc c4 (zc c5 (zc c6 (zc c7 (zc c8 ?_))))))));exact zg (fun c=>zc c3 (zc c4 (zc c1 (zc c2 (zc c1 (zc c2 (zc c3 (zc c4 (h1 (of_decide_eq_true c)))))))))) (fun c=>h2 (of_decide_eq_false c))
theorem YQ(n:Nat)(hn:n≤256)(e b:Int)(R S O:List Int)(hR:∀x∈R,0≤x∧x≤255999999744)(hRl:R.length=n)(hq:Ends EF (L4 v0 v7 v10n v12n v13 v52 v53 v54 o3 o2 o1n o0 n n 20 e b R S n O n 0 n n R (GC R (zn n)) n O) Q)(h0:0<n):
  Ends EF (L4 v0 v7 v10n v12n v13 v52 v53 v54 o3 o2 o1n o0 n n 20 e b R S n O n 0 n 1 R (zn n) n O) Q:=by
 have hu:zn n=0::(zn n).drop 1:=by
  obtain⟨m,rfl⟩:∃m,n=m+1:=⟨n-1,by omega⟩;unfold zn;rw[zQ];rfl
 have hm:∀y∈zn n,0≤y∧y<(n:Int):=fun y hy=>Gk.1 hy
 have hlen:=E9 n;generalize hs:(zn n).drop 1=s at hu;have:=La (X:=EF) (Q:=Q) R (fun y=>0≤y∧y<(n:Int)) n (fun k arr=>L4 v0 v7 v10n v12n v13 v52 v53 v54 o3 o2 o1n o0 n n 20 e b R S n O n 0 n k R arr n O) (fun i j arr=>L6 v0 v7 v10n v12n v13 v52 v53 v54 o3 o2 o1n o0 n n 20 e b R S n O n 0 n i j R arr n O)
  (fun i j arr x y h1 h2 h3 h4 h5 h6 h7 h8 h9=>Xj v0 v7 v10n v12n v13 v52 v53 v54 o3 o2 o1n o0 n hn e b R S O hR hRl i j arr x y h1 h2 h3 h4 h5 h6 h7 h8 h9)
  (fun i arr h1 h2 h3=>ze (HC ..) (zi rfl (by rw[wr ((i:Int)+1) (by omega) (by omega)];exact h3)))
  (fun i arr h1 h2 h3=>ze (CG ..) (zc (decide_eq_true (by omega)) h3)) (GC R (zn n)) hq s [0] 1 (by rw[hu]at hlen;simp at hlen ⊢;omega) rfl (fun y hy=>hm y (by rw[hu];simp at hy;simp[hy])) (fun y hy=>hm y (by rw[hu];exact zy _ hy)) (by rw[hu];rfl)
 rw[hu];exact this
theorem C2(n m:Nat)(hn:n≤20)(h0:0<n)(hm:m≤n)(R O:List Int)(hR:∀x∈R,0≤x∧x≤255999999744)(hRl:R.length=n)(hq:Ends EF (Za n m n (m:Int) 0 (GC R (zn n)) O) Q):
  Ends EF (L3 v0 v7 n n (m:Int) v52 v53 v54 o3 o2 o1n o0 n n 20 0 20 R (zn n) n O) Q:=by
 have last:Ends EF (L8 v0 v7 n n (m:Int) v52 v53 v54 o3 o2 o1n o0 n n 20 R (GC R (zn n)) n O) Q:=by
  refine ze (J6 ..) (zi (decide_eq_false (by omega)) ?_);rw[zx];exact zc (by simp;omega) hq
 rcases Nat.lt_or_ge n 20 with c|c
 ·refine ze (BD ..) (zi (decide_eq_false (by omega)) ?_);rw[wr ((0:Int)+1) (by omega) (by omega)];exact X5 v0 v7 n n (m:Int) v52 v53 v54 o3 o2 o1n o0 n (by omega) 0 20 R _ O hR hRl (ze (Dk ..) (zi (by simp) last)) h0
 ·have e:n=20:=by omega
  subst e;refine ze (BD ..) (zc rfl ?_);rw[wr ((0:Int)+1) (by omega) (by omega)];refine YQ v0 v7 20 20 (m:Int) v52 v53 v54 o3 o2 o1n o0 20 (by omega) 0 20 R _ O hR hRl (ze (CG ..) (zi (by simp) ?_)) h0;rw[wr ((20:Int)+20) (by omega) (by omega)];refine ze (BD ..) (zi rfl ?_);rw[wr ((20:Int)+1) (by omega) (by omega)];exact ze (Dk ..) (zi rfl last)
end
theorem ok:Ac A4 12 FA:=by
 refine AJ (X:=EF) rfl Xb (d:=9) (by kernel_rfl) (by kernel_rfl) (by kernel_rfl) (fun⟨(t:Int),(w:List Int)⟩ hp=>?_) (Ad (by kernel_rfl));have hp:EC w=true:=hp;have key:∀ob (e:Int),A5 t w=e→e≠0→Af FA (t,w) (.tup [.nil,.dat i64 e]) ob:=fun ob e h h0=>by
  refine⟨([],e),rfl,?_⟩;show _=(Ct t w,A5 t w);unfold Ct;rw[if_neg (by rw[h];exact h0),h]
 have hl:w.length≤1000000:=by
  unfold EC at hp;simp at hp;omega
 have fin:A5 t w=0→Ends EF (L1 t w 0 w (w.length:Int) 0) (Af FA (t,w)):=by
  intro he;obtain⟨hok,hne,hl2,_,_⟩:=Ja he;have h20:w.length≤20:=by
   unfold EC at hp;simp at hp;omega
  have hs:=QX hok.2.2.1 hl2;have hL:=He hok;refine PU t w hl2 hok.2.2.1 (fun n hn=>?_) w 0 0 rfl (zq _) (Int.le_refl _) (by omega) (Int.zero_add _);have l2:=S4 (Q:=Af FA (t,w)) t w n hn hok hl2 (ze (AS ..) (zi (by simp) ?_)) w 0 rfl (zq _)
  ·rw[List.take_zero,Nat.sub_zero]at l2;have e1:ES t (Ak w) []=[]:=rfl;have e2:F4 t (Ak w) []=[]:=rfl;have e3:zn 0=[]:=rfl;rw[e1,e2,e3,show Ak []=0 from rfl,Int.sub_zero,List.nil_append]at l2;rw[←hn];exact l2
  ·obtain⟨m,hm⟩:=zP hL.1;rw[hm];have hR:∀x∈F4 t (Ak w) w,0≤x∧x≤255999999744:=fun x hx=>by
    obtain⟨y,hy,rfl⟩:=zK.1 hx;obtain⟨_,_,_,_,a,b⟩:=Sp.Di hok hy;omega
   have hp:=Ha (F4 t (Ak w) w) (zn n);have hlen:(GC (F4 t (Ak w) w) (zn n)).length=n:=by rw[VK,E9]
   refine C2 _ _ _ _ _ _ _ _ _ n m (by omega) (by omega) (by omega) _ _ hR (by rw[GZ,hn]) ?_;refine aR n m n (GC (F4 t (Ak w) w) (zn n)) (ES t (Ak w) w) (by omega) (by rw[Ho,hn]) (by omega) (fun x hx=>Gk.1 (hp.mem_iff.1 hx)) (fun ob hob=>?_) m 0 _ rfl (zq _) rfl (fun x hx=>?_)
   ·have lv:n=(Sp.bump (ES t (Ak w) w) ((GC (F4 t (Ak w) w) (zn n)).take m)).length:=by rw[I6,hn];simp[ES]
    refine⟨(Sp.bump (ES t (Ak w) w) ((GC (F4 t (Ak w) w) (zn n)).take m),0),?_,?_⟩
    ·have h1:=Y6 (s:=.int .i64) (c:=none) rfl hob lv;exact XK (a:=.list (.int .i64)) (b:=i64) (l:=[]) h1 rfl
    ·show _=(Ct t w,A5 t w);unfold Ct BC;rw[if_pos he,he,hm, ←hn];rfl
   ·obtain⟨y,hy,rfl⟩:=zK.1 hx;obtain⟨_,_,a,b,_⟩:=Sp.Di hok hy;have:=hok.2.1;omega
 have step:∀(c:Bool) (ob:Ob),A5 t w=zk [BS c 3,AO w]→Ends EF (.ite (zk [BS c 3,AO w] !=(0:Int)) (.leaf (.tup [.nil,.dat i64 (zk [BS c 3,AO w])]) ob) (L1 t w 0 w (w.length:Int) 0)) (Af FA (t,w)):=by
  intro c ob he;rw[←he];refine zg (fun k=>zf (key _ _ rfl (by simpa using k))) (fun k=>fin (by simpa using k))
 refine zA (Ay t w) (zg (fun c=>zc rfl (zc (decide_eq_true hl) (zc rfl (step true _ ?_)))) (fun c=>zc rfl (zc (decide_eq_true hl) (zc rfl (step _ _ ?_)))))
 ·unfold A5 EJ;rw[c];rfl
 ·unfold A5 EJ;rw[c];rfl
end T12
end Go.Pe
end
section
namespace Go.Pe
open Sp
open Go.Det
theorem XT:∀g sp,cN.sp g=some sp→Ac A4 g sp:=Ab IG (Ab T13.ok (Ab T12.ok (Ab T14.ok (Ab T15.ok (Ab T16.ok (fun g sp h=>by cases h))))))
theorem W6:∀g sp,SB.sp g=some sp→Ac A4 g sp:=Ab IG (Ab T12.ok (Ab T14.ok (fun g sp h=>by cases h)))
theorem T4.ok:Ac A4 4 DG:=by
 refine AJ (X:=cN) rfl XT (d:=9) (by kernel_rfl) (by kernel_rfl) rfl (fun⟨(t:Int),(w:List Int)⟩ _=>?_) (Ad (by kernel_rfl));have fin:∀ob,Af DG (t,w) (.dat .bool true) ob:=fun ob=>zV rfl rfl rfl
 have awk:∀ob,Ends cN (.ite true (.leaf (.dat .bool true) ob) .fail) (Af DG (t,w)):=fun ob=>zc rfl (zf (fin ob))
 have tail:∀(bad:Int) (o1 o2 o3 o4 o5 o6:Ob),bad=A5 t w→EC w=true→Ends cN (.ite (bad !=(0:Int))
    (.ite (((Ct t w).length:Int)==(0:Int)) (.ite (A5 t w==bad) (.ite true (.leaf (.dat .bool true) o1) .fail) (.leaf (.bl false) o2)) (.leaf (.bl false) o3))
    (.ite (A5 t w==(0:Int)) (.ite (cO t w) (.ite (decide ((Ct t w).length≤1000000)) (.ite (Ct t w==H6 t w) (.ite true (.leaf (.dat .bool true) o4) .fail) (.leaf (.bl false) o5)) .fail) .fail) (.leaf (.bl false) o6))) (Af DG (t,w)):=by
  intro bad o1 o2 o3 o4 o5 o6 hb hlen;subst hb;by_cases he:A5 t w=0
  ·have hok:=(Ja he).1;have h20:w.length≤20:=by
    have:=(Ja he).2.2.1;unfold EC at hlen;simp at hlen;omega
   have hS:Ct t w=BC t w:=if_pos he;have hl:(Ct t w).length≤1000000:=by rw[hS,(Sp.fair hok).1];omega
   refine zi (by simp[he]) (zc (by simp[he]) (zc ?_ (zc (decide_eq_true hl) (zc ?_ (awk _)))))
   ·unfold cO;simp[h20,he]
   ·rw[hS,TT hok];simp
  ·have hS:Ct t w=[]:=if_neg he;exact zc (by simp[he]) (zc (by rw[hS];rfl) (zc (by simp) (awk _)))
 have lens:w.length≤261→decide (w.length≤1000000)=true:=fun h=>decide_eq_true (by omega)
 have hE:∀c:Bool,(c=true↔t<0∨999999999<t)→zk [BS c 3,AO w]=A5 t w:=fun c hc=>by
  unfold A5;have:EJ t=c:=by rw[zB,Fm];exact hc.symm
  rw[this]
 refine zA (T4.Ay t w) (zg (fun c=>zg (fun _=>awk _) (fun d=>zg (fun _=>awk _) (fun e=>?_))) (fun c=>zg (fun _=>awk _) (fun e=>?_)))
 ·have d:=of_decide_eq_false d;have e:=of_decide_eq_false e;have hlen:EC w=true:=by unfold EC;simp;omega
  have hl:w.length≤261:=by omega
  exact zc hlen (zg (fun c=>zc (lens hl) (zc rfl (tail _ _ _ _ _ _ _ (hE true ⟨fun _=>.inl (of_decide_eq_true c),fun _=>rfl⟩) hlen))) (fun c=>zg (fun d=>zc (lens hl) (zc rfl (tail _ _ _ _ _ _ _ (hE true ⟨fun _=>.inr (of_decide_eq_true d),fun _=>rfl⟩) hlen))) (fun d=>zc (lens hl) (zc rfl (tail _ _ _ _ _ _ _ (hE false ⟨fun k=>(by cases k),fun k=>(by have c:=of_decide_eq_false c;have d:=of_decide_eq_false d;omega)⟩) hlen)))))
 ·have c:=of_decide_eq_false c;have hlen:EC w=true:=by unfold EC;simp;omega
  have hl:w.length≤261:=by omega
  exact zc hlen (zg (fun c=>zc (lens hl) (zc rfl (tail _ _ _ _ _ _ _ (hE true ⟨fun _=>.inl (of_decide_eq_true c),fun _=>rfl⟩) hlen))) (fun c=>zg (fun d=>zc (lens hl) (zc rfl (tail _ _ _ _ _ _ _ (hE true ⟨fun _=>.inr (of_decide_eq_true d),fun _=>rfl⟩) hlen))) (fun d=>zc (lens hl) (zc rfl (tail _ _ _ _ _ _ _ (hE false ⟨fun k=>(by cases k),fun k=>(by have c:=of_decide_eq_false c;have d:=of_decide_eq_false d;omega)⟩) hlen)))))
end Go.Pe
end
