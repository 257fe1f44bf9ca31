import Derived.Test.YtnbinppdjnlhpaaGreatDoorX11
/- A part of a proof (no law is stated here). Made by program out of texts by AI agents. -/
open Go.IntKind renaming wrap → zc, u64 → zf, i64 → yt
open Go.Pe.Ends renaming tt → zd, ite → zD, Af → zE, leaf → zS, ff → yc
open Go.Sp renaming val → ze, vI → zi, u64 → zx, AV → zZ, sg → yo
open Int renaming toNat_natCast → zg, mul_le_mul_of_nonneg_right → zh, mul_assoc → zk, mul_le_mul_of_nonneg_left → zl, mul_comm → zn, le_of_lt → zq, pow_succ → zr, mul_add → zt, one_mul → zy, add_mul → zA, mul_nonneg → zB, mul_ediv_add_emod → zC, pow_zero → zH, lt_of_mul_lt_mul_left → zJ, mul_left_comm → zL, emod_lt_of_pos → zO, lt_or_le → zP, tdiv → zQ, emod_nonneg → zR, pow_pos → zT, fdiv_eq_ediv_of_nonneg → zU, mul_zero → zW, tmod → zY, mul_sub → z6, ediv_lt_of_lt_mul → z7, add_assoc → z8, ediv_emod_unique → z9, ediv_nonneg → ya, add_zero → yd, fdiv → ye, mul_lt_mul_of_pos_left → yg, tdiv_eq_ediv_of_nonneg → yh, tmod_eq_emod_of_nonneg → yi, sub_mul → yk, le_refl → ym, mul_one → yn, ediv_eq_zero_of_lt → yq, zero_mul → yu
open Go.Pe.Sh renaming list → zj, int → zo, nlist → zG, bool → zV
open Nat renaming add → zm, min_eq_left → z5, add_sub_cancel → yf, sub → yp
open List renaming replicate → zp, getD_eq_getElem?_getD → zu, take_of_length_le → zz, append_assoc → zF, getElem?_eq_getElem → zM, length_take → zN, drop_eq_getElem_cons → yj, mem_append → yr
open Bool renaming and_eq_true → zw
open BitVec renaming ofInt → zI
open Option renaming getD → zK
open Go.Pe.PV renaming agg → zX
open Min renaming min → yb
section
namespace Go.Pe
open Sp
open Go.Det
noncomputable section
open List Int Prod
namespace T267
def T(w:List Int):Tr:=tree VM false 9 267 (Ag ([zj i64]) w)
def L1(v0:List Int):Tr:=re ((T [])) (Al 21 [(0,.dat (zj i64) v0)] [] 0)
theorem Ap(w:List Int):T w=L1 w:=by kernel_rfl
theorem Ai(v0:List Int):stepT VM (L1 v0)=let b':=(length v0:Int);let d':Tr:=.leaf (.dat (zj i64) v0) [];let a':=zc .i64 (b'-1);let c':=decide (0≤zc .i64 (b'-1));.ite (decide (b'>0)) (.ite (c'&&decide (zc .i64 (b'-1)<b')) (.ite (getD v0 (toNat a') 0==0) (.ite (c'&&decide (0≤toNat a')&&decide (toNat a'≤length v0)) (L1 (take (toNat a') v0)) .fail) d') .fail) d':=by kernel_rfl
end T267
namespace T264
def T(n:Bool)(w:List Int):Tr:=tree SD false 9 264 (Ag ([zV,zj i64]) (n,w))
theorem Ap(n:Bool)(w:List Int):T n w=let a':=decide ((↑(length (Az w)):Int)>0);.ite (decide (length w≤20000)) (.ite n (.leaf (zX [.dat zV a',.dat (zj i64) (Az w)]) ([(0,.box [.dat zV a',.dat (zj i64) (Az w)])])) (.leaf (zX [.bl false,.dat (zj i64) (Az w)]) ([(0,.box [.bl false,.dat (zj i64) (Az w)])]))) .fail:=by kernel_rfl
end T264
namespace T265
def T(a b:List Int):Tr:=tree VM false 9 265 (Ag ([zj i64,zj i64]) (a,b))
def L1(v0 v1:List Int)(v5:Int):Tr:=re ((T [] []).R) (Al 41 [(0,.dat (zj i64) v0),(1,.dat (zj i64) v1),(5,.dat i64 v5)] [] 0)
theorem Ap(a b:List Int):T a b=let a':=(length a:Int);.ite (a' !=(length b:Int)) (.ite (decide (a'<(length b:Int))) (.leaf (.dat i64 (-1:Int)) []) (.leaf (.dat i64 (1:Int)) [])) (L1 a b (zc .i64 (a'-1))):=by kernel_rfl
theorem Ai(v0 v1:List Int)(v5:Int):stepT VM (L1 v0 v1 v5)=let a':=decide (0≤v5)&&decide (v5<(length v0:Int));let b':=decide (0≤v5)&&decide (v5<(length v1:Int));.ite (decide (v5≥0)) (.ite a' (.ite b' (.ite (decide (getD v0 (toNat v5) 0<getD v1 (toNat v5) 0)) (.leaf (.dat i64 (-1:Int)) []) (.ite a' (.ite b' (.ite (decide (getD v0 (toNat v5) 0>getD v1 (toNat v5) 0)) (.leaf (.dat i64 (1:Int)) []) (L1 v0 v1 (zc .i64 (v5-1)))) .fail) .fail)) .fail) .fail) (.leaf (.dat i64 (0:Int)) []):=by kernel_rfl
end T265
namespace T268
def T(a b:List Int):Tr:=tree SD false 9 268 (Ag ([zj i64,zj i64]) (a,b))
def L1(v0 v1:List Int)(v5n:Nat)(v6:Int)(o0:List Int):Tr:=re ((T [] []).L) (Al 72 [(0,.dat (zj i64) v0),(1,.dat (zj i64) v1),(5,.sl 0 1 0 v5n none),(6,.dat i64 v6)] [(0,.arr false 3 i64 o0)] 1)
theorem Ap(a b:List Int):T a b=let a':=(length a:Int)+(length b:Int);let b':=zc .i64 a';.ite (decide (0≤zc .i64 a')&&decide (zc .i64 a'=zc .i64 a')&&decide (8*toNat b'≤281474976710656)&&decide (zc .i64 a'<9223372036854775808)) (L1 a b (toNat b') 0 (replicate (toNat b') 0)) .fail:=by kernel_rfl
def L2(v0 v1:List Int)(v5n:Nat)(v6 v7 v8:Int)(o0:List Int):Tr:=re ((stepT SD (L1 [] [] 0 0 [])).L) (Al 72 [(0,.dat (zj i64) v0),(1,.dat (zj i64) v1),(5,.sl 0 1 0 v5n none),(6,.dat i64 v6),(7,.dat i64 v7),(8,.dat i64 v8)] [(0,.arr false 3 i64 o0)] 1)
theorem Ai(v0 v1:List Int)(v5n:Nat)(v6:Int)(o0:List Int):stepT SD (L1 v0 v1 v5n v6 o0)=.ite (decide (v6<(length v0:Int))) (L2 v0 v1 v5n v6 0 0 o0) (.ite (decide (0+v5n≤length o0)&&true&&decide (length (take v5n o0)≤20000)) (.leaf (.dat (zj i64) (Az (take v5n o0))) ([(0,.arr true 3 i64 o0)])) .fail):=by kernel_rfl
theorem AN(v0 v1:List Int)(v5n:Nat)(v6 v7 v8:Int)(o0:List Int):stepT SD (L2 v0 v1 v5n v6 v7 v8 o0)=let c':=decide (0≤zc .i64 (v6+v8))&&decide (zc .i64 (v6+v8)<(↑v5n:Int));let d':=zc .i64 (v6+v8);let i':=(length v1:Int);let a':=zc .i64 (zc .i64 (getD o0 (toNat d') 0+zc .i64 (getD v0 (toNat v6) 0*getD v1 (toNat v8) 0))+v7);let b':=v6+i';let g':=decide (toNat d'<length o0);let e':=decide (0≤zc .i64 b')&&decide (zc .i64 b'<(↑v5n:Int));let f':=zc .i64 b';let h':=decide (toNat f'<length o0);.ite (decide (v8<i')) (.ite c' (.ite g' (.ite (decide (0≤v6)&&decide (v6<(length v0:Int))) (.ite (decide (0≤v8)&&decide (v8<i')) (.ite true (.ite c' (.ite g' (.ite true (L2 v0 v1 v5n v6 (zc .i64 (zQ a' 1000000000)) (zc .i64 (v8+1)) (set o0 (toNat d') (zY a' 1000000000))) .fail) .fail) .fail) .fail) .fail) .fail) .fail) .fail) (.ite e' (.ite h' (.ite e' (.ite h' (L1 v0 v1 v5n (zc .i64 (v6+1)) (set o0 (toNat f') (zc .i64 (getD o0 (toNat f') 0+v7)))) .fail) .fail) .fail) .fail):=by kernel_rfl
end T268
namespace T266
def T(a:List Int)(d:Int):Tr:=tree SD false 9 266 (Ag ([zj i64,zo yt]) (a,d))
def L1(v0:List Int)(v1:Int)(v6n:Nat)(v7 v8:Int)(o0:List Int):Tr:=re ((T [] 0).L) (Al 39 [(0,.dat (zj i64) v0),(1,.dat i64 v1),(6,.sl 0 1 0 v6n none),(7,.dat i64 v7),(8,.dat i64 v8)] [(0,.arr false 3 i64 o0)] 1)
theorem Ap(a:List Int)(d:Int):T a d=let a':=(length a:Int);.ite (decide (0≤a')&&decide (a'=a')&&decide (8*toNat a'≤281474976710656)&&decide (a'<9223372036854775808)) (L1 a d (toNat a') 0 (zc .i64 (a'-1)) (replicate (toNat a') 0)) .fail:=by kernel_rfl
theorem Ai(v0:List Int)(v1:Int)(v6n:Nat)(v7 v8:Int)(o0:List Int):stepT SD (L1 v0 v1 v6n v7 v8 o0)=let a':=zc .i64 (zc .i64 (v7*1000000000)+getD v0 (toNat v8) 0);.ite (decide (v8≥0)) (.ite (decide (0≤v8)&&decide (v8<(length v0:Int))) (.ite (decide (v1≠0)) (.ite (decide (0≤v8)&&decide (v8<(↑v6n:Int))) (.ite (decide (toNat v8<length o0)) (.ite (decide (v1≠0)) (L1 v0 v1 v6n (zY a' v1) (zc .i64 (v8-1)) (set o0 (toNat v8) (zc .i64 (zQ a' v1)))) .fail) .fail) .fail) .fail) .fail) (.ite (decide (0+v6n≤length o0)&&true&&decide (length (take v6n o0)≤20000)) (.leaf (.tup [.dat (zj i64) (Az (take v6n o0)),.dat i64 v7]) ([(0,.arr true 3 i64 o0)])) .fail):=by kernel_rfl
end T266
namespace T209
def T(a b:List Int):Tr:=tree JO false 9 209 (Ag ([zj i64,zj i64]) (a,b))
def L1(v0:List Int)(v8n:Nat)(v9:List Int)(v10:Int)(v11n:Nat)(o1 o0:List Int):Tr:=re ((T [] []).L.R.R.L.L.L.L.L) (Al 206 [(0,.dat (zj i64) v0),(8,.sl 0 1 0 v8n none),(9,.dat (zj i64) v9),(10,.dat i64 v10),(11,.sl 1 1 0 v11n none)] [(1,.arr false 3 i64 o1),(0,.arr true 3 i64 o0)] 2)
theorem Ap(a b:List Int):T a b=let c':=(length b:Int);let e':=getD b (toNat (zc .i64 (c'-1))) 0+1;let a':=zQ 1000000000 (zc .i64 e');let b':=AY a*AY [zc .i64 a'];let d':=CJ (AY b*AY [zc .i64 a']);.ite (Cu a&&Cu b) (.ite (decide (BB (AY a) (AY b)<0)) (.leaf (.tup [.nil,.dat (zj i64) a]) []) (.ite (c'==1) (.ite (decide (0<c')) (.ite (Ii a&&decide (0<getD b 0 0)&&decide (getD b 0 0<1000000000)) (.ite (decide (1≤1)&&true&&decide (1≤20000)) (.leaf (.tup [.dat (zj i64) (CJ (AY a/getD b 0 0)),.dat (zj i64) (Az [AY a % getD b 0 0])]) ([(0,.arr true 3 i64 [AY a % getD b 0 0])])) .fail) .fail) .fail) (.ite (decide (0≤zc .i64 (c'-1))&&decide (zc .i64 (c'-1)<c')) (.ite (decide (zc .i64 e'≠0)) (.ite (decide (1≤1)&&true&&(Sp.hR b&&Sp.hR [zc .i64 a'])) (.ite (decide (1≤1)&&true&&(Sp.hR a&&Sp.hR [zc .i64 a'])) (.ite (decide ((2*(0+length (CJ b'))+1000)*8≤281474976710656)) (L1 a 1 d' ((↑(length d'):Int)) (zm 0 (length (CJ b'))) ([]++CJ b') ([zc .i64 a'])) .fail) .fail) .fail) .fail) .fail))) .fail:=by kernel_rfl
def L2(v8n:Nat)(v9:List Int)(v10:Int)(v11n v12n:Nat)(v13:Int)(o2 o1 o0:List Int):Tr:=re ((stepT JO (L1 [] 0 [] 0 0 [] [])).R.L) (Al 206 [(8,.sl 0 1 0 v8n none),(9,.dat (zj i64) v9),(10,.dat i64 v10),(11,.sl 1 1 0 v11n none),(12,.sl 2 1 0 v12n none),(13,.dat i64 v13)] [(2,.arr false 3 i64 o2),(1,.arr false 3 i64 o1),(0,.arr true 3 i64 o0)] 3)
theorem Ai(v0:List Int)(v8n:Nat)(v9:List Int)(v10:Int)(v11n:Nat)(o1 o0:List Int):stepT JO (L1 v0 v8n v9 v10 v11n o1 o0)=let a':=(↑v11n:Int)-v10;let b':=zc .i64 a';.ite (decide ((↑v11n:Int)<zc .i64 ((length v0:Int)+1))) (.ite (decide (v11n=length o1)&&decide ((2*(v11n+1)+1000)*8≤281474976710656)) (L1 v0 v8n v9 v10 (zm v11n 1) (o1++[0]) o0) .fail) (.ite (decide (0≤zc .i64 a')&&decide (zc .i64 a'=zc .i64 a')&&decide (8*toNat b'≤281474976710656)&&decide (zc .i64 a'<9223372036854775808)) (L2 v8n v9 v10 v11n (toNat b') (zc .i64 (zc .i64 a'-1)) (replicate (toNat b') 0) o1 o0) .fail):=by kernel_rfl
def L3(v8n:Nat)(v9:List Int)(v10:Int)(v11n v12n:Nat)(v13:Int)(o2 o1 o0:List Int)(v0n:Nat)(v1:List Int)(v2 v7:Int)(v9':Int)(v10':Int)(o2':List Int)(o1':List Int)(o0':List Int):Tr:=re ((stepT JO (L2 v8n v9 v10 v11n v12n v13 o2 o1 o0)).L.L.L.L.L.L.L.L.L) (Al 77 [(0,.sl 1 1 0 v0n none),(1,.dat (zj i64) v1),(2,.dat i64 v2),(7,.dat i64 v7),(9,.dat i64 v9'),(10,.dat i64 v10')] [(2,.arr false 3 i64 o2'),(1,.arr false 3 i64 o1'),(0,.arr true 3 i64 o0')] 3)
theorem AN(v8n:Nat)(v9:List Int)(v10:Int)(v11n v12n:Nat)(v13:Int)(o2 o1 o0:List Int):stepT JO (L2 v8n v9 v10 v11n v12n v13 o2 o1 o0)=let a':=(length v9:Int);let f':=take (toNat v10) o1;let c':=toNat (zc .i64 (a'-1));let d':=zc .i64 (v13+a')-1;let e':=decide (0≤zc .i64 (a'-1))&&decide (zc .i64 (a'-1)<a');let g':=zc .i64 (v13+a');let b':=zc .i64 (zc .i64 (getD o1 (toNat g') 0*1000000000)+getD o1 (toNat (zc .i64 d')) 0);let h':=decide (getD v9 c' 0≠0);.ite (decide (v13≥0)) (.ite (decide (0≤zc .i64 (v13+a'))&&decide (zc .i64 (v13+a')<(↑v11n:Int))) (.ite (decide (toNat g'<length o1)) (.ite (decide (0≤zc .i64 d')&&decide (zc .i64 d'<(↑v11n:Int))) (.ite (decide (toNat (zc .i64 d')<length o1)) (.ite e' (.ite h' (.ite e' (.ite h' (L3 v8n v9 v10 v11n v12n v13 o2 o1 o0 v11n v9 v13 (a') (zc .i64 (zQ b' (getD v9 c' 0))) (zY b' (getD v9 c' 0)) o2 o1 o0) .fail) .fail) .fail) .fail) .fail) .fail) .fail) .fail) (.ite (decide (0≤v10)&&true&&decide (0≤toNat v10)&&decide (toNat v10≤zK none v11n)&&decide (zK none v11n≤zK none v11n)&&true) (.ite (decide (0<(↑v8n:Int))) (.ite (decide (0<length o0)) (.ite (decide (0+toNat v10≤length o1)&&true&&decide (length f'≤20000)) (.ite (Ii (Az f')&&decide (0<getD o0 0 0)&&decide (getD o0 0 0<1000000000)) (.ite (decide (0+v12n≤length o2)&&true&&decide (length (take v12n o2)≤20000)) (.leaf (.tup [.dat (zj i64) (Az (take v12n o2)),.dat (zj i64) (CJ (AY (Az f')/getD o0 0 0))]) ([(2,.arr true 3 i64 o2),(1,.arr true 3 i64 o1),(0,.arr true 3 i64 o0)])) .fail) .fail) .fail) .fail) .fail) .fail):=by kernel_rfl
def L4(v8n:Nat)(v9:List Int)(v10:Int)(v11n v12n:Nat)(v13 v14 v15 v16:Int)(o2 o1 o0:List Int):Tr:=re ((stepT JO (L3 0 [] 0 0 0 0 [] [] [] 0 [] 0 0 0 0 [] [] [])).L.L.L) (Al 206 [(8,.sl 0 1 0 v8n none),(9,.dat (zj i64) v9),(10,.dat i64 v10),(11,.sl 1 1 0 v11n none),(12,.sl 2 1 0 v12n none),(13,.dat i64 v13),(14,.dat i64 v14),(15,.dat i64 v15),(16,.dat i64 v16)] [(2,.arr false 3 i64 o2),(1,.arr false 3 i64 o1),(0,.arr true 3 i64 o0)] 3)
theorem Bk(v8n:Nat)(v9:List Int)(v10:Int)(v11n v12n:Nat)(v13:Int)(o2 o1 o0:List Int)(v0n:Nat)(v1:List Int)(v2 v7:Int)(v9':Int)(v10':Int)(o2':List Int)(o1':List Int)(o0':List Int):stepT JO (L3 v8n v9 v10 v11n v12n v13 o2 o1 o0 v0n v1 v2 v7 v9' v10' o2' o1' o0')=let b':=zc .i64 (v2+v7)-2;let c':=v10'+getD v1 (toNat (zc .i64 (v7-1))) 0;let d':=zc .i64 (v9'-1);let a':Tr:=.ite (decide (0≤zc .i64 (v7-1))&&decide (zc .i64 (v7-1)<(length v1:Int))) (.ite (decide (zc .i64 c'≥1000000000)) (L4 v8n v9 v10 v11n v12n v13 d' 0 0 o2' o1' o0') (L3 v8n v9 v10 v11n v12n v13 o2 o1 o0 v0n v1 v2 v7 d' (zc .i64 c') o2' o1' o0')) .fail;.ite (decide (v9'≥1000000000)) a' (.ite (decide (0≤zc .i64 (v7-2))&&decide (zc .i64 (v7-2)<(length v1:Int))) (.ite (decide (0≤zc .i64 b')&&decide (zc .i64 b'<(↑v0n:Int))) (.ite (decide (toNat (zc .i64 b')<length o1')) (.ite (decide (zc .i64 (v9'*getD v1 (toNat (zc .i64 (v7-2))) 0)>zc .i64 (zc .i64 (v10'*1000000000)+getD o1' (toNat (zc .i64 b')) 0))) a' (L4 v8n v9 v10 v11n v12n v13 v9' 0 0 o2' o1' o0')) .fail) .fail) .fail):=by kernel_rfl
def L5(v8n:Nat)(v9:List Int)(v10:Int)(v11n v12n:Nat)(v13 v14 v19 v20:Int)(o2 o1 o0:List Int):Tr:=re ((stepT JO (L4 0 [] 0 0 0 0 0 0 0 [] [] [])).R.L.L.L.L.L.L.L) (Al 206 [(8,.sl 0 1 0 v8n none),(9,.dat (zj i64) v9),(10,.dat i64 v10),(11,.sl 1 1 0 v11n none),(12,.sl 2 1 0 v12n none),(13,.dat i64 v13),(14,.dat i64 v14),(19,.dat i64 v19),(20,.dat i64 v20)] [(2,.arr false 3 i64 o2),(1,.arr false 3 i64 o1),(0,.arr true 3 i64 o0)] 3)
theorem BA(v8n:Nat)(v9:List Int)(v10:Int)(v11n v12n:Nat)(v13 v14 v15 v16:Int)(o2 o1 o0:List Int):stepT JO (L4 v8n v9 v10 v11n v12n v13 v14 v15 v16 o2 o1 o0)=let c':=decide (0≤zc .i64 (v16+v13))&&decide (zc .i64 (v16+v13)<(↑v11n:Int));let d':=decide (0≤zc .i64 (v13+v10))&&decide (zc .i64 (v13+v10)<(↑v11n:Int));let e':=zc .i64 (zc .i64 (v14*getD v9 (toNat v16) 0)+v15);let f':=zc .i64 (v16+v13);let g':=zc .i64 (v13+v10);let j':=zc .i64 (v16+1);let a':=set o1 (toNat g') (zc .i64 (getD o1 (toNat g') 0-v15));let b':=getD o1 (toNat f') 0-zY e' 1000000000;let h':=decide (toNat f'<length o1);let i':=decide (toNat g'<length o1);let k':=zQ e' 1000000000;.ite (decide (v16<v10)) (.ite (decide (0≤v16)&&decide (v16<(length v9:Int))) (.ite c' (.ite h' (.ite true (.ite true (.ite (decide (zc .i64 b'<0)) (.ite c' (.ite h' (L4 v8n v9 v10 v11n v12n v13 v14 (zc .i64 (zc .i64 k'+1)) j' o2 (set o1 (toNat f') (zc .i64 (zc .i64 b'+1000000000))) o0) .fail) .fail) (.ite c' (.ite h' (L4 v8n v9 v10 v11n v12n v13 v14 (zc .i64 k') j' o2 (set o1 (toNat f') (zc .i64 b')) o0) .fail) .fail)) .fail) .fail) .fail) .fail) .fail) (.ite d' (.ite i' (.ite d' (.ite i' (.ite d' (.ite (decide (toNat g'<length a')) (.ite (decide (getD a' (toNat g') 0<0)) (L5 v8n v9 v10 v11n v12n v13 (zc .i64 (v14-1)) 0 0 o2 a' o0) (.ite (decide (0≤v13)&&decide (v13<(↑v12n:Int))) (.ite (decide (toNat v13<length o2)) (L2 v8n v9 v10 v11n v12n (zc .i64 (v13-1)) (set o2 (toNat v13) v14) a' o0) .fail) .fail)) .fail) .fail) .fail) .fail) .fail) .fail):=by kernel_rfl
theorem CF(v8n:Nat)(v9:List Int)(v10:Int)(v11n v12n:Nat)(v13 v14 v19 v20:Int)(o2 o1 o0:List Int):stepT JO (L5 v8n v9 v10 v11n v12n v13 v14 v19 v20 o2 o1 o0)=let b':=decide (0≤zc .i64 (v20+v13))&&decide (zc .i64 (v20+v13)<(↑v11n:Int));let c':=decide (0≤zc .i64 (v13+v10))&&decide (zc .i64 (v13+v10)<(↑v11n:Int));let d':=zc .i64 (v20+v13);let e':=zc .i64 (v13+v10);let a':=zc .i64 (zc .i64 (getD o1 (toNat d') 0+getD v9 (toNat v20) 0)+v19);let f':=decide (toNat d'<length o1);let g':=decide (toNat e'<length o1);.ite (decide (v20<v10)) (.ite b' (.ite f' (.ite (decide (0≤v20)&&decide (v20<(length v9:Int))) (.ite true (.ite b' (.ite f' (.ite true (L5 v8n v9 v10 v11n v12n v13 v14 (zc .i64 (zQ a' 1000000000)) (zc .i64 (v20+1)) o2 (set o1 (toNat d') (zY a' 1000000000)) o0) .fail) .fail) .fail) .fail) .fail) .fail) .fail) (.ite c' (.ite g' (.ite c' (.ite g' (.ite (decide (0≤v13)&&decide (v13<(↑v12n:Int))) (.ite (decide (toNat v13<length o2)) (L2 v8n v9 v10 v11n v12n (zc .i64 (v13-1)) (set o2 (toNat v13) v14) (set o1 (toNat e') (zc .i64 (getD o1 (toNat e') 0+v19))) o0) .fail) .fail) .fail) .fail) .fail) .fail):=by kernel_rfl
end T209
namespace T170
def T(a b:List Int):Tr:=tree kA false 9 170 (Ag ([zj i64,zj i64]) (a,b))
def L1(v0 v1:List Int):Tr:=re ((T [] [])) (Al 19 [(0,.dat (zj i64) v0),(1,.dat (zj i64) v1)] [] 0)
theorem Ap(a b:List Int):T a b=L1 a b:=by kernel_rfl
theorem Ai(v0 v1:List Int):stepT kA (L1 v0 v1)=.ite (decide ((length v1:Int)>0)) (.ite (Cu v0&&Cu v1&&decide (length v0≤9000)&&decide (length v1≤9000)&&decide (0<AY v1)) (L1 v1 (CJ (AY v0 % AY v1))) .fail) (.leaf (.dat (zj i64) v0) []):=by kernel_rfl
end T170
namespace T263
def T(s:List UInt8):Tr:=tree VM false 9 263 (Ag ([Sh.str]) s)
def L1(v0:List UInt8)(v3 v4:Int):Tr:=re ((T [])) (Al 20 [(0,.dat Sh.str v0),(3,.dat i64 v3),(4,.dat i64 v4)] [] 0)
theorem Ap(s:List UInt8):T s=L1 s 0 0:=by kernel_rfl
theorem Ai(v0:List UInt8)(v3 v4:Int):stepT VM (L1 v0 v3 v4)=let a':=decide (v4<(length v0:Int));.ite (a') (.ite (decide (0≤v4)&&a') (L1 v0 (zc .i64 (zc .i64 (zc .i64 (10*v3)+zc .i64 (↑(UInt8.toNat (getD v0 (toNat v4) (0:UInt8))):Int))-48)) (zc .i64 (v4+1))) .fail) (.leaf (.dat i64 v3) []):=by kernel_rfl
end T263
namespace T207
def T(s:List UInt8):Tr:=tree VS false 9 207 (Ag ([Sh.str]) s)
def L1(v0:List UInt8)(v3:Bool):Tr:=re ((T []).L.L.L.L) (Al 40 [(0,.dat Sh.str v0),(2,.ptr 0 0),(3,.dat zV v3),(4,.nil)] [(0,.box [.bl false,.nil])] 1)
def L2(v0:List UInt8):Tr:=re ((T []).R) (Al 40 [(0,.dat Sh.str v0),(2,.ptr 0 0),(3,.bl false),(4,.nil)] [(0,.box [.bl false,.nil])] 1)
theorem Ap(s:List UInt8):T s=let a':=(↑(UInt8.toNat (getD s 0 (0:UInt8))):Int)==45;.ite (decide ((length s:Int)>0)) (.ite (decide (0<(length s:Int))) (.ite a' (.ite (decide (1≤length s)&&decide (length s≤length s)) (L1 (take (yp (length s) 1) (drop 1 s)) a') .fail) (L1 s a')) .fail) (L2 s):=by kernel_rfl
def L3(v0:List UInt8)(v3:Bool)(v4n:Nat)(o1:List Int):Tr:=re ((stepT VS (L1 [] false)).L.L.L.L.L) (Al 40 [(0,.dat Sh.str v0),(2,.ptr 0 0),(3,.dat zV v3),(4,.sl 1 1 0 v4n none)] [(1,.arr false 3 i64 o1),(0,.box [.bl false,.nil])] 2)
theorem Ai(v0:List UInt8)(v3:Bool):stepT VS (L1 v0 v3)=let b':=decide (1≤1)&&decide (0<1)&&decide ((2*1+1000)*8≤281474976710656);let e':=(length v0:Int);let g':=Ew v3 [Bh v0];let h':=Az [Bh v0];let a':=zc .i64 (e'-9);let d':=decide (0≤zc .i64 (e'-9));let c':=take (yp (length v0) (toNat a')) (drop (toNat a') v0);let f':=decide (toNat a'≤length v0);.ite (decide (e'>9)) (.ite (d'&&true&&f'&&decide (length v0≤length v0)) (.ite (Dr c') (.ite b' (.ite (d'&&decide (0≤toNat a')&&f') (L3 (take (toNat a') v0) v3 1 ([Bh c'])) .fail) .fail) .fail) .fail) (.ite (Dr v0) (.ite b' (.ite (decide (0+1≤1)&&true&&decide (1≤20000)) (.leaf (zX [.dat zV g',.dat (zj i64) h']) ([(zm 1 1,.arr true 3 i64 [Bh v0]),(1,.arr false 3 i64 [Bh v0]),(0,.box [.dat zV g',.dat (zj i64) h'])])) .fail) .fail) .fail):=by kernel_rfl
def L4(v0:List UInt8)(v4n:Nat)(o1:List Int):Tr:=re ((stepT VS (L2 [])).L.L.L.L.L) (Al 40 [(0,.dat Sh.str v0),(2,.ptr 0 0),(3,.bl false),(4,.sl 1 1 0 v4n none)] [(1,.arr false 3 i64 o1),(0,.box [.bl false,.nil])] 2)
theorem AN(v0:List UInt8):stepT VS (L2 v0)=let b':=decide (1≤1)&&decide (0<1)&&decide ((2*1+1000)*8≤281474976710656);let e':=Ew false [Bh v0];let f':=(length v0:Int);let h':=Az [Bh v0];let a':=zc .i64 (f'-9);let d':=decide (0≤zc .i64 (f'-9));let c':=take (yp (length v0) (toNat a')) (drop (toNat a') v0);let g':=decide (toNat a'≤length v0);.ite (decide (f'>9)) (.ite (d'&&true&&g'&&decide (length v0≤length v0)) (.ite (Dr c') (.ite b' (.ite (d'&&decide (0≤toNat a')&&g') (L4 (take (toNat a') v0) 1 ([Bh c'])) .fail) .fail) .fail) .fail) (.ite (Dr v0) (.ite b' (.ite (decide (0+1≤1)&&true&&decide (1≤20000)) (.leaf (zX [.dat zV e',.dat (zj i64) h']) ([(zm 1 1,.arr true 3 i64 [Bh v0]),(1,.arr false 3 i64 [Bh v0]),(0,.box [.dat zV e',.dat (zj i64) h'])])) .fail) .fail) .fail):=by kernel_rfl
theorem Bk(v0:List UInt8)(v3:Bool)(v4n:Nat)(o1:List Int):stepT VS (L3 v0 v3 v4n o1)=let c':=decide (1≤1)&&true&&decide (v4n=length o1)&&decide ((2*(v4n+1)+1000)*8≤281474976710656);let f':=o1++[Bh v0];let g':=(length v0:Int);let a':=zc .i64 (g'-9);let b':=take (zm v4n 1) f';let e':=decide (0≤zc .i64 (g'-9));let d':=take (yp (length v0) (toNat a')) (drop (toNat a') v0);let h':=decide (toNat a'≤length v0);.ite (decide (g'>9)) (.ite (e'&&true&&h'&&decide (length v0≤length v0)) (.ite (Dr d') (.ite c' (.ite (e'&&decide (0≤toNat a')&&h') (L3 (take (toNat a') v0) v3 (zm v4n 1) (o1++[Bh d'])) .fail) .fail) .fail) .fail) (.ite (Dr v0) (.ite c' (.ite (decide (0+zm v4n 1≤length f')&&true&&decide (length b'≤20000)) (.leaf (zX [.dat zV (Ew v3 b'),.dat (zj i64) (Az b')]) ([(zm 2 1,.arr true 3 i64 f'),(2,.arr false 3 i64 [Bh v0]),(0,.box [.dat zV (Ew v3 b'),.dat (zj i64) (Az b')])])) .fail) .fail) .fail):=by kernel_rfl
theorem BA(v0:List UInt8)(v4n:Nat)(o1:List Int):stepT VS (L4 v0 v4n o1)=let c':=decide (1≤1)&&true&&decide (v4n=length o1)&&decide ((2*(v4n+1)+1000)*8≤281474976710656);let f':=o1++[Bh v0];let g':=(length v0:Int);let a':=zc .i64 (g'-9);let b':=take (zm v4n 1) f';let e':=decide (0≤zc .i64 (g'-9));let d':=take (yp (length v0) (toNat a')) (drop (toNat a') v0);let h':=decide (toNat a'≤length v0);.ite (decide (g'>9)) (.ite (e'&&true&&h'&&decide (length v0≤length v0)) (.ite (Dr d') (.ite c' (.ite (e'&&decide (0≤toNat a')&&h') (L4 (take (toNat a') v0) (zm v4n 1) (o1++[Bh d'])) .fail) .fail) .fail) .fail) (.ite (Dr v0) (.ite c' (.ite (decide (0+zm v4n 1≤length f')&&true&&decide (length b'≤20000)) (.leaf (zX [.dat zV (Ew false b'),.dat (zj i64) (Az b')]) ([(zm 2 1,.arr true 3 i64 f'),(2,.arr false 3 i64 [Bh v0]),(0,.box [.dat zV (Ew false b'),.dat (zj i64) (Az b')])])) .fail) .fail) .fail):=by kernel_rfl
end T207
end
end Go.Pe
end
section
namespace Go.Pe
open Sp
open Go.Det
noncomputable section
open List Int Prod
namespace T184n
def T(n:Int):Tr:=tree nO false 9 184 (Ag ([zo yt]) n)
theorem Ap(n:Int):T n=.leaf (zX [.dat i64 n,.nil]) ([(0,.box [.dat i64 n,.nil])]):=by kernel_rfl
end T184n
namespace T221
def T(a b:Int×List Int):Tr:=tree jC false 9 221 (Ag ([Sh.pair i64 (zG (zo zf)),Sh.pair i64 (zG (zo zf))]) (a,b))
def L1(v8:Bool)(v12 v13:List Int)(o2 o1 o0:Int)(o0_1:List Int):Tr:=re ((T (0,[]) (0,[])).L.L.R.L.L.L) (Al 84 [(3,.ptr 0 0),(4,.ptr 1 0),(5,.ptr 2 0),(8,.dat zV v8),(12,.dat (zj (zo zf)) v12),(13,.dat (zj (zo zf)) v13)] [(2,.box [.dat i64 o2,.nil]),(1,.box [.dat i64 o1,.nil]),(0,.box [.dat i64 o0,.dat (zG (zo zf)) o0_1])] 3)
theorem Ap(a b:Int×List Int):T a b=let b':=zG (zo zf);let c':=BL (Ah (zi (fst a,snd a)));let d':=BL (Ah (zi (fst b,snd b)));let e':=zQ (fst a) (fst b);let f':=zc .i64 (zY (fst a) (fst b)+fst b);let h':=zY (fst a) (fst b);let i':=zm (zm 0 1) 1;let a':Tr:=.ite (EY (fst a,snd a)) (.ite (EY (fst b,snd b)) (.ite (Zk c' d') (L1 (decide (zi (fst a,snd a)<0)) (BL (Ao c'/Ao d')) (BL (Ao c' % Ao d')) 0 0 (fst b) (snd b)) .fail) .fail) .fail;let g':=zc .i64 (zc .i64 e'-1);.ite (!decide (0<length (snd a))) (.ite (!decide (0<length (snd b))) (.ite (fst a !=(-9223372036854775808)) (.ite (decide (fst b≠0)) (.ite (decide (fst b≠0)) (.ite (decide (zY (fst a) (fst b)<0)) (.leaf (.tup [zX [.dat i64 g',.nil],zX [.dat i64 f',.nil]]) ([(zm i' 1,.box [.dat i64 f',.nil]),(zm (zm 0 1) 1,.box [.dat i64 g',.nil]),(zm 0 1,.box [.dat i64 (fst b),.dat b' (snd b)]),(0,.box [.dat i64 (fst a),.dat b' (snd a)])])) (.leaf (.tup [zX [.dat i64 (zc .i64 e'),.nil],zX [.dat i64 h',.nil]]) ([(zm i' 1,.box [.dat i64 h',.nil]),(zm (zm 0 1) 1,.box [.dat i64 (zc .i64 e'),.nil]),(zm 0 1,.box [.dat i64 (fst b),.dat b' (snd b)]),(0,.box [.dat i64 (fst a),.dat b' (snd a)])]))) .fail) .fail) a') a') a':=by kernel_rfl
def L2(o4:Int)(o4_1:List Int)(o3:Int)(o3_1:List Int)(o2 o1 o0:Int)(o0_1:List Int):Tr:=re ((stepT jC (L1 false [] [] 0 0 0 [])).L.L) (Al 84 [(3,.ptr 0 0),(4,.ptr 1 0),(5,.ptr 2 0),(14,.ptr 3 0),(15,.ptr 4 0)] [(4,.box [.dat i64 o4,.dat (zG (zo zf)) o4_1]),(3,.box [.dat i64 o3,.dat (zG (zo zf)) o3_1]),(2,.box [.dat i64 o2,.nil]),(1,.box [.dat i64 o1,.nil]),(0,.box [.dat i64 o0,.dat (zG (zo zf)) o0_1])] 5)
theorem Ai(v8:Bool)(v12 v13:List Int)(o2 o1 o0:Int)(o0_1:List Int):stepT jC (L1 v8 v12 v13 o2 o1 o0 o0_1)=let a':=yo v8 (Ao v13);let b':=yo v8 (Ao v12);.ite (BV v12) (.ite (BV v13) (L2 (Ch a') (Cf a') (Ch b') (Cf b') o2 o1 o0 o0_1) .fail) .fail:=by kernel_rfl
theorem AN(o4:Int)(o4_1:List Int)(o3:Int)(o3_1:List Int)(o2 o1 o0:Int)(o0_1:List Int):stepT jC (L2 o4 o4_1 o3 o3_1 o2 o1 o0 o0_1)=let a':=zG (zo zf);let b':=Xn (o3,o3_1) (1,DE 1);let c':=Yf (o3,o3_1) (1,DE 1);let d':=Kq (o4,o4_1) (o0,o0_1);let e':=Kx (o4,o4_1) (o0,o0_1);.ite (EY (o4,o4_1)) (.ite (decide (LD (o4,o4_1)<0)) (.ite true (.ite (BR (o3,o3_1)&&BR (1,DE 1)) (.ite (BR (o4,o4_1)&&BR (o0,o0_1)) (.leaf (.tup [zX [.dat i64 b',.dat a' c'],zX [.dat i64 d',.dat a' e']]) ([(4,.box [.dat i64 d',.dat a' e']),(3,.box [.dat i64 b',.dat a' c']),(2,.box [.dat i64 d',.dat a' e']),(1,.box [.dat i64 b',.dat a' c']),(0,.box [.dat i64 o0,.dat a' o0_1])])) .fail) .fail) .fail) (.leaf (.tup [zX [.dat i64 o3,.dat a' o3_1],zX [.dat i64 o4,.dat a' o4_1]]) ([(4,.box [.dat i64 o4,.dat a' o4_1]),(3,.box [.dat i64 o3,.dat a' o3_1]),(2,.box [.dat i64 o4,.dat a' o4_1]),(1,.box [.dat i64 o3,.dat a' o3_1]),(0,.box [.dat i64 o0,.dat a' o0_1])]))) .fail:=by kernel_rfl
end T221
namespace T181
def T(a b:Int×List Int):Tr:=tree kH false 9 181 (Ag ([Sh.pair i64 (zG (zo zf)),Sh.pair i64 (zG (zo zf))]) (a,b))
def L1(o2 o1:Int)(o1_1:List Int)(o0:Int)(o0_1:List Int):Tr:=re ((T (0,[]) (0,[])).L.L) (Al 23 [(2,.ptr 0 0),(3,.ptr 1 0),(4,.ptr 2 0)] [(2,.box [.dat i64 o2,.nil]),(1,.box [.dat i64 o1,.dat (zG (zo zf)) o1_1]),(0,.box [.dat i64 o0,.dat (zG (zo zf)) o0_1])] 3)
theorem Ap(a b:Int×List Int):T a b=.ite (EY (fst a,snd a)) (.ite (EY (fst b,snd b)) (L1 0 (MW (fst b,snd b)) (Mu (fst b,snd b)) (MW (fst a,snd a)) (Mu (fst a,snd a))) .fail) .fail:=by kernel_rfl
theorem Ai(o2 o1:Int)(o1_1:List Int)(o0:Int)(o0_1:List Int):stepT kH (L1 o2 o1 o1_1 o0 o0_1)=let a':=zG (zo zf);.ite (EY (o1,o1_1)) (.ite (LD (o1,o1_1) !=0) (.ite (BR (o0,o0_1)&&BR (o1,o1_1)&&decide (0<zi (o1,o1_1))) (L1 o2 (Xc (o0,o0_1) (o1,o1_1)) (Yq (o0,o0_1) (o1,o1_1)) o1 o1_1) .fail) (.leaf (zX [.dat i64 o0,.dat a' o0_1]) ([(2,.box [.dat i64 o0,.dat a' o0_1]),(1,.box [.dat i64 o1,.dat a' o1_1]),(0,.box [.dat i64 o0,.dat a' o0_1])]))) .fail:=by kernel_rfl
end T181
namespace T225
def T(a:Int×List Int)(k:Int):Tr:=tree jW false 9 225 (Ag ([Sh.pair i64 (zG (zo zf)),zo yt]) (a,k))
def L1(v1 o2:Int)(o2_1:List Int)(o1 o0:Int)(o0_1:List Int):Tr:=re ((T (0,[]) 0).L) (Al 23 [(1,.dat i64 v1),(2,.ptr 0 0),(4,.ptr 1 0),(5,.ptr 2 0)] [(2,.box [.dat i64 o2,.dat (zG (zo zf)) o2_1]),(1,.box [.dat i64 o1,.nil]),(0,.box [.dat i64 o0,.dat (zG (zo zf)) o0_1])] 3)
theorem Ap(a:Int×List Int)(k:Int):T a k=.ite true (L1 k 1 (DE 1) 0 (fst a) (snd a)) .fail:=by kernel_rfl
theorem Ai(v1 o2:Int)(o2_1:List Int)(o1 o0:Int)(o0_1:List Int):stepT jW (L1 v1 o2 o2_1 o1 o0 o0_1)=let a':=zG (zo zf);let b':=ye v1 (2^1);let c':=BR (o0,o0_1)&&BR (o0,o0_1);let d':=GL (o2,o2_1) (o0,o0_1);let e':=GI (o2,o2_1) (o0,o0_1);let f':=GL (o0,o0_1) (o0,o0_1);let g':=GI (o0,o0_1) (o0,o0_1);.ite (decide (v1>0)) (.ite (EK yt v1 1==1) (.ite (BR (o2,o2_1)&&BR (o0,o0_1)) (.ite (decide (v1>1)) (.ite c' (.ite true (L1 b' d' e' o1 f' g') .fail) .fail) (.ite true (L1 b' d' e' o1 o0 o0_1) .fail)) .fail) (.ite (decide (v1>1)) (.ite c' (.ite true (L1 b' o2 o2_1 o1 f' g') .fail) .fail) (.ite true (L1 b' o2 o2_1 o1 o0 o0_1) .fail))) (.leaf (zX [.dat i64 o2,.dat a' o2_1]) ([(2,.box [.dat i64 o2,.dat a' o2_1]),(1,.box [.dat i64 o2,.dat a' o2_1]),(0,.box [.dat i64 o0,.dat a' o0_1])])):=by kernel_rfl
end T225
end
end Go.Pe
end
section
namespace Go.Pe
open Sp
open Go.Det
noncomputable section
open List Int Prod
namespace T287
def T(a b:List Int):Tr:=tree H5 false 9 287 (Ag ([zj (zo zf),zj (zo zf)]) (a,b))
def L1(v0 v1:List Int)(v6n:Nat)(v7 v8:Int)(o0:List Int):Tr:=re ((T [] []).L.R.L.L) (Al 137 [(0,.dat (zj (zo zf)) v0),(1,.dat (zj (zo zf)) v1),(6,.sl 0 1 0 v6n none),(7,.dat (zo zf) v7),(8,.dat i64 v8)] [(0,.arr false 288 (zo zf) o0)] 1)
def L2(a b:List Int)(v1:Int)(v5n:Nat)(v12:List Int)(v13 v14:Int)(o0:List Int):Tr:=re ((T a b).L.R.R.L.L.L) (Al 40 [(1,.dat i64 v1),(5,.sl 0 1 0 v5n none),(12,.dat (zj (zo zf)) v12),(13,.dat i64 v13),(14,.dat i64 v14)] [(0,.arr false 288 (zo zf) o0)] 1)
theorem Ap(a b:List Int):T a b=let a':=(length b:Int);let b':=(length a:Int);let c':=zc .i64 (a'+1);let d':=getD b (toNat (zc .i64 (a'-1))) 0;.ite (BV a&&BV b) (.ite (decide (BB (Ao a) (Ao b)<0)) (.leaf (.tup [.nil,.dat (zj (zo zf)) a]) []) (.ite (a'==1) (.ite (decide (0≤b')&&decide (b'=b')&&decide (8*toNat b'≤281474976710656)&&decide (b'<9223372036854775808)) (L1 a b (toNat b') 0 (zc .i64 (b'-1)) (replicate (toNat b') 0)) .fail) (.ite (decide (0≤zc .i64 (a'-1))&&decide (zc .i64 (a'-1)<a')) (.ite (zx d') (.ite (decide (0≤zc .i64 (a'+1))&&decide (zc .i64 (a'+1)=zc .i64 (a'+1))&&decide (8*toNat c'≤281474976710656)&&decide (zc .i64 (a'+1)<9223372036854775808)) (L2 a b (Sp.lz d') (toNat c') b (a') 0 (replicate (toNat c') 0)) .fail) .fail) .fail))) .fail:=by kernel_rfl
theorem Ai(v0 v1:List Int)(v6n:Nat)(v7 v8:Int)(o0:List Int):stepT H5 (L1 v0 v1 v6n v7 v8 o0)=let a':=zo zf;let b':=getD v0 (toNat v8) 0;.ite (decide (v8≥0)) (.ite (decide (0≤v8)&&decide (v8<(length v0:Int))) (.ite (decide (0<(length v1:Int))) (.ite (zx v7&&zx b'&&zx (getD v1 0 0)&&decide (v7<getD v1 0 0)) (.ite (decide (0≤v8)&&decide (v8<(↑v6n:Int))) (.ite (decide (toNat v8<length o0)) (L1 v0 v1 v6n (Sp.dr v7 b' (getD v1 0 0)) (zc .i64 (v8-1)) (set o0 (toNat v8) (Sp.dq v7 b' (getD v1 0 0)))) .fail) .fail) .fail) .fail) .fail) (.ite (decide (0+v6n≤length o0)&&true&&Cs (take v6n o0)) (.ite (decide (1≤1)&&true&&Cs [v7]) (.leaf (.tup [.dat (zj a') (Az (take v6n o0)),.dat (zj a') (Az [v7])]) ([(1,.arr true 288 a' [v7]),(0,.arr true 288 a' o0)])) .fail) .fail):=by kernel_rfl
def L3(a b:List Int)(v1:Int)(v5n:Nat)(v12:List Int)(v13 v14:Int)(o0:List Int)(v1':Int)(v5n':Nat)(v12':List Int)(v13':Int)(v14':Int)(o1:List Int)(o0':List Int):Tr:=re ((stepT H5 (L2 a b v1 v5n v12 v13 v14 o0)).R.L.L) (Al 40 [(1,.dat i64 v1'),(5,.sl 1 1 0 v5n' none),(12,.dat (zj (zo zf)) v12'),(13,.dat i64 v13'),(14,.dat i64 v14')] [(1,.arr false 288 (zo zf) o1),(0,.arr true 288 (zo zf) o0')] 2)
theorem AN(a b:List Int)(v1:Int)(v5n:Nat)(v12:List Int)(v13 v14:Int)(o0:List Int):stepT H5 (L2 a b v1 v5n v12 v13 v14 o0)=let a':=set o0 (toNat v14) (Vn zf (getD o0 (toNat v14) 0) (zc .u64 (getD v12 (toNat v14) 0*2^yb (toNat v1) 64)));let b':=(length a:Int)+1;let c':=zc .i64 (v14+1);let e':=decide (0≤v14)&&decide (v14<(↑v5n:Int));let f':=decide (toNat v14<length o0);let d':=zc .i64 b';.ite (decide (v14<v13)) (.ite (decide (0≤v14)&&decide (v14<(length v12:Int))) (.ite e' (.ite f' (.ite (decide (0≤v1)) (.ite e' (.ite f' (.ite (decide (v1>0)) (.ite (decide (0≤zc .i64 (64-v1))) (.ite (decide (0≤zc .i64 (v14+1))&&decide (zc .i64 (v14+1)<(↑v5n:Int))) (.ite (decide (toNat c'<length a')) (L2 a b v1 v5n v12 v13 c' (set a' (toNat c') (ye (getD v12 (toNat v14) 0) (2^yb (toNat (zc .i64 (64-v1))) 64)))) .fail) .fail) .fail) (L2 a b v1 v5n v12 v13 c' a')) .fail) .fail) .fail) .fail) .fail) .fail) (.ite (decide (0+v5n≤length o0)&&true&&Cs (take v5n o0)) (.ite (decide (0≤zc .i64 b')&&decide (zc .i64 b'=zc .i64 b')&&decide (8*toNat d'≤281474976710656)&&decide (zc .i64 b'<9223372036854775808)) (L3 a b v1 v5n v12 v13 v14 o0 (Sp.lz (getD b (toNat (zc .i64 ((length b:Int)-1))) 0)) (toNat d') a ((length a:Int)) 0 (replicate (toNat d') 0) o0) .fail) .fail):=by kernel_rfl
def L4(v9:Int)(v10:List Int)(v11n:Nat)(v12:Int)(v13n:Nat)(v14:Int)(o1 o0:List Int):Tr:=re ((stepT H5 (L3 [] [] 0 0 [] 0 0 [] 0 0 [] 0 0 [] [])).R.L) (Al 137 [(9,.dat i64 v9),(10,.dat (zj (zo zf)) v10),(11,.sl 0 1 0 v11n none),(12,.dat i64 v12),(13,.sl 1 1 0 v13n none),(14,.dat i64 v14)] [(1,.arr false 288 (zo zf) o1),(0,.arr false 288 (zo zf) o0)] 2)
theorem Bk(a b:List Int)(v1:Int)(v5n:Nat)(v12:List Int)(v13 v14:Int)(o0:List Int)(v1':Int)(v5n':Nat)(v12':List Int)(v13':Int)(v14':Int)(o1:List Int)(o0':List Int):stepT H5 (L3 a b v1 v5n v12 v13 v14 o0 v1' v5n' v12' v13' v14' o1 o0')=let b':=set o1 (toNat v14') (Vn zf (getD o1 (toNat v14') 0) (zc .u64 (getD v12' (toNat v14') 0*2^yb (toNat v1') 64)));let c':=zc .i64 (v14'+1);let e':=decide (0≤v14')&&decide (v14'<(↑v5n':Int));let g':=decide (toNat v14'<length o1);let h':=Az (take v5n o0);let d':=(↑(length h'):Int);let a':=zc .i64 ((length a:Int)-d')+1;let f':=zc .i64 a';.ite (decide (v14'<v13')) (.ite (decide (0≤v14')&&decide (v14'<(↑(length v12'):Int))) (.ite e' (.ite g' (.ite (decide (0≤v1')) (.ite e' (.ite g' (.ite (decide (v1'>0)) (.ite (decide (0≤zc .i64 (64-v1'))) (.ite (decide (0≤zc .i64 (v14'+1))&&decide (zc .i64 (v14'+1)<(↑v5n':Int))) (.ite (decide (toNat c'<length b')) (L3 a b v1 v5n v12 v13 v14 o0 v1' v5n' v12' v13' c' (set b' (toNat c') (ye (getD v12' (toNat v14') 0) (2^yb (toNat (zc .i64 (64-v1'))) 64))) o0') .fail) .fail) .fail) (L3 a b v1 v5n v12 v13 v14 o0 v1' v5n' v12' v13' c' b' o0')) .fail) .fail) .fail) .fail) .fail) .fail) (.ite (decide (0≤zc .i64 a')&&decide (zc .i64 a'=zc .i64 a')&&decide (8*toNat f'≤281474976710656)&&decide (zc .i64 a'<9223372036854775808)) (L4 (Sp.lz (getD b (toNat (zc .i64 ((length b:Int)-1))) 0)) h' v5n' (d') (toNat f') (zc .i64 ((length a:Int)-d')) (replicate (toNat f') 0) o1) .fail):=by kernel_rfl
def L5(v9:Int)(v10:List Int)(v11n:Nat)(v12:Int)(v13n:Nat)(v14:Int)(o1 o0:List Int)(v0o v0n v0c:Nat)(v1:List Int)(v5 v6 v7 v8:Int)(o1':List Int)(o0':List Int):Tr:=re ((stepT H5 (L4 v9 v10 v11n v12 v13n v14 o1 o0)).L.L.L.L.L.L.L.L.L.L) (Al 186 [(0,.sl 0 1 v0o v0n (Option.some v0c)),(1,.dat (zj (zo zf)) v1),(5,.dat i64 v5),(6,.dat (zo zf) v6),(7,.dat (zo zf) v7),(8,.dat (zo zf) v8)] [(1,.arr false 288 (zo zf) o1'),(0,.arr false 288 (zo zf) o0')] 2)
def L6(v9:Int)(v11n:Nat)(v12:Int)(v13n:Nat)(v96 v97:Int)(o1 o0:List Int):Tr:=re ((stepT H5 (L4 0 [] 0 0 0 0 [] [])).R) (Al 137 [(9,.dat i64 v9),(11,.sl 0 1 0 v11n none),(12,.dat i64 v12),(13,.sl 1 1 0 v13n none),(96,.dat i64 v96),(97,.dat i64 v97)] [(1,.arr false 288 (zo zf) o1),(0,.arr false 288 (zo zf) o0)] 2)
theorem BA(v9:Int)(v10:List Int)(v11n:Nat)(v12:Int)(v13n:Nat)(v14:Int)(o1 o0:List Int):stepT H5 (L4 v9 v10 v11n v12 v13n v14 o1 o0)=let c':=(length v10:Int);let d':=zm 0 (toNat v14);let k':=yp (zK none v11n) (toNat v14);let p':=zc .i64 (v14+v12)+1;let a':=toNat (zc .i64 (c'-1));let g':=zc .i64 p';let h':=zm (toNat c') d';let l':=decide (zm (toNat c') d'<length o0);let n':=decide (0≤zc .i64 (c'-1));let b':=yp (toNat g') (toNat v14);let e':=n'&&decide (zc .i64 (c'-1)<c');let f':=getD o0 (zm a' d') 0;let j':=getD v10 a' 0;let o':=decide (zm a' d'<length o0);let q':=getD o0 h' 0;let i':=n'&&decide (zc .i64 (c'-1)<(↑b':Int));let m':=decide (0≤c')&&decide (c'<(↑b':Int));.ite (decide (v14≥0)) (.ite (decide (0≤v14)&&decide (0≤zc .i64 p')&&true&&decide (toNat v14≤toNat g')&&decide (toNat g'≤zK none v11n)&&decide (zK none v11n≤zK none v11n)&&true) (.ite m' (.ite l' (.ite e' (.ite (decide (getD o0 h' 0≥getD v10 a' 0)) (.ite i' (.ite o' (.ite e' (.ite (zx f'&&zx j'&&decide ((0:Sh.T (Bi [u64]))≤0)&&decide (0≤(1:Sh.T (Bi [u64])))) (L5 v9 v10 v11n v12 v13n v14 o1 o0 d' b' k' v10 (c') 18446744073709551615 (GO f' j' 0) (Nr f' j' 0) o1 o0) .fail) .fail) .fail) .fail) (.ite m' (.ite l' (.ite i' (.ite o' (.ite e' (.ite (zx q'&&zx f'&&zx j'&&decide (getD o0 h' 0<getD v10 a' 0)) (L5 v9 v10 v11n v12 v13n v14 o1 o0 d' b' k' v10 (c') (Sp.dq q' f' j') (Sp.dr q' f' j') 0 o1 o0) .fail) .fail) .fail) .fail) .fail) .fail)) .fail) .fail) .fail) .fail) (L6 v9 v11n v12 v13n v12 0 o1 o0):=by kernel_rfl
def L7(v9:Int)(v10:List Int)(v11n:Nat)(v12:Int)(v13n:Nat)(v14:Int)(o1 o0:List Int)(v0o v0n v0c:Nat)(v1:List Int)(v5 v6 v11:Int)(v12':Int)(v104 v105:Int)(o1':List Int)(o0':List Int):Tr:=re ((stepT H5 (L5 v9 v10 v11n v12 v13n v14 o1 o0 0 0 0 [] 0 0 0 0 [] [])).L.L.L.L) (Al 186 [(0,.sl 0 1 v0o v0n (Option.some v0c)),(1,.dat (zj (zo zf)) v1),(5,.dat i64 v5),(6,.dat (zo zf) v6),(11,.dat (zo zf) v11),(12,.dat (zo zf) v12'),(104,.dat i64 v104),(105,.dat i64 v105)] [(1,.arr false 288 (zo zf) o1'),(0,.arr false 288 (zo zf) o0')] 2)
theorem CF(v9:Int)(v10:List Int)(v11n:Nat)(v12:Int)(v13n:Nat)(v14:Int)(o1 o0:List Int)(v0o v0n v0c:Nat)(v1:List Int)(v5 v6 v7 v8:Int)(o1':List Int)(o0':List Int):stepT H5 (L5 v9 v10 v11n v12 v13n v14 o1 o0 v0o v0n v0c v1 v5 v6 v7 v8 o1' o0')=let b':=toNat (zc .i64 (v5-2));let c':=L7 v9 v10 v11n v12 v13n v14 o1 o0 v0o v0n v0c v1 v5 v6 0 0 v5 0 o1' o0';let d':=getD v1 (toNat (zc .i64 (v5-1))) 0;let f':=decide (0≤zc .i64 (v5-2));let a':Tr:=.ite (decide (0≤zc .i64 (v5-1))&&decide (zc .i64 (v5-1)<(length v1:Int))) (.ite (zx v7&&zx d'&&decide ((0:Sh.T (Bi [u64]))≤0)&&decide (0≤(1:Sh.T (Bi [u64])))) (L5 v9 v10 v11n v12 v13n v14 o1 o0 v0o v0n v0c v1 v5 (zc .u64 (v6-1)) (GO v7 d' 0) (Nr v7 d' 0) o1' o0') .fail) .fail;let e':=getD v1 b' 0;.ite (v8==0) (.ite (f'&&decide (zc .i64 (v5-2)<(length v1:Int))) (.ite (zx v6&&zx e') (.ite (decide (OL v6 e'<v7)) c' (.ite (OL v6 e'==v7) (.ite (f'&&decide (zc .i64 (v5-2)<(↑v0n:Int))) (.ite (decide (zm b' v0o<length o0')) (.ite (decide (G5 v6 e'≤getD o0' (zm b' v0o) 0)) c' a') .fail) .fail) a')) .fail) .fail) c':=by kernel_rfl
theorem C2(v9:Int)(v11n:Nat)(v12:Int)(v13n:Nat)(v96 v97:Int)(o1 o0:List Int):stepT H5 (L6 v9 v11n v12 v13n v96 v97 o1 o0)=let a':=set o0 (toNat v97) (ye (getD o0 (toNat v97) 0) (2^yb (toNat v9) 64));let b':=decide (0≤v97)&&decide (v97<(↑v11n:Int));let c':=zc .i64 (v97+1);let d':=zo zf;let e':=decide (zc .i64 (v97+1)<(↑v11n:Int));let g':=decide (toNat v97<length o0);let f':=L6 v9 v11n v12 v13n v96 c' o1 a';let h':=decide (toNat v97<length a');.ite (decide (v97<v96)) (.ite b' (.ite g' (.ite (decide (0≤v9)) (.ite b' (.ite g' (.ite (decide (v9>0)) (.ite (e') (.ite b' (.ite h' (.ite (decide (0≤zc .i64 (v97+1))&&e') (.ite (decide (toNat c'<length a')) (.ite (decide (0≤zc .i64 (64-v9))) (.ite b' (.ite h' (L6 v9 v11n v12 v13n v96 c' o1 (set a' (toNat v97) (Vn zf (getD a' (toNat v97) 0) (zc .u64 (getD a' (toNat c') 0*2^yb (toNat (zc .i64 (64-v9))) 64))))) .fail) .fail) .fail) .fail) .fail) .fail) .fail) f') f') .fail) .fail) .fail) .fail) .fail) (.ite (decide (0≤v12)&&true&&decide (0≤toNat v12)&&decide (toNat v12≤zK none v11n)&&decide (zK none v11n≤zK none v11n)&&true) (.ite (decide (0+v13n≤length o1)&&true&&Cs (take v13n o1)) (.ite (decide (0+toNat v12≤length o0)&&true&&Cs (take (toNat v12) o0)) (.leaf (.tup [.dat (zj d') (Az (take v13n o1)),.dat (zj d') (Az (take (toNat v12) o0))]) ([(1,.arr true 288 d' o1),(0,.arr true 288 d' o0)])) .fail) .fail) .fail):=by kernel_rfl
def L8(v9:Int)(v10:List Int)(v11n:Nat)(v12:Int)(v13n:Nat)(v14:Int)(o1 o0:List Int)(v0o v0n v0c:Nat)(v1:List Int)(v5 v6 v17 v156 v157:Int)(o1':List Int)(o0':List Int):Tr:=re ((stepT H5 (L7 v9 v10 v11n v12 v13n v14 o1 o0 0 0 0 [] 0 0 0 0 0 0 [] [])).R.L.L.L.L.L.R) (Al 186 [(0,.sl 0 1 v0o v0n (Option.some v0c)),(1,.dat (zj (zo zf)) v1),(5,.dat i64 v5),(6,.dat (zo zf) v6),(17,.dat (zo zf) v17),(156,.dat i64 v156),(157,.dat i64 v157)] [(1,.arr false 288 (zo zf) o1'),(0,.arr false 288 (zo zf) o0')] 2)
theorem Db(v9:Int)(v10:List Int)(v11n:Nat)(v12:Int)(v13n:Nat)(v14:Int)(o1 o0:List Int)(v0o v0n v0c:Nat)(v1:List Int)(v5 v6 v11:Int)(v12':Int)(v104 v105:Int)(o1':List Int)(o0':List Int):stepT H5 (L7 v9 v10 v11n v12 v13n v14 o1 o0 v0o v0n v0c v1 v5 v6 v11 v12' v104 v105 o1' o0')=let b':=zm (toNat v5) v0o;let d':=getD v1 (toNat v105) 0;let e':=decide (zm (toNat v105) v0o<length o0');let g':=decide (zm (toNat v5) v0o<length o0');let h':=decide (0≤v105)&&decide (v105<(↑v0n:Int));let i':=(0:Sh.T (Bi [u64]));let j':=(1:Sh.T (Bi [u64]));let k':=decide (0≤v5)&&decide (v5<(↑v0n:Int));let n':=zm (toNat v105) v0o;let a':=G5 v6 d';let c':=getD o0' n' 0;let m':=getD o0' b' 0;let f':=set o0' b' (QG m' v12' v11);let l':=GO a' v12' 0;.ite (decide (v105<v104)) (.ite (decide (0≤v105)&&decide (v105<(length v1:Int))) (.ite (zx v6&&zx d') (.ite (zx a'&&zx v12'&&decide (i'≤0)&&decide (0≤j')) (.ite h' (.ite e' (.ite (zx c'&&zx l'&&decide (i'≤v11)&&decide (v11≤j')) (.ite h' (.ite e' (L7 v9 v10 v11n v12 v13n v14 o1 o0 v0o v0n v0c v1 v5 v6 (NR c' l' v11) (zc .u64 (OL v6 d'+Nr a' v12' 0)) v104 (zc .i64 (v105+1)) o1' (set o0' n' (QG c' l' v11))) .fail) .fail) .fail) .fail) .fail) .fail) .fail) .fail) (.ite k' (.ite g' (.ite (zx m'&&zx v12'&&decide (i'≤v11)&&decide (v11≤j')) (.ite k' (.ite g' (.ite (NR m' v12' v11==0) (.ite (decide (0≤v14)&&decide (v14<(↑v13n:Int))) (.ite (decide (toNat v14<length o1')) (L4 v9 v10 v11n v12 v13n (zc .i64 (v14-1)) (set o1' (toNat v14) v6) f') .fail) .fail) (L8 v9 v10 v11n v12 v13n v14 o1 o0 v0o v0n v0c v1 v5 v6 0 v5 0 o1' f')) .fail) .fail) .fail) .fail) .fail):=by kernel_rfl
theorem EF(v9:Int)(v10:List Int)(v11n:Nat)(v12:Int)(v13n:Nat)(v14:Int)(o1 o0:List Int)(v0o v0n v0c:Nat)(v1:List Int)(v5 v6 v17 v156 v157:Int)(o1':List Int)(o0':List Int):stepT H5 (L8 v9 v10 v11n v12 v13n v14 o1 o0 v0o v0n v0c v1 v5 v6 v17 v156 v157 o1' o0')=let b':=decide (zm (toNat v157) v0o<length o0');let c':=getD v1 (toNat v157) 0;let d':=decide (zm (toNat v5) v0o<length o0');let e':=decide (0≤v157)&&decide (v157<(↑v0n:Int));let f':=decide (0≤v5)&&decide (v5<(↑v0n:Int));let g':=zm (toNat v157) v0o;let h':=zm (toNat v5) v0o;let a':=getD o0' g' 0;.ite (decide (v157<v156)) (.ite e' (.ite b' (.ite (decide (0≤v157)&&decide (v157<(length v1:Int))) (.ite (zx a'&&zx c'&&decide ((0:Sh.T (Bi [u64]))≤v17)&&decide (v17≤(1:Sh.T (Bi [u64])))) (.ite e' (.ite b' (L8 v9 v10 v11n v12 v13n v14 o1 o0 v0o v0n v0c v1 v5 v6 (Nr a' c' v17) v156 (zc .i64 (v157+1)) o1' (set o0' g' (GO a' c' v17))) .fail) .fail) .fail) .fail) .fail) .fail) (.ite f' (.ite d' (.ite f' (.ite d' (.ite (decide (0≤v14)&&decide (v14<(↑v13n:Int))) (.ite (decide (toNat v14<length o1')) (L4 v9 v10 v11n v12 v13n (zc .i64 (v14-1)) (set o1' (toNat v14) (zc .u64 (v6-1))) (set o0' h' (zc .u64 (getD o0' h' 0+v17)))) .fail) .fail) .fail) .fail) .fail) .fail):=by kernel_rfl
end T287
end
end Go.Pe
end
section
namespace Go.Pe
open Sp
open Go.Det
namespace T287
variable {Q:PV→Ob→Prop}
theorem oY{r x d:Int}(hd:0<d)(hr:0≤r∧r<d)(hx:0≤x∧x<18446744073709551616):Sp.dq r x d*d+Sp.dr r x d=r*18446744073709551616+x∧0≤Sp.dq r x d∧Sp.dq r x d<18446744073709551616∧0≤Sp.dr r x d∧Sp.dr r x d<d:=by
 unfold Sp.dq Sp.dr;have h:=zC (r*18446744073709551616+x) d;rw[zn]at h;refine⟨h,ya (by omega) (by omega),z7 hd (by omega),zR _ (by omega),zO _ hd⟩
theorem Aj(a:List Int)(d:Int)(ha:At An a)(hd:0<d∧d<18446744073709551616)(hm:a.length≤20000)(hq:∀q r ob,At An q→(0≤r∧r<d)→Ao a=Ao q*d+r→Q (.tup [.dat CS (Az q),.dat CS (Az [r])]) ob):∀(i:Nat) (q:List Int) (r:Int),i+q.length=a.length→At An q→(0≤r∧r<d)→ze An (a.drop i)=ze An q*d+r→
  Ends H5 (L1 a [d] a.length r ((i:Int)-1) (zp i 0++q)) Q
 |0,q,r,hl,hdq,hr,he=>by
  have ht:((zp 0 0++q).take a.length)=q:=by
   rw[List.replicate_zero,List.nil_append];exact zz (by omega)
  refine zE (Ai ..) (yc (by simp) ?_);rw[ht];refine zd (Ak (by simp;omega) (DQ (by omega) hdq)) (zd (Ak rfl (DQ (by simp) (fun x hx=>by rw[List.mem_singleton]at hx;subst hx;exact⟨hr.1,by show x<18446744073709551616;omega⟩))) (zS (hq q r _ hdq hr he)))
 |i+1,q,r,hl,hdq,hr,he=>by
  have e1:(((i+1:Nat):Int)-1)=(i:Int):=by omega
  have gx:=AO ha i;obtain⟨d1,d2,d3,d4,d5⟩:=oY hd.1 hr (zZ gx);have da:a.drop i=a.getD i 0::a.drop (i+1):=by
   rw[zu,zM (by omega)];exact yj (by omega)
  have es:∀x,(zp (i+1) (0:Int)++q).set i x=zp i 0++(x::q):=by
   intro x;rw[List.replicate_succ',zF];exact Cw _ _ _ _ (by simp)
  rw[e1];refine zE (Ai ..) (zd (by simp) ?_);rw[zg,es,wr ((i:Int)-1) (by omega) (by omega)];refine zd (by simp;omega) (zd (by simp) (zd ?_ (zd (by simp;omega) (zd (by simp;omega) ?_))))
  ·exact Ak (Ak (Ak (Cm hr.1 (by omega)) gx) (Cm (by show 0≤d;omega) hd.2)) (decide_eq_true hr.2)
  ·refine Aj a d ha hd hm hq i _ _ (by simp;omega) (fun x hx=>?_) ⟨d4,d5⟩ ?_
   ·rcases List.mem_cons.1 hx with rfl|hx
    ·exact⟨d2,d3⟩
    ·exact hdq x hx
   ·rw[da];show a.getD i 0+(18446744073709551616:Int)*ze An (a.drop (i+1))=(Sp.dq r (a.getD i 0) d+(18446744073709551616:Int)*ze An q)*d+Sp.dr r (a.getD i 0) d;rw[he,zA,zt,zk];omega
end T287
end Go.Pe
end
section
namespace Go.Sp
theorem Ri{B P u0 u1 u2 u' v1 v2 v' q r:Int}(hP:0<P)(hv:0≤v')(hu:u'<P)(hq:0≤q)(he:q*v1+r=u0*B+u1)(h:r*B+u2<q*v2):
  ((u0*B+u1)*B+u2)*P+u'<q*((v1*B+v2)*P+v'):=by
 have e:q*(v1*B+v2)=q*v1*B+q*v2:=by rw[zt,zk]
 have e2:(u0*B+u1)*B=q*v1*B+r*B:=by rw[←he,zA]
 have h1:(u0*B+u1)*B+u2+1≤q*(v1*B+v2):=by rw[e,e2];omega
 have h2:=zh h1 (zq hP);have h3:0≤q*v':=zB hq hv;rw[zt q, ←zk];rw[zA,zy]at h2;omega
theorem Rj{B P u0 u1 u2 u' v1 v2 v' q r:Int}(hP:0<P)(hv:0≤v'∧v'<P)(hu:0≤u')(hq:0≤q∧q<B)(hv1:1≤v1)(hv2:0≤v2)(he:q*v1+r=u0*B+u1)(h:q*v2≤r*B+u2):
  q*((v1*B+v2)*P+v')<((u0*B+u1)*B+u2)*P+u'+((v1*B+v2)*P+v'):=by
 have e:q*(v1*B+v2)=q*v1*B+q*v2:=by rw[zt,zk]
 have e2:(u0*B+u1)*B=q*v1*B+r*B:=by rw[←he,zA]
 have h1:q*(v1*B+v2)≤(u0*B+u1)*B+u2:=by rw[e,e2];omega
 have h2:=zh h1 (zq hP);have h3:q*v'≤(B-1)*P:=Int.le_trans (zl (zq hv.2) hq.1) (zh (by omega) (zq hP));have h4:B≤v1*B+v2:=by
  have:=zh hv1 (show 0≤B by omega);omega
 have h5:=zh h4 (zq hP);rw[yk,zy]at h3;rw[zt q, ←zk];omega
end Go.Sp
end
section
namespace Go.Sp
theorem Gd(b:Int):∀(l:List Int) (i:Nat) (x:Int),i<l.length→val b (l.set i x)=val b l+b^i*(x-l.getD i 0)
 |[],i,x,h=>by simp at h
 |d::l,0,x,_=>by
  show x+b*val b l=d+b*val b l+b^0*(x-d);rw[zH,zy];omega
 |d::l,i+1,x,h=>by
  have:=Gd b l i x (by simpa using h);show d+b*val b (l.set i x)=d+b*val b l+b^(i+1)*(x-l.getD i 0);rw[this,zt,zr,zn (b^i) b,zk,z8]
theorem FN{b:Int}{l:List Int}(h:At b l)(i:Nat){x:Int}(hx:0≤x∧x<b):At b (l.set i x):=by
 intro d hd;rcases List.mem_or_eq_of_mem_set hd with hd|rfl
 ·exact h d hd
 ·exact hx
theorem Eb{b:Int}{l r:List Int}(h1:At b l)(h2:At b r):At b (l++r):=by
 intro d hd;rcases yr.1 hd with hd|hd
 ·exact h1 d hd
 ·exact h2 d hd
theorem NB{b:Int}(hb:0<b){l:List Int}(h:At b l)(i:Nat):0≤l.getD i 0∧l.getD i 0<b:=by
 rcases Nat.lt_or_ge i l.length with hi|hi
 ·have:l.getD i 0∈l:=by rw[zu,zM hi];exact List.getElem_mem hi
  exact h _ this
 ·rw[zu,List.getElem?_eq_none hi];exact⟨ym _,hb⟩
theorem Co{l:List Int}{i:Nat}(h:i<l.length):l.drop i=l.getD i 0::l.drop (i+1):=by
 rw[zu,zM h];exact yj h
theorem FD(p r:List Int)(i j:Nat)(h:p.length=j):(p++r).getD (i+j) 0=r.getD i 0:=by
 subst h;rw[zu,zu,List.getElem?_append_right (by omega),yf]
theorem Qe(p r:List Int)(i j:Nat)(x:Int)(h:p.length=j):(p++r).set (i+j) x=p++r.set i x:=by
 subst h;rw[List.set_append_right _ _ (by omega),yf]
theorem Zj(b:Int)(r:List Int)(k:Nat)(hl:k+3≤r.length)(hz:val b (r.drop (k+3))=0):
  val b r=((r.getD (k+2) 0*b+r.getD (k+1) 0)*b+r.getD k 0)*b^k+val b (r.take k):=by
 have p1:b^(k+1)=b^k*b:=zr ..;have p2:b^(k+2)=b^k*b*b:=by rw[←p1];exact zr ..
 rw[Ca b r (k+3) hl,hz,Ax,Ax,Ax,p1,p2,zW,yd];generalize b^k=P;generalize r.getD (k+2) 0=x;generalize r.getD (k+1) 0=y;generalize r.getD k 0=z;have e1:P*b*b*x=x*b*b*P:=by rw[zn (P*b*b) x,zn P b,zk b P b,zn P b, ←zk, ←zk]
 have e2:P*b*y=y*b*P:=by rw[zn (P*b) y,zn P b,zk]
 have e3:P*z=z*P:=zn _ _;have e4:((x*b+y)*b+z)*P=x*b*b*P+y*b*P+z*P:=by rw[zA,zA,zA]
 rw[e4];omega
theorem Zu(b:Int)(v:List Int)(k:Nat)(hl:v.length=k+2):
  val b v=(v.getD (k+1) 0*b+v.getD k 0)*b^k+val b (v.take k):=by
 have h0:val b (v.drop (k+2))=0:=by rw[List.drop_eq_nil_of_le (by omega)];rfl
 have p1:b^(k+1)=b^k*b:=zr ..;rw[Ca b v (k+2) (by omega),h0,Ax,Ax,p1,zW,yd];generalize b^k=P;generalize v.getD (k+1) 0=y;generalize v.getD k 0=z;have e2:P*b*y=y*b*P:=by rw[zn (P*b) y,zn P b,zk]
 have e3:P*z=z*P:=zn _ _;rw[e2,e3,zA];omega
theorem Xs{b:Int}(hb:2≤b){v:List Int}(hd:At b v)(hn:nz v){k:Nat}(h1:b^k≤val b v)(h2:val b v<b^(k+1)):v.length=k+1:=by
 have hp:=AP (show 0<b by omega) k;have hne:v≠[]:=by rintro rfl;simp[val]at h1;omega
 have a1:=Bv (by omega) hd;have a2:=CU (by omega) hd hn hne;rcases Nat.lt_trichotomy v.length (k+1)with h|h|h
 ·have:=AT (show 1≤b by omega) (show v.length≤k by omega);omega
 ·exact h
 ·have:=AT (show 1≤b by omega) (show k+1≤v.length-1 by omega);omega
theorem H8{b:Int}(hb:2≤b){r:List Int}(hd:At b r){n:Nat}(hl:n≤r.length)(h:val b r<b^n):val b (r.drop n)=0:=by
 have h0:=Aw (show 0≤b by omega) (FF hd n);have h1:=Aw (show 0≤b by omega) (AH hd n);rw[Ca b r n hl]at h;have hp:=AP (show 0<b by omega) n;rcases zP 0 (val b (r.drop n))with g|g
 ·have:=zl (show 1≤val b (r.drop n)by omega) (show 0≤b^n by omega);omega
 ·omega
theorem On{b:Int}(hb:2≤b){r:List Int}(hd:At b r){n:Nat}(hl:n≤r.length)(h:val b (r.drop n)=0):val b r<b^n:=by
 have:=Bv (show 0<b by omega) (AH hd n);rw[zN,z5 hl]at this;rw[Ca b r n hl,h];omega
theorem XV{b c d x y X:Int}(hc:0<c)(hb:b=c*d):(x+b*(y+b*X))/c=(x/c+(y % c)*d)+b*((y+b*X)/c):=by
 subst hb;have h1:(x+c*d*(y+c*d*X))/c=x/c+d*(y+c*d*X):=by
  rw[zk c d,Int.add_mul_ediv_left _ _ (by omega)]
 have h2:(y+c*d*X)/c=y/c+d*X:=by
  rw[zk c d,Int.add_mul_ediv_left _ _ (by omega)]
 have h3:=zC y c;rw[h1,h2];have e1:d*(y+c*d*X)=d*(c*(y/c)+y % c+c*d*X):=by rw[h3]
 rw[e1,zt,zt,zt (c*d)];have e2:d*(c*(y/c))=c*d*(y/c):=by rw[←zk,zn d c]
 have e3:d*(y % c)=(y % c)*d:=zn _ _;have e4:d*(c*d*X)=c*d*(d*X):=by rw[←zk,zn d (c*d),zk]
 rw[e2,e3,e4];omega
theorem RT{b c d x k:Int}(hc:0<c)(hd:0<d)(hb:b=c*d)(hk:0≤k∧k<c)(hx:0≤x∧x<b):
  (x*c) % b=(x % d)*c∧(x % d)*c+k<b∧0≤(x % d)*c∧0≤x/d∧x/d<c∧(x % d)*c+b*(x/d)=x*c:=by
 subst hb;have h3:=zC x d;have m0:=zR x (show d≠0 by omega);have m1:=zO x hd;have q0:0≤x/d:=ya hx.1 (by omega);have q1:x/d<c:=z7 hd (by have:=hx.2;omega);have p0:0≤(x % d)*c:=zB m0 (by omega);have p1:(x % d)*c≤(d-1)*c:=zh (by omega) (by omega);have p2:(d-1)*c=c*d-c:=by rw[yk,zy,zn]
 have e:(x % d)*c+c*d*(x/d)=x*c:=by
  conv=>rhs;rw[←h3]
  rw[zA,zk c d,zn c (d*(x/d))];omega
 refine⟨?_,by omega,p0,q0,q1,e⟩;rw[←e,Int.add_mul_emod_self_left];exact Int.emod_eq_of_lt p0 (by omega)
end Go.Sp
namespace Go.Sp
theorem Kp{B P u0 u1 u2 u' v1 v2 v' q r:Int}(hP:0<P)(hB:0<B)(hq:0≤q)(hv:0≤v')(hv2:0≤v2)(hu:u'<P)(hu2:u2<B)(he:q*v1+r=u0*B+u1)(h:r<v1):
  ((u0*B+u1)*B+u2)*P+u'<(q+1)*((v1*B+v2)*P+v'):=by
 have h1:u0*B+u1+1≤(q+1)*v1:=by rw[zA,zy];omega
 have h2:=zh h1 (zq hB);have h3:(u0*B+u1)*B+u2+1≤(q+1)*v1*B:=by
  rw[zA,zy]at h2;omega
 have h4:=zh h3 (zq hP);rw[zA,zy]at h4;have h5:0≤(q+1)*(v2*P):=zB (by omega) (zB hv2 (zq hP));have h6:0≤(q+1)*v':=zB (by omega) hv;have e:(q+1)*((v1*B+v2)*P+v')=(q+1)*v1*B*P+(q+1)*(v2*P)+(q+1)*v':=by
  rw[zA (v1*B),zt,zt];congr 2;rw[zk,zk,zk]
 rw[e];omega
end Go.Sp
end
section
namespace Go.Pe
open Sp
open Go.Det
theorem Q1{q x y c b:Int}(hq:zx q=true)(hx:zx x=true)(hy:zx y=true)(hc:zx c=true)(hb:0≤b∧b≤1):
  zx (G5 q x)=true∧zx (GO (G5 q x) c 0)=true∧zc .u64 (OL q x+Nr (G5 q x) c 0)=(q*x+c)/18446744073709551616∧zx ((q*x+c)/18446744073709551616)=true∧
  zx (QG y (GO (G5 q x) c 0) b)=true∧(0≤NR y (GO (G5 q x) c 0) b∧NR y (GO (G5 q x) c 0) b≤1)∧
  c+b+(QG y (GO (G5 q x) c 0) b-y)=18446744073709551616*((q*x+c)/18446744073709551616+NR y (GO (G5 q x) c 0) b)-q*x:=by
 have hq:=zZ hq;have hx:=zZ hx;have hc:=zZ hc;have h0:0≤q*x:=zB hq.1 hx.1;have h1:q*x≤18446744073709551615*18446744073709551615:=by
  have a:=zl (show x≤18446744073709551615 by omega) hq.1;have b:=zh (show q≤18446744073709551615 by omega) (show(0:Int)≤18446744073709551615 by omega);omega
 have hl:zx (GO (G5 q x) c 0)=true:=by unfold GO;exact Cm (by omega) (by omega)
 obtain⟨s1,s2,s3⟩:=MZ hy hl hb;refine⟨?_,hl,?_,?_,s1,s2,?_⟩
 ·unfold G5;exact Cm (by omega) (by omega)
 ·unfold G5 OL Nr;rw[Jo];generalize q*x=P at*;omega
 ·generalize q*x=P at*;exact Cm (by omega) (by omega)
 ·generalize NR y (GO (G5 q x) c 0) b=h at*;generalize QG y (GO (G5 q x) c 0) b=l at*;unfold GO G5 at s3;generalize q*x=P at*;omega
namespace T287
variable {Q:PV→Ob→Prop}
theorem gw{lo r:List Int}{j:Nat}(h:lo.length=j)(i:Nat):(lo++r).getD (zm i j) 0=r.getD i 0:=FD lo r i j h
theorem sw{lo r:List Int}{j:Nat}(h:lo.length=j)(i:Nat)(x:Int):(lo++r).set (zm i j) x=lo++r.set i x:=Qe lo r i j x h
theorem lw{lo r:List Int}{j i:Nat}(h:lo.length=j)(hi:i<r.length):decide (zm i j<(lo++r).length)=true:=by
 refine decide_eq_true ?_;show i+j<_;rw[List.length_append];omega
theorem HL(r:List Int)(i n:Nat)(x:Int)(h:i<n):(r.set i x).drop n=r.drop n:=by
 rw[List.drop_set,if_pos h]
theorem BN(v9:Int)(v10:List Int)(v11n:Nat)(v12:Int)(v13n:Nat)(o1 o0:List Int)(v0c:Nat)(v:List Int)(n j:Nat)(lo:List Int)(m:Nat)(q W:Int)(o1':List Int)
  (hn:v.length=n) (hn9:n≤9000) (hm:n+1≤m) (hlo:lo.length=j) (hjv:j<v13n) (hj1:j<o1'.length) (hv:At An v) (hq:zx q=true)
  (h0:∀r:List Int,r.length=m→At An r→ze An (r.drop (n+1))=0→ze An r=W-q*ze An v→Ends H5 (L4 v9 v10 v11n v12 v13n (zc .i64 ((j:Int)-1)) (o1'.set j q) (lo++r)) Q)
  (h1:∀r:List Int,r.length=m→At An r→ze An (r.drop (n+1))=0→ze An r=W-q*ze An v+(An:Int)^(n+1)→Ends H5 (L8 v9 v10 v11n v12 v13n j o1 o0 j (n+1) v0c v n q 0 n 0 o1' (lo++r)) Q):
  ∀(k i:Nat) (r:List Int) (b c:Int),i+k=n→r.length=m→At An r→ze An (r.drop (n+1))=0→zx c=true→(0≤b∧b≤1)→ze An r=W-q*ze An (v.take i)+(An:Int)^i*(c+b)→
   Ends H5 (L7 v9 v10 v11n v12 v13n j o1 o0 j (n+1) v0c v n q b c n i o1' (lo++r)) Q
 |0,i,r,b,c,hi,hr,hd,hz,hc,hb,he=>by
  have hi:i=n:=by omega
  subst hi;have gy:=AO hd i;obtain⟨s1,s2,s3⟩:=MZ gy hc hb;have hlw:decide (zm i j<(lo++r).length)=true:=lw hlo (by omega);have t1:(decide ((0:Int)≤(i:Int))&&decide ((i:Int)<((i+1:Nat):Int)))=true:=by simp;omega
  have hv1:v.take i=v:=zz (by omega);have hset:∀x:Int,0≤x∧x<18446744073709551616→(r.set i x).length=m∧At An (r.set i x)∧ze An ((r.set i x).drop (i+1))=0:=fun x hx=>
   ⟨by simp[hr],FN hd i hx,by rw[HL _ _ _ _ (by omega)];exact hz⟩
  obtain⟨e1,e2,e3⟩:=hset _ (zZ s1);have ev:ze An (r.set i (QG (r.getD i 0) c b))=W-q*ze An v+(An:Int)^(i+1)*NR (r.getD i 0) c b:=by
   rw[Gd _ _ _ _ (by omega),he,hv1,JB,z8, ←zt];congr 2;omega
  refine zE (Db ..) (yc (by simp) ?_);rw[zg,zg,gw hlo,sw hlo];refine zd t1 (zd hlw (zd (Ak (Ak (Ak gy hc) (decide_eq_true hb.1)) (decide_eq_true hb.2)) (zd t1 (zd hlw (zD (fun c1=>?_) (fun c1=>?_))))))
  ·have c1:NR (r.getD i 0) c b=0:=by simpa using c1
   refine zd (by simp;omega) (zd (decide_eq_true hj1) (h0 _ e1 e2 e3 ?_));rw[ev,c1,zW,yd]
  ·have c1:NR (r.getD i 0) c b≠0:=by simpa using c1
   refine h1 _ e1 e2 e3 ?_;rw[ev,show NR (r.getD i 0) c b=1 by omega,yn]
 |k+1,i,r,b,c,hi,hr,hd,hz,hc,hb,he=>by
  have gx:=AO hv i;have gy:=AO hd i;obtain⟨m1,m2,m3,m4,m5,m6,m7⟩:=Q1 hq gx gy hc hb;have hlw:decide (zm i j<(lo++r).length)=true:=lw hlo (by omega);have t1:(decide ((0:Int)≤(i:Int))&&decide ((i:Int)<((n+1:Nat):Int)))=true:=by simp;omega
  have e2:zc .i64 ((i:Int)+1)=((i+1:Nat):Int):=by rw[wr _ (by omega) (by omega)];omega
  refine zE (Db ..) (zd (by simp;omega) ?_);rw[zg,gw hlo,sw hlo,m3,e2];refine zd (by simp;omega) (zd (Ak hq gx) (zd (Ak (Ak (Ak m1 hc) rfl) rfl) (zd t1 (zd hlw (zd (Ak (Ak (Ak gy m2) (decide_eq_true hb.1)) (decide_eq_true hb.2)) (zd t1 (zd hlw ?_)))))));refine BN v9 v10 v11n v12 v13n o1 o0 v0c v n j lo m q W o1' hn hn9 hm hlo hjv hj1 hv hq h0 h1 k (i+1) _ _ _ (by omega) (by simp[hr]) (FN hd i (zZ m5)) (by rw[HL _ _ _ _ (by omega)];exact hz) m4 m6 ?_;rw[Gd _ _ _ _ (by omega),he,JB,Ax,zt q,zL q];have e:(An:Int)^i*(c+b)+(An:Int)^i*(QG (r.getD i 0) (GO (G5 q (v.getD i 0)) c 0) b-r.getD i 0)=(An:Int)^i*(18446744073709551616*((q*v.getD i 0+c)/18446744073709551616+NR (r.getD i 0) (GO (G5 q (v.getD i 0)) c 0) b))-(An:Int)^i*(q*v.getD i 0):=by
   rw[←zt, ←z6,m7]
  omega
theorem GF(v9:Int)(v10:List Int)(v11n:Nat)(v12:Int)(v13n:Nat)(o1 o0:List Int)(v0c:Nat)(v:List Int)(n j:Nat)(lo:List Int)(m:Nat)(q W:Int)(o1':List Int)
  (hn:v.length=n) (hn9:n≤9000) (hm:n+1≤m) (hlo:lo.length=j) (hjv:j<v13n) (hj1:j<o1'.length) (hv:At An v)
  (hW:0≤W+ze An v)
  (h0:∀r:List Int,r.length=m→At An r→ze An (r.drop (n+1))=0→ze An r=W+ze An v→Ends H5 (L4 v9 v10 v11n v12 v13n (zc .i64 ((j:Int)-1)) (o1'.set j (zc .u64 (q-1))) (lo++r)) Q):
  ∀(k i:Nat) (r:List Int) (c:Int),i+k=n→r.length=m→At An r→ze An (r.drop (n+1))=0→(0≤c∧c≤1)→ze An r=W+(An:Int)^(n+1)+ze An (v.take i)-(An:Int)^i*c→
   Ends H5 (L8 v9 v10 v11n v12 v13n j o1 o0 j (n+1) v0c v n q c n i o1' (lo++r)) Q
 |0,i,r,c,hi,hr,hd,hz,hc,he=>by
  have hi:i=n:=by omega
  subst hi;have gy:=zZ (AO hd i);have hlw:decide (zm i j<(lo++r).length)=true:=lw hlo (by omega);have t1:(decide ((0:Int)≤(i:Int))&&decide ((i:Int)<((i+1:Nat):Int)))=true:=by simp;omega
  have hv1:v.take i=v:=zz (by omega);have gm:0≤(r.getD i 0+c) % 18446744073709551616∧(r.getD i 0+c) % 18446744073709551616<18446744073709551616:=by omega
  have e1:(r.set i ((r.getD i 0+c) % 18446744073709551616)).length=m:=by simp[hr]
  have e2:At An (r.set i ((r.getD i 0+c) % 18446744073709551616)):=FN hd i gm;have e3:ze An ((r.set i ((r.getD i 0+c) % 18446744073709551616)).drop (i+1))=0:=by rw[HL _ _ _ _ (by omega)];exact hz
  have eb:=On (b:=An) (by decide) e2 (n:=i+1) (by omega) e3;refine zE (EF ..) (yc (by simp) ?_);rw[zg,zg,gw hlo,sw hlo,Jo (r.getD i 0+c)];refine zd t1 (zd hlw (zd t1 (zd hlw (zd (by simp;omega) (zd (decide_eq_true hj1) (h0 _ e1 e2 e3 ?_))))));have hp:=AP (b:=An) (by decide) i;rw[Gd _ _ _ _ (by omega),he,hv1]at eb ⊢;rcases show(r.getD i 0+c) % 18446744073709551616=r.getD i 0+c∨(r.getD i 0+c) % 18446744073709551616=r.getD i 0+c-18446744073709551616 by omega with g|g
  ·exfalso;rw[g,show r.getD i 0+c-r.getD i 0=c by omega]at eb;omega
  ·have ep:(An:Int)^(i+1)=(An:Int)^i*18446744073709551616:=zr ..;rw[g,show r.getD i 0+c-18446744073709551616-r.getD i 0=c-18446744073709551616 by omega,z6,ep];omega
 |k+1,i,r,c,hi,hr,hd,hz,hc,he=>by
  have gx:=AO hv i;have gy:=AO hd i;obtain⟨m1,m2,m3⟩:=IW gy gx hc;have hlw:decide (zm i j<(lo++r).length)=true:=lw hlo (by omega);have t1:(decide ((0:Int)≤(i:Int))&&decide ((i:Int)<((n+1:Nat):Int)))=true:=by simp;omega
  have e2:zc .i64 ((i:Int)+1)=((i+1:Nat):Int):=by rw[wr _ (by omega) (by omega)];omega
  refine zE (EF ..) (zd (by simp;omega) ?_);rw[zg,gw hlo,sw hlo,e2];refine zd t1 (zd hlw (zd (by simp;omega) (zd (Ak (Ak (Ak gy gx) (decide_eq_true hc.1)) (decide_eq_true hc.2)) (zd t1 (zd hlw ?_)))));refine GF v9 v10 v11n v12 v13n o1 o0 v0c v n j lo m q W o1' hn hn9 hm hlo hjv hj1 hv hW h0 k (i+1) _ _ (by omega) (by simp[hr]) (FN hd i (zZ m1)) (by rw[HL _ _ _ _ (by omega)];exact hz) m2 ?_;rw[Gd _ _ _ _ (by omega),he,JB,Ax];have e:(An:Int)^i*(GO (r.getD i 0) (v.getD i 0) c-r.getD i 0)-(An:Int)^i*c=(An:Int)^i*v.getD i 0-(An:Int)^i*(18446744073709551616*Nr (r.getD i 0) (v.getD i 0) c):=by
   rw[←z6, ←z6];congr 1;omega
  omega
theorem dC(v9:Int)(v10:List Int)(v11n:Nat)(v12:Int)(v13n:Nat)(o1 o0:List Int)(v0c:Nat)(v:List Int)(n j:Nat)(lo:List Int)(m:Nat)(r0 o1':List Int)
  (hn:v.length=n) (hn9:n≤9000) (hm:n+1≤m) (hlo:lo.length=j) (hjv:j<v13n) (hj1:j<o1'.length) (hv:At An v)
  (hr:r0.length=m) (hd:At An r0) (hz:ze An (r0.drop (n+1))=0)
  (hfin:∀(q:Int) (r:List Int),r.length=m→At An r→(0≤q∧q<18446744073709551616)→ze An r<ze An v→ze An r=ze An r0-q*ze An v→Ends H5 (L4 v9 v10 v11n v12 v13n (zc .i64 ((j:Int)-1)) (o1'.set j q) (lo++r)) Q)
  (q:Int) (hq:zx q=true) (h1:ze An r0<(q+1)*ze An v) (h2:q*ze An v<ze An r0+ze An v):
  Ends H5 (L7 v9 v10 v11n v12 v13n j o1 o0 j (n+1) v0c v n q 0 0 n 0 o1' (lo++r0)) Q:=by
 have gq:=zZ hq;have hW0:=Aw (b:=An) (by decide) hd;have hV0:=Aw (b:=An) (by decide) hv;rw[zA,zy]at h1;refine BN v9 v10 v11n v12 v13n o1 o0 v0c v n j lo m q (ze An r0) o1' hn hn9 hm hlo hjv hj1 hv hq (fun r a b c d=>hfin q r a b gq (by omega) d) (fun r a b c d=>?_) n 0 r0 0 0 (by omega) hr hd hz (by decide) (by decide) (by simp[ze]);have hb:=On (b:=An) (by decide) b (n:=n+1) (by omega) c;have hq1:1≤q:=by
  rcases zP 0 q with g|g
  ·exact g
  ·have:q=0:=by omega
   subst this;rw[yu]at d;omega
 have ew:zc .u64 (q-1)=q-1:=wu _ (by omega) (by omega);refine GF v9 v10 v11n v12 v13n o1 o0 v0c v n j lo m q (ze An r0-q*ze An v) o1' hn hn9 hm hlo hjv hj1 hv (by omega) (fun r' a' b' c' d'=>?_) n 0 r 0 (by omega) a b c (by decide) (by rw[d];simp[ze]);rw[ew];refine hfin (q-1) r' a' b' (by omega) (by omega) ?_;rw[d',yk,zy];omega
end T287
end Go.Pe
end
section
namespace Go.Pe
open Sp
open Go.Det
namespace T287
variable {Q:PV→Ob→Prop}
theorem nK(q x:Int):OL q x*18446744073709551616+G5 q x=q*x∧0≤G5 q x∧G5 q x<18446744073709551616:=by
 unfold OL G5;generalize q*x=P;omega
theorem BF(v9:Int)(v10:List Int)(v11n:Nat)(v12:Int)(v13n:Nat)(o1 o0:List Int)(v0c:Nat)(v:List Int)(k j:Nat)(lo:List Int)(m:Nat)(r0 o1':List Int)
  (hn:v.length=k+2) (hn9:k+2≤9000) (hm:k+3≤m) (hlo:lo.length=j) (hjv:j<v13n) (hj1:j<o1'.length) (hv:At An v)
  (hr:r0.length=m) (hd:At An r0) (hz:ze An (r0.drop (k+3))=0) (hv1:1≤v.getD (k+1) 0)
  (hfin:∀(q:Int) (r:List Int),r.length=m→At An r→(0≤q∧q<18446744073709551616)→ze An r<ze An v→ze An r=ze An r0-q*ze An v→Ends H5 (L4 v9 v10 v11n v12 v13n (zc .i64 ((j:Int)-1)) (o1'.set j q) (lo++r)) Q):
  ∀(f:Nat) (q r o:Int),0≤q→q<f→q<18446744073709551616→zx r=true→(o=0∨o=1)→q*v.getD (k+1) 0+(r+18446744073709551616*o)=r0.getD (k+2) 0*18446744073709551616+r0.getD (k+1) 0→ze An r0<(q+1)*ze An v→
   Ends H5 (L5 v9 v10 v11n v12 v13n j o1 o0 j (k+3) v0c v ((k+2:Nat):Int) q r o o1' (lo++r0)) Q
 |0,q,r,o,h0,hf,_,_,_,_,_=>by omega
 |f+1,q,r,o,h0,hf,hB,hr64,ho,he,hup=>by
  have uq:zx q=true:=Cm h0 hB;have uv2:=AO hv k;have uv1:=AO hv (k+1);have uu2:=AO hd k;have gv2:=zZ uv2;have gv1:=zZ uv1;have gu2:=zZ uu2;have gr:=zZ hr64;have hP:=AP (b:=An) (by decide) k;have hW:=Zj An r0 k (by omega) hz;have hV:=Zu An v k hn;have hu':=Aw (b:=An) (by decide) (AH hd k);have hu'':=Bv (b:=An) (by decide) (AH hd k);have hv':=Aw (b:=An) (by decide) (AH hv k);have hv'':=Bv (b:=An) (by decide) (AH hv k);rw[zN,z5 (by omega)]at hu'' hv'';have exit:q*v.getD k 0≤(r+18446744073709551616*o)*18446744073709551616+r0.getD k 0→Ends H5 (L7 v9 v10 v11n v12 v13n j o1 o0 j (k+3) v0c v ((k+2:Nat):Int) q 0 0 ((k+2:Nat):Int) 0 o1' (lo++r0)) Q:=by
   intro hx;refine dC v9 v10 v11n v12 v13n o1 o0 v0c v (k+2) j lo m r0 o1' hn hn9 hm hlo hjv hj1 hv hr hd hz hfin q uq hup ?_;rw[hW,hV];exact Rj hP ⟨hv',hv''⟩ hu' ⟨h0,hB⟩ hv1 gv2.1 he hx
  have e1:zc .i64 (((k+2:Nat):Int)-2)=(k:Int):=by rw[wr _ (by omega) (by omega)];omega
  have e2:zc .i64 (((k+2:Nat):Int)-1)=((k+1:Nat):Int):=by rw[wr _ (by omega) (by omega)];omega
  obtain⟨w1,w2,w3⟩:=nK q (v.getD k 0);have hlw:decide (zm k j<(lo++r0).length)=true:=lw hlo (by omega);refine zE (CF ..) (zD (fun c=>?_) (fun c=>?_))
  ·have c:o=0:=by simpa using c
   subst c;rw[e1,e2,zg,zg,gw hlo];refine zd (by simp;omega) (zd (Ak uq uv2) ?_);have dec:r*18446744073709551616+r0.getD k 0<q*v.getD k 0→Ends H5 (L5 v9 v10 v11n v12 v13n j o1 o0 j (k+3) v0c v ((k+2:Nat):Int) (zc .u64 (q-1)) (GO r (v.getD (k+1) 0) 0) (Nr r (v.getD (k+1) 0) 0) o1' (lo++r0)) Q:=by
    intro hx;obtain⟨a1,a2,a3⟩:=IW hr64 uv1 (c:=0) (by decide);have hq1:1≤q:=by
     rcases zP 0 q with g|g
     ·exact g
     ·have:q=0:=by omega
      subst this;rw[yu]at hx;omega
    rw[wu (q-1) (by omega) (by omega)];refine BF v9 v10 v11n v12 v13n o1 o0 v0c v k j lo m r0 o1' hn hn9 hm hlo hjv hj1 hv hr hd hz hv1 hfin f (q-1) _ _ (by omega) (by omega) (by omega) a1 (by omega) ?_ ?_
    ·rw[yk,zy,a3];omega
    ·have he':q*v.getD (k+1) 0+r=r0.getD (k+2) 0*18446744073709551616+r0.getD (k+1) 0:=by omega
     have:=Ri (B:=An) (u0:=r0.getD (k+2) 0) (u1:=r0.getD (k+1) 0) (u2:=r0.getD k 0) hP hv' hu'' h0 (v1:=v.getD (k+1) 0) (v2:=v.getD k 0) (r:=r) he' hx;rw[←hW, ←hV]at this;rw[show q-1+1=q by omega];exact this
   refine zD (fun c1=>exit ?_) (fun c1=>zD (fun c2=>zd (by simp;omega) (zd hlw (zD (fun c3=>exit ?_) (fun c3=>zd (by simp;omega) (zd (Ak (Ak (Ak hr64 uv1) rfl) rfl) (dec ?_)))))) (fun c2=>zd (by simp;omega) (zd (Ak (Ak (Ak hr64 uv1) rfl) rfl) (dec ?_))))
   ·have c1:=of_decide_eq_true c1;omega
   ·have c2:OL q (v.getD k 0)=r:=by simpa using c2
    have c3:=of_decide_eq_true c3;omega
   ·have c2:OL q (v.getD k 0)=r:=by simpa using c2
    have c3:=of_decide_eq_false c3;omega
   ·have c1:=of_decide_eq_false c1;have c2:OL q (v.getD k 0)≠r:=by simpa using c2
    omega
  ·have c:o≠0:=by simpa using c
   refine exit ?_;have a:=zl (show v.getD k 0≤18446744073709551615 by omega) h0;omega
theorem A1(s:Int)(v:List Int)(k la:Nat)(hn:v.length=k+2)(hla:la≤9000)(hkl:k+2≤la)(hv:At An v)(hv1:1≤v.getD (k+1) 0)(W0:Int)
  (hq:∀u qs:List Int,u.length=la+1→At An u→At An qs→ze An u<ze An v→qs.length=la-(k+2)+1→W0=ze An u+ze An v*ze An qs→Ends H5 (L6 s (la+1) ((k+2:Nat):Int) (la-(k+2)+1) ((k+2:Nat):Int) 0 qs u) Q):
  ∀(t:Nat) (u qs:List Int),t+qs.length=la-(k+2)+1→u.length=la+1→At An u→At An qs→ze An (u.drop t)<ze An v→W0=ze An u+ze An v*((An:Int)^t*ze An qs)→
   Ends H5 (L4 s v (la+1) ((k+2:Nat):Int) (la-(k+2)+1) ((t:Int)-1) (zp t 0++qs) u) Q
 |0,u,qs,hl,hu,hd,hdq,hlt,he=>by
  refine zE (BA ..) (yc (by simp) ?_);exact hq u qs hu hd hdq hlt (by omega) (by rw[he,zH,zy])
 |j+1,u,qs,hl,hu,hd,hdq,hlt,he=>by
  obtain⟨lo,r,rfl,hlo⟩:∃lo r:List Int,u=lo++r∧lo.length=j:=⟨u.take j,u.drop j,(List.take_append_drop j u).symm,by rw[zN];omega⟩;have hdlo:At An lo:=fun d hd'=>hd d (yr.2 (.inl hd'))
  have hdr:At An r:=fun d hd'=>hd d (yr.2 (.inr hd'))
  have hrl:r.length=la+1-j:=by rw[List.length_append]at hu;omega
  have hdrop:∀z:List Int,(lo++z).drop j=z:=fun z=>by rw[←hlo];exact List.drop_left
  have hr0:r=r.getD 0 0::r.drop 1:=by
   have:=Co (l:=r) (i:=0) (by omega);rw[List.drop_zero]at this;exact this
  have hd1:(lo++r).drop (j+1)=r.drop 1:=by rw[Nat.add_comm j 1,Nat.add_comm 1 j, ←List.drop_drop,hdrop]
  rw[hd1]at hlt;have g0:=NB (b:=An) (by decide) hdr 0;have hvr:ze An r=r.getD 0 0+18446744073709551616*ze An (r.drop 1):=by
   conv=>lhs;rw[hr0]
   rfl
  have hVlt:=Bv (b:=An) (by decide) hv;rw[hn]at hVlt;have g0:0≤r.getD 0 0∧r.getD 0 0<18446744073709551616:=g0;have hrV:ze An r<18446744073709551616*ze An v:=by rw[hvr];omega
  have hz:ze An (r.drop (k+3))=0:=by
   refine H8 (b:=An) (by decide) hdr (by omega) ?_;have ep:(An:Int)^(k+3)=(An:Int)^(k+2)*18446744073709551616:=zr ..;rw[ep];omega
  have uu0:=AO hdr (k+2);have uu1:=AO hdr (k+1);have uu2:=AO hdr k;have uv1:=AO hv (k+1);have gu0:=zZ uu0;have gu1:=zZ uu1;have gu2:=zZ uu2;have gv1:=zZ uv1;have gv2:=zZ (AO hv k);have hP:=AP (b:=An) (by decide) k;have hW:=Zj An r k (by omega) hz;have hV:=Zu An v k hn;have hu':=Aw (b:=An) (by decide) (AH hdr k);have hu'':=Bv (b:=An) (by decide) (AH hdr k);have hv':=Aw (b:=An) (by decide) (AH hv k);rw[zN,z5 (by omega)]at hu'';have hle:r.getD (k+2) 0≤v.getD (k+1) 0:=by
   have a1:=Ca An (r.drop 1) (k+1) (by rw[List.length_drop];omega);have a2:(r.drop 1).drop (k+1)=r.getD (k+2) 0::r.drop (k+3):=by
    rw[List.drop_drop,show 1+(k+1)=k+2 by omega];exact Co (by omega)
   have a3:ze An (r.getD (k+2) 0::r.drop (k+3))=r.getD (k+2) 0:=by
    show r.getD (k+2) 0+(An:Int)*ze An (r.drop (k+3))=_;rw[hz];omega
   rw[a2,a3]at a1;have b1:ze An v=ze An (v.take (k+1))+(An:Int)^(k+1)*v.getD (k+1) 0:=by
    rw[←Ax,zz (by omega)]
   have b2:=Bv (b:=An) (by decide) (AH hv (k+1));rw[zN,z5 (by omega)]at b2;have c1:=Aw (b:=An) (by decide) (AH (FF hdr 1) (k+1));have c2:(An:Int)^(k+1)*r.getD (k+2) 0<(An:Int)^(k+1)*(v.getD (k+1) 0+1):=by
    rw[zt,yn];omega
   have:=zJ c2 (zq (AP (by decide) (k+1)));omega
  have hfin:∀(q:Int) (r':List Int),r'.length=la+1-j→At An r'→(0≤q∧q<18446744073709551616)→ze An r'<ze An v→ze An r'=ze An r-q*ze An v→Ends H5 (L4 s v (la+1) ((k+2:Nat):Int) (la-(k+2)+1) (zc .i64 ((j:Int)-1)) ((zp (j+1) 0++qs).set j q) (lo++r')) Q:=by
   intro q r' h1 h2 h3 h4 h5;have es:(zp (j+1) (0:Int)++qs).set j q=zp j 0++(q::qs):=by
    rw[List.replicate_succ',zF];exact Cw _ _ _ _ (by simp)
   rw[es,wr ((j:Int)-1) (by omega) (by omega)];refine A1 s v k la hn hla hkl hv hv1 W0 hq j (lo++r') (q::qs) (by simp;omega) (by simp;omega) (Eb hdlo h2) (fun d hd'=>?_) (by rw[hdrop];exact h4) ?_
   ·rcases List.mem_cons.1 hd' with rfl|hd'
    ·exact h3
    ·exact hdq d hd'
   ·rw[he,Cy,Cy,hlo,h5,JB];show ze An lo+(An:Int)^j*ze An r+ze An v*((An:Int)^j*(18446744073709551616*ze An qs))=ze An lo+(An:Int)^j*(ze An r-q*ze An v)+ze An v*((An:Int)^j*(q+18446744073709551616*ze An qs));have x1:ze An v*((An:Int)^j*q)=(An:Int)^j*(q*ze An v):=by
     rw[zL,zn (ze An v) q]
    rw[z6,zt ((An:Int)^j) q,zt (ze An v),x1];omega
  have ez:zm 0 j=j:=Nat.zero_add j;have e0:(((j+1:Nat):Int)-1)=(j:Int):=by omega
  have e1:zc .i64 (zc .i64 ((j:Int)+((k+2:Nat):Int))+1)=((j+(k+3):Nat):Int):=by
   rw[wr ((j:Int)+((k+2:Nat):Int)) (by omega) (by omega),wr _ (by omega) (by omega)];omega
  have e2:zc .i64 (((k+2:Nat):Int)-1)=((k+1:Nat):Int):=by rw[wr _ (by omega) (by omega)];omega
  have e3:yp (j+(k+3)) j=k+3:=by show j+(k+3)-j=_;omega
  have lw1:decide (zm (k+2) j<(lo++r).length)=true:=lw hlo (by omega);have lw2:decide (zm (k+1) j<(lo++r).length)=true:=lw hlo (by omega);rw[e0];refine zE (BA ..) (zd (by simp) ?_);rw[hn,e1,e2,zg,zg,zg,zg,ez,e3,gw hlo,gw hlo];have b1:(decide ((0:Int)≤((k+2:Nat):Int))&&decide (((k+2:Nat):Int)<((k+3:Nat):Int)))=true:=by simp;omega
  have b2:(decide ((0:Int)≤((k+1:Nat):Int))&&decide (((k+1:Nat):Int)<((k+2:Nat):Int)))=true:=by simp;omega
  have b3:(decide ((0:Int)≤((k+1:Nat):Int))&&decide (((k+1:Nat):Int)<((k+3:Nat):Int)))=true:=by simp;omega
  have hjl:j<(zp (j+1) (0:Int)++qs).length:=by simp;omega
  refine zd (by simp;omega) (zd b1 (zd lw1 (zd b2 (zD (fun c=>?_) (fun c=>?_)))))
  ·have c:=of_decide_eq_true c;obtain⟨a1,a2,a3⟩:=IW uu1 uv1 (c:=0) (by decide);refine zd b3 (zd lw2 (zd b2 (zd (Ak (Ak (Ak uu1 uv1) rfl) rfl) ?_)));refine BF s v (la+1) _ _ _ _ _ v k j lo (la+1-j) r _ hn (by omega) (by omega) hlo (by omega) hjl hv hrl hdr hz hv1 hfin 18446744073709551616 _ _ _ (by decide) (by decide) (by decide) a1 (by omega) ?_ ?_
   ·rw[a3];omega
   ·exact hrV
  ·have c:=of_decide_eq_false c;obtain⟨d1,d2,d3,d4,d5⟩:=oY (r:=r.getD (k+2) 0) (x:=r.getD (k+1) 0) (d:=v.getD (k+1) 0) (by omega) (by omega) gu1;refine zd b1 (zd lw1 (zd b3 (zd lw2 (zd b2 (zd (Ak (Ak (Ak uu0 uu1) uv1) (decide_eq_true (by omega))) ?_)))));refine BF s v (la+1) _ _ _ _ _ v k j lo (la+1-j) r _ hn (by omega) (by omega) hlo (by omega) hjl hv hrl hdr hz hv1 hfin 18446744073709551616 _ _ _ d2 d3 d3 (Cm d4 (by omega)) (.inl rfl) ?_ ?_
   ·rw[←d1];omega
   ·rw[hW,hV];exact Kp hP (by decide) d2 hv' gv2.1 hu'' gu2.2 d1 d5
end T287
end Go.Pe
end
section
namespace Go.Pe
open Sp
open Go.Det
theorem Rt{a b:Int}{s:Nat}(ha:0≤a)(hb:0≤b)(h:b<2^s)(hm:a*2^s+b<18446744073709551616):Vn .u64 b (a*2^s)=a*2^s+b:=by
 have:=UO ha hb h hm;rw[←this];show zc .u64 (((zI 64 b|||zI 64 (a*2^s)).toNat:Nat):Int)=zc .u64 (((zI 64 (a*2^s)|||zI 64 b).toNat:Nat):Int);rw[BitVec.or_comm]
theorem T1{s:Nat}(hs:s≤63):(18446744073709551616:Int)=2^s*2^(64-s):=by rw[←Int.pow_add,show s+(64-s)=64 by omega];rfl
namespace T287
variable {Q:PV→Ob→Prop}
theorem HS(s:Nat)(hs:s≤63)(la n m:Nat)(hn:n≤la)(hla:la≤9000)(u qs:List Int)(hu:u.length=la+1)(hd:At An u)(hz:ze An (u.drop n)=0)(hm:qs.length=m)(hm9:m≤9000)(hdq:At An qs)
  (hq:∀(w:List Int) ob,At An w→ze An w=ze An u/2^s→Q (.tup [.dat CS (Az qs),.dat CS (Az w)]) ob):
  ∀(k i:Nat) (p:List Int),i+k=n→p.length=i→At An p→ze An p+(An:Int)^i*(ze An (u.drop i)/2^s)=ze An u/2^s→
   Ends H5 (L6 s (la+1) n m n i qs (p++u.drop i)) Q
 |0,i,p,hi,hp,hdp,he=>by
  have hi:i=n:=by omega
  subst hi;have ht:(p++u.drop i).take i=p:=by rw[←hp];exact List.take_left
  have ht2:qs.take m=qs:=zz (by omega);rw[hz,Int.zero_ediv,zW,yd]at he;refine zE (C2 ..) (yc (by simp) ?_);rw[zg,ht,ht2];refine zd (by simp;omega) (zd (Ak (by simp;omega) (DQ (by omega) hdq)) (zd (Ak (by simp;omega) (DQ (by omega) hdp)) (zS (hq p _ hdp he))))
 |k+1,i,p,hi,hp,hdp,he=>by
  have d1:=Co (l:=u) (i:=i) (by omega);have d2:=Co (l:=u) (i:=i+1) (by omega);have gx:=zZ (AO hd i);have gy:=zZ (AO hd (i+1));have g1:(p++u.drop i).getD i 0=u.getD i 0:=by rw[d1];exact Cp _ _ _ _ hp
  have s1:∀z,(p++u.drop i).set i z=p++z::u.drop (i+1):=fun z=>by rw[d1];exact Cw _ _ _ _ hp
  have s2:∀z x,(p++z::u.drop (i+1)).set i x=(p++[x])++u.drop (i+1):=fun z x=>by rw[Cw _ _ _ _ hp,zF];rfl
  have g2:∀z,(p++z::u.drop (i+1)).getD i 0=z:=fun z=>Cp _ _ _ _ hp
  have g3:∀z,(p++z::u.drop (i+1)).getD (i+1) 0=u.getD (i+1) 0:=fun z=>by
   rw[d2,show p++z::u.getD (i+1) 0::u.drop (i+1+1)=(p++[z])++u.getD (i+1) 0::u.drop (i+1+1)by rw[zF];rfl];exact Cp _ _ _ _ (by simp[hp])
  have hlen:∀z,(p++z::u.drop (i+1)).length=la+1:=fun z=>by simp;omega
  have hlen0:(p++u.drop i).length=la+1:=by simp;omega
  have e2:zc .i64 ((i:Int)+1)=((i+1:Nat):Int):=by rw[wr _ (by omega) (by omega)];omega
  have e3:zc .i64 ((64:Int)-(s:Int))=((64-s:Nat):Int):=by rw[wr _ (by omega) (by omega)];omega
  have em:yb s 64=s:=by omega
  have em2:yb (64-s) 64=64-s:=by omega
  have hB:=T1 hs;have hc:(0:Int)<2^s:=zT (by decide);have hd':(0:Int)<2^(64-s):=zT (by decide);have efd:ye (u.getD i 0) ((2:Int)^s)=u.getD i 0/2^s:=zU _ (zq hc);have a0:0≤u.getD i 0/2^s:=ya gx.1 (zq hc);have a1:u.getD i 0/2^s<2^(64-s):=z7 hc (by rw[zn, ←hB];exact gx.2);have m0:=zR (u.getD (i+1) 0) (show(2:Int)^s≠0 by omega);have m1:=zO (u.getD (i+1) 0) hc;have p0:0≤(u.getD (i+1) 0 % 2^s)*2^(64-s):=zB m0 (zq hd');have p1:(u.getD (i+1) 0 % 2^s)*2^(64-s)≤18446744073709551616-2^(64-s):=by
   have:=zh (show u.getD (i+1) 0 % 2^s≤2^s-1 by omega) (zq hd');rw[yk,zy, ←hB]at this;exact this
  have hnew:0≤u.getD i 0/2^s+(u.getD (i+1) 0 % 2^s)*2^(64-s)∧u.getD i 0/2^s+(u.getD (i+1) 0 % 2^s)*2^(64-s)<18446744073709551616:=by omega
  have ewy:zc .u64 (u.getD (i+1) 0*2^(64-s))=(u.getD (i+1) 0 % 2^s)*2^(64-s):=by
   rw[Jo];exact(RT (b:=18446744073709551616) (c:=2^(64-s)) (d:=2^s) (k:=0) hd' hc (by rw[hB,zn]) ⟨ym _,hd'⟩ gy).1
  have eio:Vn .u64 (u.getD i 0/2^s) ((u.getD (i+1) 0 % 2^s)*2^(64-s))=u.getD i 0/2^s+(u.getD (i+1) 0 % 2^s)*2^(64-s):=by
   rw[Rt m0 a0 a1 (by omega),Int.add_comm]
  have next:∀z,z=u.getD i 0/2^s+(u.getD (i+1) 0 % 2^s)*2^(64-s)→Ends H5 (L6 s (la+1) n m n ((i+1:Nat):Int) qs ((p++[z])++u.drop (i+1))) Q:=by
   intro z hz';refine HS s hs la n m hn hla u qs hu hd hz hm hm9 hdq hq k (i+1) (p++[z]) (by omega) (by simp[hp]) (Dz hdp (by rw[hz'];exact Cm hnew.1 hnew.2)) ?_;rw[←he,Ef,hp,JB,z8, ←zt];congr 2;have:=XV (b:=18446744073709551616) (c:=2^s) (d:=2^(64-s)) (x:=u.getD i 0) (y:=u.getD (i+1) 0) (X:=ze An (u.drop (i+1+1))) hc hB;rw[hz',d1,d2];exact this.symm
  have b1:(decide ((0:Int)≤(i:Int))&&decide ((i:Int)<((la+1:Nat):Int)))=true:=by simp;omega
  have b2:(decide ((0:Int)≤((i+1:Nat):Int))&&decide (((i+1:Nat):Int)<((la+1:Nat):Int)))=true:=by simp;omega
  refine zE (C2 ..) (zd (by simp;omega) ?_);rw[e2,e3,zg,zg,zg,zg,em,em2,g1,efd,s1,g2,g3,s2,ewy,eio,hlen,hlen0];refine zd b1 (zd (decide_eq_true (by omega)) (zd (by simp) (zd b1 (zd (decide_eq_true (by omega)) (zD (fun c=>zd (by simp;omega) (zd b1 (zd (decide_eq_true (by omega)) (zd b2 (zd (decide_eq_true (by omega)) (zd (by simp) (zd b1 (zd (decide_eq_true (by omega)) (next _ rfl))))))))) (fun c=>?_))))));have c:=of_decide_eq_false c;have hs0:s=0:=by omega
  subst hs0;rw[show ∀z:Int,p++z::u.drop (i+1)=(p++[z])++u.drop (i+1)from fun z=>by rw[zF];rfl];refine next _ ?_;rw[zH,Int.emod_one,yu,yd]
theorem Qn{X:AW}{F:Int→List Int→Tr}(w:List Int)(s:Nat)(hs:s≤63)(hd:At An w)
  (BJ:∀(i:Nat) (o:List Int),i<w.length→o.length=w.length+1→Ends X (F ((i+1:Nat):Int) (if 0<s then(o.set i (Vn .u64 (o.getD i 0) (zc .u64 (w.getD i 0*2^s)))).set (i+1) (ye (w.getD i 0) (2^(64-s)))else o.set i (Vn .u64 (o.getD i 0) (zc .u64 (w.getD i 0*2^s))))) Q→Ends X (F i o) Q)
  (hend:∀o:List Int,o.length=w.length+1→At An o→ze An o=2^s*ze An w→Ends X (F w.length o) Q):
  ∀(k i:Nat) (p:List Int) (c:Int),i+k=w.length→p.length=i→At An p→(0≤c∧c<2^s)→ze An p+(An:Int)^i*c=2^s*ze An (w.take i)→Ends X (F i (p++c::zp k 0)) Q
 |0,i,p,c,hi,hp,hdp,hc,he=>by
  have hi:i=w.length:=by omega
  subst hi;have hP:(2:Int)^s≤18446744073709551616:=by
   have:=T1 hs;have h1:(1:Int)≤2^(64-s):=zT (by decide);have h2:=zl h1 (show(0:Int)≤2^s from zq (zT (by decide)));omega
  rw[List.take_length]at he;refine hend _ (by simp[hp]) (Dz hdp (Cm hc.1 (by omega))) ?_;rw[←he];show ze An (p++[c])=_;rw[Ef,hp]
 |k+1,i,p,c,hi,hp,hdp,hc,he=>by
  have gx:=zZ (AO hd i);have hB:=T1 hs;have h2s:(0:Int)<2^s:=zT (by decide);have h2d:(0:Int)<2^(64-s):=zT (by decide);obtain⟨s1,s2,s3,s4,s5,s6⟩:=RT (b:=18446744073709551616) (c:=2^s) (d:=2^(64-s)) (x:=w.getD i 0) (k:=c) h2s h2d hB hc gx;have efd:ye (w.getD i 0) ((2:Int)^(64-s))=w.getD i 0/2^(64-s):=zU _ (zq h2d);have g1:(p++c::zp (k+1) 0).getD i 0=c:=Cp _ _ _ _ hp;have st:∀z:Int,(p++c::zp (k+1) 0).set i z=p++z::zp (k+1) 0:=fun z=>Cw _ _ _ _ hp
  have st2:∀z y:Int,(p++z::zp (k+1) 0).set (i+1) y=(p++[z])++y::zp k 0:=fun z y=>by
   rw[show p++z::zp (k+1) (0:Int)=(p++[z])++0::zp k 0 by rw[zF];rfl];exact Cw _ _ _ _ (by simp[hp])
  have eio:Vn .u64 c ((w.getD i 0 % 2^(64-s))*2^s)=(w.getD i 0 % 2^(64-s))*2^s+c:=Rt (zR _ (by omega)) hc.1 hc.2 s2;have go:=Qn w s hs hd BJ hend k (i+1) (p++[(w.getD i 0 % 2^(64-s))*2^s+c]) (w.getD i 0/2^(64-s)) (by omega) (by simp[hp]) (Dz hdp (Cm (by omega) s2)) ⟨s4,s5⟩ (by
   rw[Ef,hp,JB,Ax,zt (2^s), ←he,z8,z8, ←zt,zL (2^s), ←zt];congr 2;rw[zn (2^s)];omega)
  refine BJ i _ (by omega) (by simp;omega) ?_;rw[Jo,s1,efd,g1,eio,st,st2];by_cases h0:0<s
  ·rw[if_pos h0];exact go
  ·have hs0:s=0:=by omega
   subst hs0;have hz:w.getD i 0/2^(64-0)=0:=yq gx.1 gx.2;rw[hz]at go;rw[if_neg h0,show ∀z:Int,p++z::zp (k+1) (0:Int)=(p++[z])++0::zp k 0 from fun z=>by rw[zF];rfl];exact go
end T287
end Go.Pe
end
section
namespace Go.Pe
open Sp
open Go.Det
theorem ZU:∀g sp,H5.sp g=some sp→Ad AR g sp:=
 Ac T292.ok (Ac T295.ok (Ac T229.ok (Ac T294.ok (Ac T326.ok (Ac YF (Ac T318.ok (fun g sp h=>by cases h)))))))
theorem IK{w:List Int}(hd:At An w)(hn:Sp.nz w){k:Nat}(hl:w.length=k+1):0<w.getD k 0∧w.getD k 0<18446744073709551616:=by
 have g:=zZ (AO hd k);refine⟨?_,g.2⟩;have e:w.getLast?=some (w.getD k 0):=by
  rw[List.getLast?_eq_getElem?,hl,yf,zu,zM (by omega)];rfl
 unfold Sp.nz at hn;rw[e]at hn;have:w.getD k 0≠0:=fun h=>hn (by rw[h])
 omega
namespace T287
set_option maxHeartbeats 1000000 in
theorem ok:Ad AR 287 Gq:=by
 refine Av (X:=H5) rfl ZU (d:=9) (by kernel_rfl) (by kernel_rfl) (by kernel_rfl) (fun(i:List Int×List Int) hi=>?_) (Ab (by kernel_rfl));obtain⟨a,b⟩:=i;have hi:(BV a&&BV b&&decide (a.length≤9000)&&decide (b.length≤9000)&&decide (0<Ao b))=true:=hi;rw[zw,zw,zw,zw,decide_eq_true_eq,decide_eq_true_eq,decide_eq_true_eq]at hi;obtain⟨⟨⟨⟨na,nb⟩,la9⟩,lb9⟩,hb0⟩:=hi;obtain⟨_,da,za⟩:=Ed na;obtain⟨_,db,zb⟩:=Ed nb;have hb0:0<ze An b:=hb0;have ha0:=Aw (b:=An) (by decide) da;have hg:∀q r ob,q=BL (Ao a/Ao b)→r=BL (Ao a % Ao b)→Ae Gq (a,b) (PV.tup [PV.dat CS q,PV.dat CS r]) ob:=fun q r ob e1 e2=>Ae.of rfl rfl (Prod.ext e1 e2)
 have fin:∀(q r:List Int) ob,At An q→At An r→ze An a=ze An q*ze An b+ze An r→ze An r<ze An b→Ae Gq (a,b) (PV.tup [PV.dat CS (Az q),PV.dat CS (Az r)]) ob:=by
  intro q r ob dq dr he hr;have hr0:=Aw (b:=An) (by decide) dr;obtain⟨u1,u2⟩:=(z9 (a:=ze An a) (b:=ze An b) (r:=ze An r) (q:=ze An q) hb0).2 ⟨by rw[zn (ze An b)];omega,hr0,hr⟩;refine hg _ _ ob ?_ ?_
  ·rw[IM dq];show BL (ze An q)=BL (ze An a/ze An b);rw[u1]
  ·rw[IM dr];show BL (ze An r)=BL (ze An a % ze An b);rw[u2]
 have hbne:b≠[]:=by rintro rfl;simp[ze]at hb0
 have hblen:b.length≠0:=fun h=>hbne (List.length_eq_zero_iff.1 h)
 refine Ends.eq (Ap a b) (zd (by rw[na,nb];rfl) (zD (fun c=>?_) (fun c=>?_)))
 ·have c:=of_decide_eq_true c;have hlt:ze An a<ze An b:=by
   unfold BB at c;have c:(if ze An a<ze An b then(-1:Int)else if ze An a>ze An b then 1 else 0)<0:=c;split at c
   ·assumption
   ·split at c<;>omega
  refine zS (Ae.of rfl rfl ?_);show([],a)=(BL (ze An a/ze An b),BL (ze An a % ze An b));rw[yq ha0 hlt,Int.emod_eq_of_lt ha0 hlt];exact Prod.ext rfl (KT (by decide) da za)
 ·have c:=of_decide_eq_false c;have hge:ze An b≤ze An a:=by
   rcases zP (ze An a) (ze An b)with g|g
   ·have:BB (Ao a) (Ao b)= -1:=if_pos g;omega
   ·exact g
  have hll:b.length≤a.length:=by
   rcases Nat.lt_or_ge a.length b.length with g|g
   ·have:=DU (b:=An) (by decide) da db zb g;omega
   ·exact g
  refine zD (fun c1=>?_) (fun c1=>?_)
  ·have c1:b.length=1:=by
    have:(b.length:Int)=1:=by simpa using c1
    omega
   obtain⟨d,rfl⟩:=List.length_eq_one_iff.1 c1;have hd:0<d∧d<18446744073709551616:=IK (k:=0) db zb rfl;have e1:zc .i64 ((a.length:Int)-1)=(a.length:Int)-1:=wr _ (by omega) (by omega);rw[e1,zg];refine zd (by simp;omega) ?_;have:=Aj (Q:=Ae Gq (a,[d])) a d da hd (by omega) (fun q r ob dq dr he=>by
    refine fin q [r] ob dq (fun x hx=>by rw[List.mem_singleton]at hx;subst hx;exact⟨dr.1,by show x<18446744073709551616;omega⟩) ?_ ?_
    ·rw[val_one,val_one];exact he
    ·rw[val_one,val_one];exact dr.2) a.length [] 0 (by simp) (fun x hx=>by cases hx) ⟨ym _,hd.1⟩ (by rw[List.drop_length];simp[ze])
   rw[List.append_nil]at this;exact this
  ·have c1:b.length≠1:=by
    have:(b.length:Int)≠1:=by simpa using c1
    omega
   obtain⟨k,hk⟩:∃k,b.length=k+2:=⟨b.length-2,by omega⟩;obtain⟨y0,y1⟩:=IK (k:=k+1) db zb hk;obtain⟨s,hs,hs63,hlt,_⟩:=R8 y0 y1;have hB:=T1 hs63;have h2s:(0:Int)<2^s:=zT (by decide);have h2d:(0:Int)<2^(64-s):=zT (by decide);have hyd:b.getD (k+1) 0<2^(64-s):=by
    rw[hB,zn (b.getD (k+1) 0)]at hlt;exact zJ hlt (zq h2s)
   have hv1:(An:Int)^(k+1)≤2^s*ze An b:=by
    have a1:=CU (b:=An) (by decide) db zb hbne;rw[hk,show k+2-1=k+1 by omega]at a1;have a2:=zh (show(1:Int)≤2^s by omega) (zq hb0);omega
   have hv2:2^s*ze An b<(An:Int)^(k+2):=by
    have b1:ze An b=ze An (b.take (k+1))+(An:Int)^(k+1)*b.getD (k+1) 0:=by
     rw[←Ax,zz (by omega)]
    have b2:=Bv (b:=An) (by decide) (AH db (k+1));rw[zN,z5 (by omega)]at b2;have hp:=AP (b:=An) (by decide) (k+1);have b3:ze An b<(An:Int)^(k+1)*2^(64-s):=by
     have:=zl (show b.getD (k+1) 0+1≤2^(64-s)by omega) (zq hp);rw[zt,yn]at this;omega
    have b4:=yg b3 h2s;have b5:(2:Int)^s*((An:Int)^(k+1)*2^(64-s))=(An:Int)^(k+2):=by
     rw[zL, ←hB];exact(zr ..).symm
    rw[b5]at b4;exact b4
   have hls:∀o:List Int,At An o→ze An o=2^s*ze An b→At An (Az o)∧(Az o).length=k+2∧ze An (Az o)=2^s*ze An b∧1≤(Az o).getD (k+1) 0:=by
    intro o ho hv;have hd':=Gf ho;have hv':ze An (Az o)=2^s*ze An b:=by rw[HI,hv]
    have hl':=Xs (b:=An) (by decide) hd' (I7 o) (k:=k+1) (by rw[hv'];exact hv1) (by rw[hv'];exact hv2);have:=(IK hd' (I7 o) hl').1;exact⟨hd',hl',hv',by omega⟩
   have e2:zc .i64 (((k+2:Nat):Int)-1)=((k+1:Nat):Int):=by rw[wr _ (by omega) (by omega)];omega
   have e3:zc .i64 (((k+2:Nat):Int)+1)=((k+3:Nat):Int):=by rw[wr _ (by omega) (by omega)];omega
   have e4:zc .i64 ((a.length:Int)+1)=((a.length+1:Nat):Int):=by rw[wr _ (by omega) (by omega)];omega
   have e5:zc .i64 ((a.length:Int)-((k+2:Nat):Int))=((a.length-(k+2):Nat):Int):=by rw[wr _ (by omega) (by omega)];omega
   have e6:zc .i64 (((a.length-(k+2):Nat):Int)+1)=((a.length-(k+2)+1:Nat):Int):=by rw[wr _ (by omega) (by omega)];omega
   have e7:zc .i64 ((64:Int)-(s:Int))=((64-s:Nat):Int):=by rw[wr _ (by omega) (by omega)];omega
   have em:yb s 64=s:=by omega
   have em2:yb (64-s) 64=64-s:=by omega
   rw[hk,e2,e3,zg,zg,hs];refine zd (by simp;omega) (zd (Cm (by omega) y1) (zd (by simp;omega) ?_));refine Qn (F:=fun i o=>L2 a b s (k+3) b ((k+2:Nat):Int) i o) b s hs63 db (fun i o hi ho h=>?_) (fun o hol hod hov=>?_) (k+2) 0 [] 0 (by omega) rfl (fun x hx=>by cases hx) ⟨ym _,h2s⟩ (by simp[ze])
   ·have ei:zc .i64 ((i:Int)+1)=((i+1:Nat):Int):=by rw[wr _ (by omega) (by omega)];omega
    have b1:(decide ((0:Int)≤(i:Int))&&decide ((i:Int)<((k+3:Nat):Int)))=true:=by simp;omega
    refine zE (AN ..) (zd (by simp;omega) ?_);rw[ei,e7,zg,zg,zg,zg,em,em2];refine zd (by simp;omega) (zd b1 (zd (decide_eq_true (by omega)) (zd (by simp) (zd b1 (zd (decide_eq_true (by omega)) (zD (fun c=>zd (by simp) (zd (by simp;omega) (zd (by simp;omega) ?_))) (fun c=>?_)))))))
    ·have c:=of_decide_eq_true c;rw[if_pos (by omega)]at h;exact h
    ·have c:=of_decide_eq_false c;rw[if_neg (by omega)]at h;exact h
   obtain⟨vd,vl,vv,v1⟩:=hls o hod hov;have eo:o.take (k+3)=o:=zz (by omega);rw[hk];refine zE (AN ..) (yc (by simp) ?_);rw[eo,e4,zg,hk,e2,zg,hs];refine zd (Ak (by simp;omega) (DQ (by omega) hod)) (zd (by simp;omega) ?_);refine Qn (F:=fun i o'=>L3 a b s (k+3) b ((k+2:Nat):Int) ((k+2:Nat):Int) o s (a.length+1) a a.length i o' o) a s hs63 da (fun i o' hi ho h=>?_) (fun u hul hud huv=>?_) a.length 0 [] 0 (by omega) rfl (fun x hx=>by cases hx) ⟨ym _,h2s⟩ (by simp[ze])
   ·have ei:zc .i64 ((i:Int)+1)=((i+1:Nat):Int):=by rw[wr _ (by omega) (by omega)];omega
    have b1:(decide ((0:Int)≤(i:Int))&&decide ((i:Int)<((a.length+1:Nat):Int)))=true:=by simp;omega
    refine zE (Bk ..) (zd (by simp;omega) ?_);rw[ei,e7,zg,zg,zg,zg,em,em2];refine zd (by simp;omega) (zd b1 (zd (decide_eq_true (by omega)) (zd (by simp) (zd b1 (zd (decide_eq_true (by omega)) (zD (fun c=>zd (by simp) (zd (by simp;omega) (zd (by simp;omega) ?_))) (fun c=>?_)))))))
    ·have c:=of_decide_eq_true c;rw[if_pos (by omega)]at h;exact h
    ·have c:=of_decide_eq_false c;rw[if_neg (by omega)]at h;exact h
   refine zE (Bk ..) (yc (by simp) ?_);rw[eo,vl,e5,e6,zg,hk,e2,zg,hs];refine zd (by simp;omega) ?_;have hpn:=AP (b:=An) (by decide) (a.length-(k+2)+1);have start:ze An (u.drop (a.length-(k+2)+1))<ze An (Az o):=by
    have a1:=Ca An u (a.length-(k+2)+1) (by omega);have a2:=Aw (b:=An) (by decide) (AH hud (a.length-(k+2)+1));have a3:=Bv (b:=An) (by decide) da;have a4:=yg a3 h2s;have a5:(An:Int)^a.length=(An:Int)^(a.length-(k+2)+1)*(An:Int)^(k+1):=by rw[←Int.pow_add];congr 1;omega
    have a6:=CU (b:=An) (by decide) db zb hbne;rw[hk,show k+2-1=k+1 by omega]at a6;have a7:=zl a6 (zq h2s);have a8:=zl a7 (zq hpn);rw[a5,zL]at a4;rw[vv];refine zJ (a:=(An:Int)^(a.length-(k+2)+1)) ?_ (zq hpn);omega
   have go:=A1 (Q:=Ae Gq (a,b)) s (Az o) k a.length vl la9 (by omega) vd v1 (2^s*ze An a) (fun u' qs hul' hud' hdq hlt' hql he=>by
    have hz:ze An (u'.drop (k+2))=0:=H8 (b:=An) (by decide) hud' (by omega) (by rw[vv]at hlt';omega);refine HS s hs63 a.length (k+2) (a.length-(k+2)+1) (by omega) la9 u' qs hul' hud' hz hql (by omega) hdq (fun w ob hw hwv=>?_) (k+2) 0 [] (by omega) rfl (fun x hx=>by cases hx) (by simp[ze]);have e:ze An u'=2^s*(ze An a-ze An qs*ze An b):=by
     rw[vv,zk,zn (ze An b)]at he;rw[z6];omega
    have ew:ze An w=ze An a-ze An qs*ze An b:=by
     rw[hwv,e];exact Int.mul_ediv_cancel_left _ (by omega)
    refine fin qs w ob hdq hw (by omega) ?_;rw[vv,e]at hlt';have:=zJ hlt' (zq h2s);omega) (a.length-(k+2)+1) u [] (by simp) hul hud (fun x hx=>by cases hx) start (by rw[huv];simp[ze])
   rw[List.append_nil,show((a.length-(k+2)+1:Nat):Int)-1=((a.length-(k+2):Nat):Int)by omega]at go;exact go
end T287
theorem VF:Ad AR 287 Gq:=T287.ok
end Go.Pe
end
section
namespace Go.Pe
open Sp
open Go.Det
theorem cJ:∀g sp,nO.sp g=some sp→Ad AR g sp:=fun g sp h=>by cases h
theorem T184n.ok:Ad AR 184 Q6:=by
 refine Av (X:=nO) rfl cJ (d:=9) (by kernel_rfl) (by kernel_rfl) (by kernel_rfl) (fun(n:Int) _=>?_) (Ab (by kernel_rfl));refine Ends.eq (T184n.Ap n) (zS (Ae.of rfl rfl ?_));show(n,[])=(n,DE n);rw[CH]
theorem Zo:∀g sp,jC.sp g=some sp→Ad AR g sp:=
 Ac T184n.ok (Ac VF (Ac (T231.ok Gn) (Ac (T232.ok Gn) (Ac T228.ok (Ac T226.ok (Ac T220.ok (fun g sp h=>by cases h)))))))
theorem Tt{m D:Int}(hD:0<D):(m % D=0→(-m)/D= -(m/D)∧(-m) % D=0)∧(m % D≠0→(-m)/D= -(m/D)-1∧(-m) % D=D-m % D):=by
 have e:=zC m D;have r0:=zR m (show D≠0 by omega);have r1:=zO m hD;refine⟨fun h=>?_,fun h=>?_⟩
 ·exact(z9 (a:= -m) (b:=D) (r:=0) (q:= -(m/D)) hD).2 ⟨by rw[Int.mul_neg];omega,by omega,by omega⟩
 ·exact(z9 (a:= -m) (b:=D) (r:=D-m % D) (q:= -(m/D)-1) hD).2 ⟨by rw[z6,Int.mul_neg,yn];omega,by omega,by omega⟩
theorem bV{m D:Int}(hm:0≤m)(hD:0<D):(0≤m/D∧m/D≤m)∧(0≤m % D∧m % D≤m∧m % D<D):=by
 have e:=zC m D;have q0:0≤m/D:=ya hm (by omega);have q1:m/D≤m:=Int.ediv_le_self _ hm;have r0:=zR m (show D≠0 by omega);have r1:=zO m hD;have:=zB (show 0≤D by omega) q0;exact⟨⟨q0,q1⟩,r0,by omega,r1⟩
theorem TW(n:Bool){v:Int}(h:0≤v):Ah (yo n v)=v:=by
 rw[C4,Ar];split<;>omega
theorem F7{n:Int}(h:Ah n<(An:Int)^9000):BR (Cr n)=true:=by
 have:=Qx h (by omega);unfold BR;exact Ak this.1 (decide_eq_true this.2)
theorem X2{a b:Bl}(h:0<zi a+zi b):Gz a b=Cr (zi a+zi b):=by
 unfold Gz;split
 ·next c=>
  have:=E6 c.2.2;rw[BI c.1,BI c.2.1]at h ⊢;exact(BP (by omega)).symm
 ·rfl
theorem UP:((1:Int),DE (1:Int))=Cr 1:=by rw[CH];rfl
namespace T221
theorem OO{a b:Bl}(q:Int)(h: -9223372036854775808<q∧q<9223372036854775808)(hq:Nz a b=Cr q∨(-9223372036854775808<q∧Nz a b=K3 (Cr (q+1)) (1,[])∧q+1<9223372036854775808)):Nz a b=(q,[]):=by
 rcases hq with hq|⟨h1,hq,h2⟩
 ·rw[hq,BP h]
 ·rw[hq,BP (by omega)];unfold K3 E3;rw[if_pos ⟨rfl,by decide⟩];unfold Gz;rw[if_pos ⟨rfl,rfl,Fl (by show _≤q+1+ -1;omega) (by show q+1+ -1<_;omega)⟩];show(q+1+ -1,[])=(q,[]);rw[show q+1+ -1=q by omega]
set_option maxHeartbeats 1000000 in
theorem ok:Ad AR 221 Hu:=by
 refine Av (X:=jC) rfl Zo (d:=9) (by kernel_rfl) (by kernel_rfl) (by kernel_rfl) (fun(i:(Int×List Int)×(Int×List Int)) hi=>?_) (Ab (by kernel_rfl));obtain⟨a,b⟩:=i;have hi:(BR a&&BR b&&decide (0<zi b))=true:=hi;rw[zw,zw,decide_eq_true_eq]at hi;obtain⟨⟨ha,hb⟩,hD⟩:=hi;obtain⟨oa,_,na,_,va,ba⟩:=words ha;obtain⟨ob,_,nb,_,vb,bb⟩:=words hb;have eD:Ah (zi b)=zi b:=by rw[Ar];omega
 have hM:=AD (zi a);have eM:Ah (zi a)=if zi a<0 then -zi a else zi a:=rfl
 obtain⟨⟨q0,q1⟩,r0,r1,r2⟩:=bV (D:=zi b) hM hD;obtain⟨z1,z2⟩:=Tt (m:=Ah (zi a)) hD;have hdiv:Zk (BL (Ah (zi a))) (BL (Ah (zi b)))=true:=by
  unfold Zk;exact Ak (Ak (Ak (Ak na nb) (decide_eq_true (MK hM ba))) (decide_eq_true (MK (AD _) bb))) (decide_eq_true (by rw[vb,eD];exact hD))
 have fin:∀(q r:Bl) v ob,Oi Hu.outs v ob=some (true,(q,r))→q=Nz a b→r=Cr (zi a % zi b)→Ae Hu (a,b) v ob:=fun q r v ob h e1 e2=>Ae.of h rfl (by rw[e1,e2];rfl)
 have slow:Ends jC (L1 (decide (zi a<0)) (BL (Ao (BL (Ah (zi a)))/Ao (BL (Ah (zi b))))) (BL (Ao (BL (Ah (zi a))) % Ao (BL (Ah (zi b))))) 0 0 b.1 b.2) (Ae Hu (a,b)):=by
  rw[va,vb,eD];obtain⟨nq,_,vq⟩:=CZ (n:=Ah (zi a)/zi b) (k:=9000) q0 (by omega) (by omega);obtain⟨nr,_,vr⟩:=CZ (n:=Ah (zi a) % zi b) (k:=9000) r0 (by omega) (by omega);have jr:BR (Cr (yo (decide (zi a<0)) (Ah (zi a) % zi b)))=true:=F7 (by rw[TW _ r0];omega);have jq:BR (Cr (yo (decide (zi a<0)) (Ah (zi a)/zi b)))=true:=F7 (by rw[TW _ q0];omega);have j1:BR ((1:Int),DE (1:Int))=true:=by rw[UP];decide
  have es:LD (Ch (yo (decide (zi a<0)) (Ah (zi a) % zi b)),Cf (yo (decide (zi a<0)) (Ah (zi a) % zi b)))=Y5 (yo (decide (zi a<0)) (Ah (zi a) % zi b)):=by
   show Y5 (zi (Cr _))=_;rw[Cx]
  refine zE (Ai ..) (zd nq (zd nr ?_));rw[vq,vr];refine zE (AN ..) (zd (Hy jr).1 ?_);rw[es];refine zD (fun c=>?_) (fun c=>?_)
  ·have c:=of_decide_eq_true c;have c2:yo (decide (zi a<0)) (Ah (zi a) % zi b)<0:=by
    rw[IS]at c;split at c
    ·assumption
    ·split at c<;>omega
   have hn:zi a<0:=by
    rcases zP (zi a) 0 with g|g
    ·exact g
    ·rw[C4,if_neg (by simp;omega)]at c2;omega
   have hr:Ah (zi a) % zi b≠0:=by
    rw[C4,if_pos (decide_eq_true hn)]at c2;omega
   obtain⟨z3,z4⟩:=z2 hr;refine zd rfl (zd (Ak jq j1) (zd (Ak jr hb) (zS (fin (K3 (Cr (yo (decide (zi a<0)) (Ah (zi a)/zi b))) (1,DE 1)) (Gz (Cr (yo (decide (zi a<0)) (Ah (zi a) % zi b))) b) _ _ rfl ?_ ?_))))
   ·unfold Nz;rw[if_pos ⟨hn,hr⟩,CH,C4,if_pos (decide_eq_true hn)]
   ·have ev:zi a= -Ah (zi a):=by rw[eM,if_pos hn];omega
    have ep:zi (Cr (yo (decide (zi a<0)) (Ah (zi a) % zi b)))= -(Ah (zi a) % zi b):=by rw[Cx,C4,if_pos (decide_eq_true hn)]
    have e5:zi a % zi b=zi b-Ah (zi a) % zi b:=by rw[←z4, ←ev]
    rw[X2 (by rw[ep];omega),ep,e5];congr 1;omega
  ·have c:=of_decide_eq_false c;have c2:¬(zi a<0∧Ah (zi a) % zi b≠0):=by
    rintro⟨hn,hr⟩;rw[C4,if_pos (decide_eq_true hn),IS,if_pos (by omega)]at c;omega
   refine zS (fin (Cr (yo (decide (zi a<0)) (Ah (zi a)/zi b))) (Cr (yo (decide (zi a<0)) (Ah (zi a) % zi b))) _ _ rfl ?_ ?_)
   ·unfold Nz;rw[if_neg c2]
   ·congr 1;rcases zP (zi a) 0 with g|g
    ·have hr:Ah (zi a) % zi b=0:=by
      rcases zP 0 (Ah (zi a) % zi b)with g2|g2
      ·exact absurd ⟨g,by omega⟩ c2
      ·omega
     have ev:zi a= -Ah (zi a):=by rw[eM,if_pos g];omega
     have:=(z1 hr).2;rw[←ev]at this;rw[this,hr,C4];split<;>rfl
    ·rw[C4,if_neg (by simp;omega),eM,if_neg (by omega)]
 refine Ends.eq (Ap a b) (zD (fun c1=>zD (fun c2=>zD (fun c3=>?_) (fun c3=>?_)) (fun c2=>?_)) (fun c1=>?_))
 ·have a2:=Mn c1;have b2:=Mn c2;have c3:a.1≠ -9223372036854775808:=by simpa using c3
  have ra:=E6 (n:=a.1) (by
   have:=oa;unfold EY at this;rw[zw]at this;exact this.1)
  have rb:=E6 (n:=b.1) (by
   have:=ob;unfold EY at this;rw[zw]at this;exact this.1)
  have ea:=BI a2;have eb:=BI b2;rw[ea]at eM;rw[eb]at hD r2;rw[ea,eb]at q0 q1 r0 r1 z1 z2;rw[ea]at r2;have hq:zQ a.1 b.1=if a.1<0 then -(Ah a.1/b.1)else Ah a.1/b.1:=by
   rw[eM];split
   ·have:=Int.neg_tdiv (-a.1) b.1;rw[Int.neg_neg]at this;rw[this,yh (by omega)]
   ·exact yh (by omega)
  have hr:zY a.1 b.1=if a.1<0 then -(Ah a.1 % b.1)else Ah a.1 % b.1:=by
   rw[eM];split
   ·have:=Int.neg_tmod (-a.1) b.1;rw[Int.neg_neg]at this;rw[this,yi (by omega)]
   ·exact yi (by omega)
  refine zd (decide_eq_true (by omega)) (zd (decide_eq_true (by omega)) (zD (fun c=>?_) (fun c=>?_)))
  ·have c:=of_decide_eq_true c;rw[hr]at c;have hn:a.1<0:=by split at c<;>omega
   rw[if_pos hn]at c hq hr;rw[if_pos hn]at eM;obtain⟨z3,z4⟩:=z2 (by omega);have ev:a.1= -Ah a.1:=by omega
   have hqm:Ah a.1/b.1<9223372036854775807:=by
    rcases zP (Ah a.1/b.1) 9223372036854775807 with g|g
    ·exact g
    ·have:=zC (Ah a.1) b.1;have:=zh (show 1≤b.1 by omega) q0;omega
   refine zS (fin (zc .i64 (zc .i64 (zQ a.1 b.1)-1),[]) (zc .i64 (zY a.1 b.1+b.1),[]) _ _ rfl ?_ ?_)
   ·rw[hq,wr (-(Ah a.1/b.1)) (by omega) (by omega),wr _ (by omega) (by omega)];refine(OO _ (by omega) (.inr ⟨by omega,?_,by omega⟩)).symm;unfold Nz;rw[ea,eb,if_pos ⟨hn,by omega⟩,show -(Ah a.1/b.1)-1+1= -(Ah a.1/b.1)by omega]
   ·rw[hr,wr _ (by omega) (by omega)];have:a.1 % b.1=b.1-Ah a.1 % b.1:=by rw[←z4, ←ev]
    rw[ea,eb,this,BP (by omega)];congr 1;omega
  ·have c:=of_decide_eq_false c;rw[hr]at c;refine zS (fin (zc .i64 (zQ a.1 b.1),[]) (zY a.1 b.1,[]) _ _ rfl ?_ ?_)
   ·have hqq:Nz a b=Cr (zQ a.1 b.1):=by
     unfold Nz;rw[ea,eb,hq,if_neg (by rintro⟨h1,h2⟩;rw[if_pos h1]at c;omega),C4];by_cases h:a.1<0
     ·rw[if_pos (decide_eq_true h),if_pos h]
     ·rw[if_neg (by simp;omega),if_neg h]
    have hb': -9223372036854775808<zQ a.1 b.1∧zQ a.1 b.1<9223372036854775808:=by
     rw[hq,eM]at*;split<;>split at q1<;>split at q0<;>omega
    rw[wr _ (by omega) (by omega)];exact(OO _ hb' (.inl hqq)).symm
   ·rw[hr];by_cases h:a.1<0
    ·rw[if_pos h]at c ⊢;have hz:Ah a.1 % b.1=0:=by omega
     rw[if_pos h]at eM;have ev:a.1= -Ah a.1:=by omega
     have:=(z1 hz).2;rw[←ev]at this;rw[ea,eb,this,hz];rfl
    ·rw[if_neg h]at c ⊢;rw[if_neg h]at eM;rw[ea,eb,eM,BP (by rw[eM]at r0 r1;omega)]
 ·exact zd oa (zd ob (zd hdiv slow))
 ·exact zd oa (zd ob (zd hdiv slow))
 ·exact zd oa (zd ob (zd hdiv slow))
end T221
theorem bH:∀g sp,kH.sp g=some sp→Ad AR g sp:=
 Ac T221.ok (Ac T219.ok (Ac T220.ok (fun g sp h=>by cases h)))
theorem ZV{a:Bl}(h:EY a=true):Q5 a=Cr (Ah (zi a)):=by
 have hn:=cR h;obtain⟨hr,hw⟩:=Em h;unfold Q5;by_cases h0:a.1<0
 ·rw[if_pos h0,Ar];unfold E3;have hneg:=hn.1 h0;split
  ·next c=>rw[BI c.1]at hneg ⊢;rw[BP (by omega)];congr 1;omega
  ·congr 1;omega
 ·rw[if_neg h0];obtain⟨s,w⟩:=a;have h0:¬s<0:=h0;rcases hw with hw|⟨h1,h2,h3⟩
  ·have hw:w=[]:=hw;subst hw;have hr: -9223372036854775808≤s∧s<9223372036854775808:=hr;rw[En,Ar,BP (by omega)];congr 1;omega
  ·obtain⟨_,d,z⟩:=Ed h1;have h2:s=1∨s= -1:=h2;have h3:9223372036854775808≤Ao w:=h3;have hne:w≠[]:=by rintro rfl;exact absurd h3 (by decide)
   have hs:s=1:=by omega
   subst hs;rw[Yb hne,if_neg (by decide),Ar];have:=P0 (w:=w) false d z h3;rw[if_neg (by decide),if_neg (by decide)]at this;rw[show((Ao w).natAbs:Int)=Ao w by omega,this]
theorem Xb(n:Int):LD (Ch n,Cf n)=Y5 n:=by
 show Y5 (zi (Cr _))=_;rw[Cx]
theorem Ol(n:Int):zi (Ch n,Cf n)=n:=Cx n
theorem TS(m n:Int):Xc (Ch m,Cf m) (Ch n,Cf n)=Ch (m % n)∧Yq (Ch m,Cf m) (Ch n,Cf n)=Cf (m % n):=by
 constructor
 ·show Ch (zi (Cr _) % zi (Cr _))=_;rw[Cx,Cx]
 ·show Cf (zi (Cr _) % zi (Cr _))=_;rw[Cx,Cx]
theorem Hn{n:Int}(h:BR (Cr n)=true):BR (Ch n,Cf n)=true:=h
theorem Lx{a:Bl}(h:EY a=true):MW a=Ch (Ah (zi a))∧Mu a=Cf (Ah (zi a)):=by
 unfold MW Mu;rw[ZV h];exact⟨rfl,rfl⟩
theorem Rn(x y:Nat):((x:Int) % (y:Int))=((x % y:Nat):Int):=rfl
theorem ZY(a b:Bl)(n:Int)(h:n=Sp.gI (zi a) (zi b)):(Ch n,Cf n)=(RM a b,Sd a b):=by subst h;rfl
namespace T181
variable {Q:PV→Ob→Prop}
theorem ZQ(n:Nat)(h:(n:Int)<(An:Int)^9000):BR (Cr (n:Int))=true:=F7 (by rw[Ar,Int.natAbs_natCast];exact h)
theorem Aj(g:Nat)(o2 L:Int)(hL:∀n:Nat,(n:Int)<L→BR (Cr (n:Int))=true)(hq:∀ob,Q (.agg [.dat i64 (Ch (g:Int)),.dat (.nlist u64) (Cf (g:Int))]) ob):∀(f x y:Nat),y<f→Nat.gcd x y=g→(x:Int)<L→(y:Int)<L→
  Ends kH (L1 o2 (Ch (y:Int)) (Cf (y:Int)) (Ch (x:Int)) (Cf (x:Int))) Q
 |0,x,y,h,_,_,_=>by omega
 |f+1,x,y,hy,hg,bx,by'=>by
  have jx:BR (Cr (x:Int))=true:=hL x bx;have jy:BR (Cr (y:Int))=true:=hL y by'
  refine zE (Ai ..) (zd (Hy (Hn jy)).1 ?_);rw[Xb,(TS _ _).1,(TS _ _).2,Ol,Rn];by_cases h0:y=0
  ·subst h0;rw[Nat.gcd_zero_right]at hg;subst hg;exact yc rfl (zS (hq _))
  ·have hlt:x % y<y:=Nat.mod_lt _ (by omega);refine zd ?_ (zd (Ak (Ak (Hn jx) (Hn jy)) (decide_eq_true (by omega))) ?_)
   ·rw[IS,if_neg (by omega),if_pos (by omega)];rfl
   ·exact Aj g o2 L hL hq f y (x % y) (by omega) (by rw[Nat.gcd_comm, ←Nat.gcd_rec,Nat.gcd_comm];exact hg) by' (by omega)
set_option maxRecDepth 10000 in
theorem ok:Ad AR 181 eV:=by
 refine Av (X:=kH) rfl bH (d:=9) (by kernel_rfl) (by kernel_rfl) (by kernel_rfl) (fun(i:(Int×List Int)×(Int×List Int)) hi=>?_) (Ab (by kernel_rfl));obtain⟨a,b⟩:=i;have hi:(BR a&&BR b)=true:=hi;rw[zw]at hi;obtain⟨ha,hb⟩:=hi;have oa:=(Hy ha).1;have ob:=(Hy hb).1;have ba:=bounds ha;have bb:=bounds hb;rw[Ar]at ba bb;refine Ends.eq (Ap a b) (zd oa (zd ob ?_));show Ends kH (L1 0 (MW b) (Mu b) (MW a) (Mu a)) _;rw[(Lx oa).1,(Lx oa).2,(Lx ob).1,(Lx ob).2,Ar,Ar];refine Aj (Nat.gcd (zi a).natAbs (zi b).natAbs) 0 _ ZQ (fun ob=>Ae.of rfl rfl (ZY a b _ ?_)) ((zi b).natAbs+1) _ _ (Nat.lt_succ_self _) rfl ba bb;rw[Iu];rfl
end T181
end Go.Pe
end
section
namespace Go.Pe
open Sp
open Go.Det
theorem lY(n:Nat)(h:n<9223372036854775808):EK .i64 (n:Int) 1=((n % 2:Nat):Int):=by
 have e:(zI 64 (n:Int)&&&zI 64 1).toNat=n % 2:=by
  rw[BitVec.toNat_and];have h1:(zI 64 (n:Int)).toNat=n:=by rw[BitVec.ofInt_natCast,BitVec.toNat_ofNat];exact Nat.mod_eq_of_lt (by omega)
  have h2:(zI 64 1).toNat=2^1-1:=by decide
  rw[h1,h2,Nat.and_two_pow_sub_one_eq_mod]
 show zc .i64 (((zI 64 (n:Int)&&&zI 64 1).toNat:Nat):Int)=_;rw[e];exact wr _ (by omega) (by omega)
namespace T225
variable {Q:PV→Ob→Prop}
theorem QO{c:Int}(h:c≠0):1≤Ah c:=by rw[Ar];omega
theorem U0(c:Int):∀k:Nat,Ah (c^k)=Ah c^k
 |0=>by rw[zH,zH];rfl
 |k+1=>by rw[zr,zr,I8,U0 c k]
theorem one_le_pow{c:Int}(h:1≤c):∀k:Nat,1≤c^k
 |0=>by rw[zH];decide
 |k+1=>by
  rw[zr];have:=zh (one_le_pow h k) (show 0≤c by omega);omega
theorem mN{p c L:Int}{k:Nat}(hL:1<L)(h:Ah (p*c^k)<L)(h1:c=0→Ah p≤1)(h2:c≠0→p≠0):Ah p<L∧(1≤k→Ah c<L)∧(2≤k→Ah (c*c)<L)∧(1≤k→Ah (p*c)<L):=by
 by_cases hc:c=0
 ·subst hc;have:=h1 rfl;have e:Ah 0=0:=rfl;exact⟨by omega,fun _=>by rw[e];omega,fun _=>by rw[zW,e];omega,fun _=>by rw[zW,e];omega⟩
 ·have hp:=QO (h2 hc);have hc1:=QO hc;rw[I8,U0]at h;rw[I8,I8];generalize Ah p=P at*;generalize Ah c=C at*;have k0:1≤C^k:=one_le_pow hc1 k;have a1:P≤P*C^k:=by
   have:=zl k0 (show 0≤P by omega);omega
  have aC:C^k≤P*C^k:=by
   have:=zh hp (show 0≤C^k by omega);omega
  refine⟨by omega,fun hk=>?_,fun hk=>?_,fun hk=>?_⟩
  ·obtain⟨j,rfl⟩:∃j,k=j+1:=⟨k-1,by omega⟩;rw[zr]at aC h;have:=zh (one_le_pow hc1 j) (show 0≤C by omega);omega
  ·obtain⟨j,rfl⟩:∃j,k=j+2:=⟨k-2,by omega⟩;have e:C^(j+2)=C^j*(C*C):=by rw[zr,zr,zk]
   rw[e]at aC h;have:=zh (one_le_pow hc1 j) (zB (show 0≤C by omega) (show 0≤C by omega));omega
  ·obtain⟨j,rfl⟩:∃j,k=j+1:=⟨k-1,by omega⟩;have e:P*C^(j+1)=C^j*(P*C):=by rw[zr,zL]
   rw[e]at h;have:=zh (one_le_pow hc1 j) (zB (show 0≤P by omega) (show 0≤C by omega));omega
theorem Vm{p c:Int}{k j:Nat}(h:k=2*j):p*(c*c)^j=p*c^k:=by
 subst h;rw[Int.pow_mul,zr,zr,zH,zy]
theorem Wy{p c:Int}{k j:Nat}(h:k=2*j+1):p*c*(c*c)^j=p*c^k:=by
 subst h;rw[zr,Int.pow_mul,show c^2=c*c by rw[zr,zr,zH,zy],zk,zn c]
theorem lQ{x:Int}(h:x<(18446744073709551616:Int)^(4000:Nat)):x<(An:Int)^9000:=
 Int.lt_of_lt_of_le h (AT (b:=An) (by decide) (by omega))
theorem Aj(o1 R:Int)(hR:Ah R<(18446744073709551616:Int)^(4000:Nat))(hq:∀ob,Q (.agg [.dat i64 (Ch R),.dat (.nlist u64) (Cf R)]) ob):
  ∀(f k:Nat) (p:Int) (a:Bl),k<f→k≤100000→(1≤k→BR a=true)→p*zi a^k=R→(zi a=0→Ah p≤1)→(zi a≠0→p≠0)→
   Ends jW (L1 (k:Int) (Ch p) (Cf p) o1 a.1 a.2) Q
 |0,k,p,a,h,_,_,_,_,_=>by omega
 |f+1,k,p,a,hk,hk2,ha,he,h1,h2=>by
  have hL:(1:Int)<(18446744073709551616:Int)^(4000:Nat):=Int.lt_of_lt_of_le (show(1:Int)<18446744073709551616^(1:Nat)by decide) (AT (b:=18446744073709551616) (by decide) (by omega));rw[←he]at hR;obtain⟨s1,s2,s3,s4⟩:=mN hL hR h1 h2;by_cases h0:k=0
  ·subst h0;rw[zH,yn]at he;subst he;exact zE (Ai ..) (yc (by simp) (zS (hq _)))
  ·have jp:BR (Ch p,Cf p)=true:=F7 (lQ s1);have ja:BR a=true:=ha (by omega);have ef:ye (k:Int) ((2:Int)^(1:Nat))=((k/2:Nat):Int):=by
    rw[zU _ (by decide)];rfl
   have m1:(GL (Ch p,Cf p) a,GI (Ch p,Cf p) a)=Cr (p*zi a):=by
    show Cr (zi (Cr p)*zi a)=_;rw[Cx]
   have m1s:GL (Ch p,Cf p) (a.1,a.2)=Ch (p*zi a):=congrArg Prod.fst m1;have m1w:GI (Ch p,Cf p) (a.1,a.2)=Cf (p*zi a):=congrArg Prod.snd m1;have m2:zi (Tv a a)=zi a*zi a:=SX a a;have sq:∀q:Int,1<k→q*(zi a*zi a)^(k/2)=p*zi a^k→(zi a=0→Ah q≤1)→(zi a≠0→q≠0)→Ends jW (L1 ((k/2:Nat):Int) (Ch q) (Cf q) o1 (GL (a.1,a.2) (a.1,a.2)) (GI (a.1,a.2) (a.1,a.2))) Q:=by
    intro q hk1 hq' g1 g2;refine Aj o1 R (by rw[he]at hR;exact hR) hq f (k/2) q (Tv a a) (by omega) (by omega) (fun _=>F7 (lQ (s3 (by omega)))) (by rw[m2,hq',he]) (fun z=>g1 ?_) (fun z=>g2 ?_)
    ·rw[m2]at z;rcases Int.mul_eq_zero.1 z with z|z<;>exact z
    ·rintro z2;rw[m2,z2]at z;exact z rfl
   have st:∀q:Int,k=1→q=R→Ends jW (L1 ((k/2:Nat):Int) (Ch q) (Cf q) o1 a.1 a.2) Q:=by
    intro q hk1 hq';subst hk1 hq';exact zE (Ai ..) (yc (by simp) (zS (hq _)))
   refine zE (Ai ..) (zd (decide_eq_true (by omega)) ?_);rw[lY k (by omega),ef,m1s,m1w];refine zD (fun c=>?_) (fun c=>?_)
   ·have c:((k % 2:Nat):Int)=1:=by simpa using c
    refine zd (Ak jp ja) (zD (fun d=>zd (Ak ja ja) (zd rfl ?_)) (fun d=>zd rfl ?_))
    ·have d:=of_decide_eq_true d;refine sq _ (by omega) (Wy (by omega)) (fun z=>by rw[z,zW];decide) (fun z=>?_);exact Int.mul_ne_zero (h2 z) z
    ·have d:=of_decide_eq_false d;have hk1:k=1:=by omega
     refine st _ hk1 ?_;rw[←he,hk1,zr,zH,zy]
   ·have c:((k % 2:Nat):Int)≠1:=by simpa using c
    refine zD (fun d=>zd (Ak ja ja) (zd rfl ?_)) (fun d=>?_)
    ·have d:=of_decide_eq_true d;exact sq _ (by omega) (Vm (by omega)) h1 h2
    ·have d:=of_decide_eq_false d;omega
theorem Zc:∀g sp,jW.sp g=some sp→Ad AR g sp:=Ac T184n.ok (Ac T186.ok (fun g sp h=>by cases h))
theorem ok:Ad AR 225 Yz:=by
 refine Av (X:=jW) rfl Zc (d:=9) (by kernel_rfl) (by kernel_rfl) (by kernel_rfl) (fun(i:(Int×List Int)×Int) hi=>?_) (Ab (by kernel_rfl));obtain⟨a,k⟩:=i;have hi:(BR a&&(decide (0≤k)&&decide (k≤100000)&&decide (Ah (Sp.pI (zi a) k)<(18446744073709551616:Int)^(4000:Nat))))=true:=hi;rw[zw,zw,zw,decide_eq_true_eq,decide_eq_true_eq,decide_eq_true_eq,QD]at hi;obtain⟨ha,⟨k0,k1⟩,hR⟩:=hi;obtain⟨n,rfl⟩:=Int.eq_ofNat_of_zero_le k0;have e1:DE 1=Cf 1:=by rw[CH];rfl
 refine Ends.eq (Ap a n) (zd rfl ?_);rw[e1];refine Aj (Q:=Ae Yz (a,(n:Int))) 0 (zi a^n) hR (fun ob=>Ae.of rfl rfl ?_) (n+1) n 1 a (by omega) (by omega) (fun _=>ha) (zy _) (fun _=>by decide) (fun _=>by decide);show Cr _=Cr (Sp.pI (zi a) (n:Int));rw[QD];rfl
end T225
end Go.Pe
end
