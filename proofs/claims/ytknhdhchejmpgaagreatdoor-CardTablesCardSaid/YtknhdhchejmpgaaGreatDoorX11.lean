import Derived.Lib.ItoaMem
import Derived.Test.YtknhdhchejmpgaaGreatDoorX10
import Derived.Test.YtknhdhchejmpgaaGreatDoorX09
/- A part of a proof (no law is stated here). Made by program out of texts by AI agents. -/
open Go.IntKind renaming wrap → zc, u64 → zd, u8 → zJ, i64 → zO
open Go.Pe.Sh renaming int → ze, nlist → zf, list → zg, bool → zi, str → zj, pair → zm, T → zY
open Nat renaming add → zh, sub → zz, add_sub_cancel → zI
open UInt8 renaming toNat → zk
open Int renaming mul_le_mul_of_nonneg_right → zl, mul_assoc → zn, mul_comm → zq, add_mul → zw, mul_add → zy, toNat_natCast → zA, tmod → zC, one_mul → zD, mul_le_mul_of_nonneg_left → zE, le_of_lt → zF, mul_nonneg → zG, mul_ediv_add_emod → zN, tdiv → zP, pow_succ → zR, mul_sub → zU, mul_zero → zW, add_zero → zX
open Go.Pe.Ends renaming tt → zo
open Go.Pe.PV renaming agg → zp
open Go.Sp renaming val → zr, u64 → zu, first → zT, AX → zZ
open List renaming getD_eq_getElem?_getD → zt, getElem?_eq_getElem → zH, replicate → zK, append_assoc → zL, take_of_length_le → zM, map → zQ, drop_eq_getElem_cons → zS
open Option renaming getD → zB
open Min renaming min → zV
section
namespace Go.Sp
open Go.Lib
theorem E4(a d:Nat)(ha:0<a)(hd:d<10):decDigits (10*a+d)=decDigits a++[UInt8.ofNat (48+d)]:=by
 rw[decDigits,dif_neg (by omega),show(10*a+d)/10=a from by omega,show(10*a+d) % 10=d from by omega]
theorem Y0(a d:Nat)(ha:0<a)(hd:d<10):nDigits (10*a+d)=nDigits a+1:=by
 rw[nDigits_big (by omega),show(10*a+d)/10=a from by omega]
def Fx(k b:Nat):List UInt8:=zK (k-nDigits b) 48++decDigits b
theorem PW(k b d:Nat)(hk:1≤k)(hd:d<10):Fx (k+1) (10*b+d)=Fx k b++[UInt8.ofNat (48+d)]:=by
 unfold Fx;rcases Nat.eq_zero_or_pos b with rfl|hb
 ·rw[Nat.mul_zero,Nat.zero_add,nDigits_small hd,decDigits_one hd,nDigits_small (by omega),decDigits_one (by omega)];obtain⟨j,rfl⟩:∃j,k=j+1:=⟨k-1,by omega⟩;have e:(48:UInt8)=UInt8.ofNat (48+0):=rfl;rw[zI,zI, ←e,List.replicate_succ',zL]
 ·rw[Y0 b d hb hd,E4 b d hb hd, ←zL,Nat.add_sub_add_right]
theorem RK:∀(k a b:Nat),1≤k→0<a→b<10^k→decDigits (a*10^k+b)=decDigits a++Fx k b
 |0,_,_,h,_,_=>by omega
 |1,a,b,_,ha,hb=>by
  rw[Nat.pow_one]at*;rw[Nat.mul_comm,E4 a b ha hb];unfold Fx;rw[nDigits_small hb,decDigits_one hb];rfl
 |k+2,a,b,_,ha,hb=>by
  have h1:b=10*(b/10)+b % 10:=by omega
  have h2:b/10<10^(k+1):=by
   rw[Nat.pow_succ 10 (k+1)]at hb;omega
  have h3:a*10^(k+2)+b=10*(a*10^(k+1)+b/10)+b % 10:=by
   rw[Nat.pow_succ 10 (k+1), ←Nat.mul_assoc];omega
  have hp:0<a*10^(k+1):=Nat.mul_pos ha (Nat.pow_pos (by omega));have ih:=RK (k+1) a (b/10) (by omega) ha h2;have hs:=PW (k+1) (b/10) (b % 10) (by omega) (by omega);rw[h3,E4 _ _ (by omega) (by omega),ih,zL, ←hs, ←h1]
def Cb:Nat→Nat→List (List UInt8)
 |0,_=>[]
 |f+1,v=>if v<10^18 then[decDigits v]else Fx 18 (v % 10^18)::Cb f (v/10^18)
theorem HK:∀(f v:Nat),v<f→(Cb f v).reverse.flatten=decDigits v
 |0,_,h=>by omega
 |f+1,v,h=>by
  unfold Cb;split
  ·simp
  ·next c=>
   have hp:1≤v/10^18:=by omega
   have h1:v/10^18<f:=by omega
   have h2:=HK f (v/10^18) h1;rw[List.reverse_cons,List.flatten_append,h2];have h3:=RK 18 (v/10^18) (v % 10^18) (by omega) (by omega) (Nat.mod_lt _ (by decide));rw[show v/10^18*10^18+v % 10^18=v from by omega]at h3;rw[h3];simp
end Go.Sp
end
section
namespace Go.Pe
open Sp
open Go.Det
noncomputable section
open List Int Prod
namespace T87
def T(s:List UInt8):Tr:=tree W3 false 9 87 (Ah ([zj]) s)
theorem An(s:List UInt8):T s=let a':=zf (ze zd);let b':=CX (Ax s);let c':=C1 (Ax s);.ite (rA s [(47:UInt8)]) (.ite (!Bm s) (.ite (D3 (Ax s)) (.ite true (.leaf (zp [.dat i64 b',.dat a' c',.dat i64 (1:Int),.dat a' (Eg 1)]) ([(zh (zh 0 1) 1,.box [.dat i64 b',.dat a' c',.dat i64 (1:Int),.dat a' (Eg 1)]),(zh 0 1,.box [.dat i64 b',.dat a' c']),(0,.box [.dat i64 b',.dat a' c',.dat i64 (1:Int),.dat a' (Eg 1)])])) .fail) .fail) (.ite (D3 (Ax s)) (.ite (D3 (Sp.AO s)) (.leaf (zp [.dat i64 b',.dat a' c',.dat i64 (CX (Sp.AO s)),.dat a' (C1 (Sp.AO s))]) ([(0,.box [.dat i64 b',.dat a' c',.dat i64 (CX (Sp.AO s)),.dat a' (C1 (Sp.AO s))])])) .fail) .fail)) .fail:=by kernel_rfl
end T87
namespace T175
def T(a b:Int×List Int):Tr:=tree W3 false 9 175 (Ah ([zm i64 (zf (ze zd)),zm i64 (zf (ze zd))]) (a,b))
def L1(o2 o1:Int)(o1_1:List Int)(o0:Int)(o0_1:List Int):Tr:=re ((T (0,[]) (0,[])).L.L.L.L) (AI 21 [(2,.ptr 0 0),(3,.ptr 1 0),(4,.ptr 2 0)] [(2,.box [.dat i64 o2,.nil]),(1,.box [.dat i64 o1,.dat (zf (ze zd)) o1_1]),(0,.box [.dat i64 o0,.dat (zf (ze zd)) o0_1])] 3)
theorem An(a b:Int×List Int):T a b=.ite (Dt (fst b,snd b)) (.ite (decide (HW (fst b,snd b)<0)) (.ite (Dt (fst a,snd a)) (.ite (Dt (fst b,snd b)) (L1 0 (DY (fst b,snd b)) (DW (fst b,snd b)) (DY (fst a,snd a)) (DW (fst a,snd a))) .fail) .fail) (L1 0 (fst b) (snd b) (fst a) (snd a))) .fail:=by kernel_rfl
theorem Ar(o2 o1:Int)(o1_1:List Int)(o0:Int)(o0_1:List Int):stepT W3 (L1 o2 o1 o1_1 o0 o0_1)=let a':=zf (ze zd);let b':=mY (o0,o0_1) (o1,o1_1);let c':=mN (o0,o0_1) (o1,o1_1);.ite (Ba (o0,o0_1)&&Ba (o1,o1_1)&&decide (0<Sp.vI (o1,o1_1))) (.leaf (zp [.dat i64 b',.dat a' c']) ([(zh 3 1,.box [.dat i64 (Wb (o0,o0_1) (o1,o1_1)),.dat a' (Wh (o0,o0_1) (o1,o1_1))]),(3,.box [.dat i64 b',.dat a' c']),(2,.box [.dat i64 b',.dat a' c']),(1,.box [.dat i64 o1,.dat a' o1_1]),(0,.box [.dat i64 o0,.dat a' o0_1])])) .fail:=by kernel_rfl
end T175
namespace T104
def T(n d:Int×List Int):Tr:=tree nF false 9 104 (Ah ([zm i64 (zf (ze zd)),zm i64 (zf (ze zd))]) (n,d))
def L1(o2 o2_1 o1:Int)(o1_1:List Int)(o0:Int)(o0_1:List Int):Tr:=re ((T (0,[]) (0,[])).L.L.L.L) (AI 34 [(2,.ptr 0 0),(3,.ptr 1 0),(4,.ptr 2 0)] [(2,.box [.dat i64 o2,.nil,.dat i64 o2_1,.nil]),(1,.box [.dat i64 o1,.dat (zf (ze zd)) o1_1]),(0,.box [.dat i64 o0,.dat (zf (ze zd)) o0_1])] 3)
theorem An(n d:Int×List Int):T n d=.ite (Dt (fst d,snd d)) (.ite (decide (HW (fst d,snd d)<0)) (.ite (Dt (fst n,snd n)) (.ite (Dt (fst d,snd d)) (L1 0 0 (DY (fst d,snd d)) (DW (fst d,snd d)) (DY (fst n,snd n)) (DW (fst n,snd n))) .fail) .fail) (L1 0 0 (fst d) (snd d) (fst n) (snd n))) .fail:=by kernel_rfl
def L2(o3:Int)(o3_1:List Int)(o2 o2_1 o1:Int)(o1_1:List Int)(o0:Int)(o0_1:List Int):Tr:=re ((stepT nF (L1 0 0 0 [] 0 [])).L.R.L) (AI 34 [(2,.ptr 0 0),(3,.ptr 1 0),(4,.ptr 2 0),(5,.ptr 3 0)] [(3,.box [.dat i64 o3,.dat (zf (ze zd)) o3_1]),(2,.box [.dat i64 o2,.nil,.dat i64 o2_1,.nil]),(1,.box [.dat i64 o1,.dat (zf (ze zd)) o1_1]),(0,.box [.dat i64 o0,.dat (zf (ze zd)) o0_1])] 4)
theorem Ar(o2 o2_1 o1:Int)(o1_1:List Int)(o0:Int)(o0_1:List Int):stepT nF (L1 o2 o2_1 o1 o1_1 o0 o0_1)=let a':=zf (ze zd);let b':Tr:=.ite (Ba (o0,o0_1)&&Ba (o1,o1_1)) (L2 (Mc (o0,o0_1) (o1,o1_1)) (LL (o0,o0_1) (o1,o1_1)) o2 o2_1 o1 o1_1 o0 o0_1) .fail;.ite (!decide (0<length o1_1)) (.ite (o1==1) (.leaf (zp [.dat i64 o0,.dat a' o0_1,.dat i64 o1,.dat a' o1_1]) ([(2,.box [.dat i64 o0,.dat a' o0_1,.dat i64 o1,.dat a' o1_1]),(1,.box [.dat i64 o1,.dat a' o1_1]),(0,.box [.dat i64 o0,.dat a' o0_1])])) b') b':=by kernel_rfl
theorem A1(o3:Int)(o3_1:List Int)(o2 o2_1 o1:Int)(o1_1:List Int)(o0:Int)(o0_1:List Int):stepT nF (L2 o3 o3_1 o2 o2_1 o1 o1_1 o0 o0_1)=let a':=zf (ze zd);let b':=vG (o0,o0_1) (o3,o3_1);let c':=wF (o0,o0_1) (o3,o3_1);let d':=vG (o1,o1_1) (o3,o3_1);let e':=wF (o1,o1_1) (o3,o3_1);.ite (KZ (o0,o0_1) (o3,o3_1)) (.ite (KZ (o1,o1_1) (o3,o3_1)) (.leaf (zp [.dat i64 b',.dat a' c',.dat i64 d',.dat a' e']) ([(3,.box [.dat i64 o3,.dat a' o3_1]),(2,.box [.dat i64 b',.dat a' c',.dat i64 d',.dat a' e']),(1,.box [.dat i64 o1,.dat a' o1_1]),(0,.box [.dat i64 o0,.dat a' o0_1])])) .fail) .fail:=by kernel_rfl
end T104
namespace T156
def T(a:(Int×List Int)×Int×List Int):Tr:=tree W3 false 9 156 (Ah ([zm (zm i64 (zf (ze zd))) (zm i64 (zf (ze zd)))]) a)
theorem An(a:(Int×List Int)×Int×List Int):T a=let b':=zf (ze zd);let a':=[(0,.box [.dat i64 (fst (fst a)),.dat b' (snd (fst a)),.dat i64 (fst (snd a)),.dat b' (snd (snd a))])];.ite (!decide (0<length (snd (snd a)))) (.leaf (.dat zi (fst (snd a)==1)) a') (.leaf (.bl false) a'):=by kernel_rfl
end T156
namespace T157
def T(n:Int×List Int):Tr:=tree W3 false 9 157 (Ah ([zm i64 (zf (ze zd))]) n)
theorem An(n:Int×List Int):T n=let a':=zf (ze zd);.ite true (.leaf (zp [.dat i64 (fst n),.dat a' (snd n),.dat i64 (1:Int),.dat a' (Eg 1)]) ([(zh 0 1,.box [.dat i64 (fst n),.dat a' (snd n),.dat i64 (1:Int),.dat a' (Eg 1)]),(0,.box [.dat i64 (fst n),.dat a' (snd n)])])) .fail:=by kernel_rfl
end T157
namespace T160
def T(a:(Int×List Int)×Int×List Int):Tr:=tree W3 false 9 160 (Ah ([zm (zm i64 (zf (ze zd))) (zm i64 (zf (ze zd)))]) a)
theorem An(a:(Int×List Int)×Int×List Int):T a=let a':=zf (ze zd);let b':=(fst (fst a),snd (fst a));.ite (Dt b') (.leaf (zp [.dat i64 (DY b'),.dat a' (DW b'),.dat i64 (fst (snd a)),.dat a' (snd (snd a))]) ([(zh 0 1,.box [.dat i64 (DY b'),.dat a' (DW b'),.dat i64 (fst (snd a)),.dat a' (snd (snd a))]),(0,.box [.dat i64 (fst (fst a)),.dat a' (snd (fst a)),.dat i64 (fst (snd a)),.dat a' (snd (snd a))])])) .fail:=by kernel_rfl
end T160
namespace T80
def T(a:(Int×List Int)×Int×List Int)(b:(Int×List Int)×Int×List Int):Tr:=tree fC false 9 80 (Ah ([zm (zm i64 (zf (ze zd))) (zm i64 (zf (ze zd))),zm (zm i64 (zf (ze zd))) (zm i64 (zf (ze zd)))]) (a,b))
def L1(o2 o2_1 o1:Int)(o1_1:List Int)(o1_2:Int)(o1_3:List Int)(o0:Int)(o0_1:List Int)(o0_2:Int)(o0_3:List Int):Tr:=re ((T ((0,[]),(0,[])) ((0,[]),(0,[]))).L.L.L.R) (AI 34 [(2,.ptr 0 0),(3,.ptr 1 0),(4,.ptr 2 0)] [(2,.box [.dat i64 o2,.nil,.dat i64 o2_1,.nil]),(1,.box [.dat i64 o1,.dat (zf (ze zd)) o1_1,.dat i64 o1_2,.dat (zf (ze zd)) o1_3]),(0,.box [.dat i64 o0,.dat (zf (ze zd)) o0_1,.dat i64 o0_2,.dat (zf (ze zd)) o0_3])] 3)
theorem An(a:(Int×List Int)×Int×List Int)(b:(Int×List Int)×Int×List Int):T a b=let a':=zf (ze zd);let b':=L1 0 0 (fst (fst b)) (snd (fst b)) (fst (snd b)) (snd (snd b)) (fst (fst a)) (snd (fst a)) (fst (snd a)) (snd (snd a));let c':=(fst (fst a),snd (fst a));let d':=(fst (fst b),snd (fst b));.ite true (.ite (Cz (fst (snd a),snd (snd a))) (.ite true (.ite (Cz (fst (snd b),snd (snd b))) (.ite (Ba c'&&Ba d') (.ite true (.leaf (zp [.dat i64 (HQ c' d'),.dat a' (HJ c' d'),.dat i64 (1:Int),.dat a' (Eg 1)]) ([(zh (zh 0 1) 1,.box [.dat i64 (HQ c' d'),.dat a' (HJ c' d'),.dat i64 (1:Int),.dat a' (Eg 1)]),(zh 0 1,.box [.dat i64 (fst (fst b)),.dat a' (snd (fst b)),.dat i64 (fst (snd b)),.dat a' (snd (snd b))]),(0,.box [.dat i64 (fst (fst a)),.dat a' (snd (fst a)),.dat i64 (fst (snd a)),.dat a' (snd (snd a))])])) .fail) .fail) b') .fail) b') .fail:=by kernel_rfl
theorem Ar(o2 o2_1 o1:Int)(o1_1:List Int)(o1_2:Int)(o1_3:List Int)(o0:Int)(o0_1:List Int)(o0_2:Int)(o0_3:List Int):stepT fC (L1 o2 o2_1 o1 o1_1 o1_2 o1_3 o0 o0_1 o0_2 o0_3)=let b':=(EA (o0_2,o0_3) (o1_2,o1_3),Ez (o0_2,o0_3) (o1_2,o1_3));let c':=zf (ze zd);let d':=(EA (o0,o0_1) (o1_2,o1_3),Ez (o0,o0_1) (o1_2,o1_3));let e':=(EA (o1,o1_1) (o0_2,o0_3),Ez (o1,o1_1) (o0_2,o0_3));let a':=(HQ d' e',HJ d' e');.ite (Ba (o0,o0_1)&&Ba (o1_2,o1_3)) (.ite (Ba (o1,o1_1)&&Ba (o0_2,o0_3)) (.ite (Ba d'&&Ba e') (.ite (Ba (o0_2,o0_3)&&Ba (o1_2,o1_3)) (.ite (KZ a' b') (.leaf (zp [.dat i64 (Vr a' b'),.dat c' (UG a' b'),.dat i64 (UO a' b'),.dat c' (UE a' b')]) ([(2,.box [.dat i64 (Vr a' b'),.dat c' (UG a' b'),.dat i64 (UO a' b'),.dat c' (UE a' b')]),(1,.box [.dat i64 o1,.dat c' o1_1,.dat i64 o1_2,.dat c' o1_3]),(0,.box [.dat i64 o0,.dat c' o0_1,.dat i64 o0_2,.dat c' o0_3])])) .fail) .fail) .fail) .fail) .fail:=by kernel_rfl
end T80
namespace T82
def T(a:(Int×List Int)×Int×List Int)(b:(Int×List Int)×Int×List Int):Tr:=tree fC false 9 82 (Ah ([zm (zm i64 (zf (ze zd))) (zm i64 (zf (ze zd))),zm (zm i64 (zf (ze zd))) (zm i64 (zf (ze zd)))]) (a,b))
theorem An(a:(Int×List Int)×Int×List Int)(b:(Int×List Int)×Int×List Int):T a b=let c':=zf (ze zd);let d':=(fst (fst a),snd (fst a));let e':=(fst (fst b),snd (fst b));let f':=(fst (snd a),snd (snd a));let g':=(fst (snd b),snd (snd b));let a':=(EA d' e',Ez d' e');let b':=(EA f' g',Ez f' g');.ite (Ba d'&&Ba e') (.ite (Ba f'&&Ba g') (.ite (KZ a' b') (.leaf (zp [.dat i64 (Vr a' b'),.dat c' (UG a' b'),.dat i64 (UO a' b'),.dat c' (UE a' b')]) ([(zh (zh 0 1) 1,.box [.dat i64 (Vr a' b'),.dat c' (UG a' b'),.dat i64 (UO a' b'),.dat c' (UE a' b')]),(zh 0 1,.box [.dat i64 (fst (fst b)),.dat c' (snd (fst b)),.dat i64 (fst (snd b)),.dat c' (snd (snd b))]),(0,.box [.dat i64 (fst (fst a)),.dat c' (snd (fst a)),.dat i64 (fst (snd a)),.dat c' (snd (snd a))])])) .fail) .fail) .fail:=by kernel_rfl
end T82
namespace T161
def T(a:(Int×List Int)×Int×List Int):Tr:=tree fC false 9 161 (Ah ([zm (zm i64 (zf (ze zd))) (zm i64 (zf (ze zd)))]) a)
theorem An(a:(Int×List Int)×Int×List Int):T a=let a':=(fst (snd a),snd (snd a));let b':=(fst (fst a),snd (fst a));let c':=zf (ze zd);.ite (KZ a' b') (.leaf (zp [.dat i64 (Vr a' b'),.dat c' (UG a' b'),.dat i64 (UO a' b'),.dat c' (UE a' b')]) ([(zh 0 1,.box [.dat i64 (Vr a' b'),.dat c' (UG a' b'),.dat i64 (UO a' b'),.dat c' (UE a' b')]),(0,.box [.dat i64 (fst (fst a)),.dat c' (snd (fst a)),.dat i64 (fst (snd a)),.dat c' (snd (snd a))])])) .fail:=by kernel_rfl
end T161
namespace T81
def T(a:(Int×List Int)×Int×List Int)(b:(Int×List Int)×Int×List Int):Tr:=tree uF false 9 81 (Ah ([zm (zm i64 (zf (ze zd))) (zm i64 (zf (ze zd))),zm (zm i64 (zf (ze zd))) (zm i64 (zf (ze zd)))]) (a,b))
theorem An(a:(Int×List Int)×Int×List Int)(b:(Int×List Int)×Int×List Int):T a b=let b':=((fst (fst a),snd (fst a)),fst (snd a),snd (snd a));let c':=zf (ze zd);let d':=(fst (fst b),snd (fst b));let a':=((DY d',DW d'),fst (snd b),snd (snd b));.ite (Dt d') (.ite (Sp.De b'&&Sp.De a') (.leaf (zp [.dat i64 (aF b' a'),.dat c' (bN b' a'),.dat i64 (cV b' a'),.dat c' (Y3 b' a')]) ([(zh (zh 0 1) 1,.box [.dat i64 (aF b' a'),.dat c' (bN b' a'),.dat i64 (cV b' a'),.dat c' (Y3 b' a')]),(zh 0 1,.box [.dat i64 (fst (fst b)),.dat c' (snd (fst b)),.dat i64 (fst (snd b)),.dat c' (snd (snd b))]),(0,.box [.dat i64 (fst (fst a)),.dat c' (snd (fst a)),.dat i64 (fst (snd a)),.dat c' (snd (snd a))])])) .fail) .fail:=by kernel_rfl
end T81
namespace T86
def T(a:(Int×List Int)×Int×List Int)(b:(Int×List Int)×Int×List Int):Tr:=tree uF false 9 86 (Ah ([zm (zm i64 (zf (ze zd))) (zm i64 (zf (ze zd))),zm (zm i64 (zf (ze zd))) (zm i64 (zf (ze zd)))]) (a,b))
theorem An(a:(Int×List Int)×Int×List Int)(b:(Int×List Int)×Int×List Int):T a b=let b':=((fst (fst a),snd (fst a)),fst (snd a),snd (snd a));let c':=zf (ze zd);let e':=(fst (fst b),snd (fst b));let d':=(e',fst (snd b),snd (snd b));let a':=S5 d';.ite (Sp.De d'&&decide (Sp.vI e'≠0)) (.ite (Sp.De b'&&Sp.De a') (.leaf (zp [.dat i64 (dZ b' a'),.dat c' (ZE b' a'),.dat i64 (dF b' a'),.dat c' (dE b' a')]) ([(zh (zh 0 1) 1,.box [.dat i64 (dZ b' a'),.dat c' (ZE b' a'),.dat i64 (dF b' a'),.dat c' (dE b' a')]),(zh 0 1,.box [.dat i64 (fst (fst b)),.dat c' (snd (fst b)),.dat i64 (fst (snd b)),.dat c' (snd (snd b))]),(0,.box [.dat i64 (fst (fst a)),.dat c' (snd (fst a)),.dat i64 (fst (snd a)),.dat c' (snd (snd a))])])) .fail) .fail:=by kernel_rfl
end T86
namespace T88
def T(a:(Int×List Int)×Int×List Int)(b:(Int×List Int)×Int×List Int):Tr:=tree W3 false 9 88 (Ah ([zm (zm i64 (zf (ze zd))) (zm i64 (zf (ze zd))),zm (zm i64 (zf (ze zd))) (zm i64 (zf (ze zd)))]) (a,b))
theorem An(a:(Int×List Int)×Int×List Int)(b:(Int×List Int)×Int×List Int):T a b=let c':=zf (ze zd);let d':=(fst (fst a),snd (fst a));let e':=(fst (snd b),snd (snd b));let f':=(fst (fst b),snd (fst b));let g':=(fst (snd a),snd (snd a));let a':=(EA d' e',Ez d' e');let b':=(EA f' g',Ez f' g');.ite (Ba d'&&Ba e') (.ite (Ba f'&&Ba g') (.ite (Ba a'&&Ba b') (.leaf (.dat i64 (Yl a' b')) ([(zh 0 1,.box [.dat i64 (fst (fst b)),.dat c' (snd (fst b)),.dat i64 (fst (snd b)),.dat c' (snd (snd b))]),(0,.box [.dat i64 (fst (fst a)),.dat c' (snd (fst a)),.dat i64 (fst (snd a)),.dat c' (snd (snd a))])])) .fail) .fail) .fail:=by kernel_rfl
end T88
end
noncomputable section
open List Int Prod
namespace T89
def T(s:List UInt8):Tr:=tree I4 false 9 89 (Ah ([zj]) s)
def L1(v0:List UInt8)(v3:Int):Tr:=re ((T [])) (AI 17 [(0,.dat zj v0),(3,.dat i64 v3)] [] 0)
theorem An(s:List UInt8):T s=L1 s 0:=by kernel_rfl
theorem Ar(v0:List UInt8)(v3:Int):stepT I4 (L1 v0 v3)=let a':=(length v0:Int);.ite (decide (v3<a')) (.ite (decide (0≤v3)&&decide (v3<a')) (.ite ((↑(zk (getD v0 (toNat v3) (0:UInt8))):Int)==47) (.leaf (.dat i64 v3) []) (L1 v0 (zc .i64 (v3+1)))) .fail) (.leaf (.dat i64 a') []):=by kernel_rfl
end T89
namespace T90
def T(s:List UInt8):Tr:=tree I4 false 9 90 (Ah ([zj]) s)
def L1(s v0:List UInt8)(v3:Int):Tr:=re ((T s).R.L.L.R) (AI 20 [(0,.dat zj v0),(3,.dat i64 v3)] [] 0)
def L2(s v0:List UInt8)(v3:Int):Tr:=re ((T s).R.R) (AI 20 [(0,.dat zj v0),(3,.dat i64 v3)] [] 0)
theorem An(s:List UInt8):T s=let a':=(length s:Int);.ite (a'==0) (.leaf (.bl false) []) (.ite (decide (a'>1)) (.ite (decide (0<a')) (.ite ((↑(zk (getD s 0 (0:UInt8))):Int)==48) (.leaf (.bl false) []) (L1 s s 0)) .fail) (L2 s s 0)):=by kernel_rfl
theorem Ar(s v0:List UInt8)(v3:Int):stepT I4 (L1 s v0 v3)=let a':=decide (v3<(length v0:Int));let b':=(↑(zk (getD v0 (toNat v3) (0:UInt8))):Int);.ite (a') (.ite (decide (0≤v3)&&a') (.ite (decide (b'<48)) (.leaf (.bl false) []) (.ite (decide (0≤v3)&&a') (.ite (decide (b'>57)) (.leaf (.bl false) []) (L1 s v0 (zc .i64 (v3+1)))) .fail)) .fail) (.leaf (.bl true) []):=by kernel_rfl
theorem A1(s v0:List UInt8)(v3:Int):stepT I4 (L2 s v0 v3)=let a':=decide (v3<(length v0:Int));let b':=(↑(zk (getD v0 (toNat v3) (0:UInt8))):Int);.ite (a') (.ite (decide (0≤v3)&&a') (.ite (decide (b'<48)) (.leaf (.bl false) []) (.ite (decide (0≤v3)&&a') (.ite (decide (b'>57)) (.leaf (.bl false) []) (L2 s v0 (zc .i64 (v3+1)))) .fail)) .fail) (.leaf (.bl true) []):=by kernel_rfl
end T90
namespace T107
def T(n:Int):Tr:=tree gN false 9 107 (Ah ([ze zO]) n)
def L1(v0:Int)(v4:Bool):Tr:=re ((T 0)) (AI 25 [(0,.dat i64 v0),(2,.ptr 0 0),(3,.nil),(4,.dat zi v4)] [(0,.box [.bl false,.nil])] 1)
theorem An(n:Int):T n=L1 n (decide (n<0)):=by kernel_rfl
def L2(v0:Int)(v3n:Nat)(v4:Bool)(o1:List Int):Tr:=re ((stepT gN (L1 0 false)).L.L.L.L.L) (AI 25 [(0,.dat i64 v0),(2,.ptr 0 0),(3,.sl 1 1 0 v3n none),(4,.dat zi v4)] [(1,.arr false 3 i64 o1),(0,.box [.bl false,.nil])] 2)
theorem Ar(v0:Int)(v4:Bool):stepT gN (L1 v0 v4)=let a':=decide (1≤1)&&decide (0<1)&&decide ((2*1+1000)*8≤281474976710656);let b':=zc .i64 (zP v0 1000000000);.ite (v0 !=0) (.ite true (.ite (decide (zC v0 1000000000<0)) (.ite a' (.ite true (L2 b' 1 v4 ([zc .i64 (0-zC v0 1000000000)])) .fail) .fail) (.ite a' (.ite true (L2 b' 1 v4 ([zC v0 1000000000])) .fail) .fail)) .fail) (.ite (decide (0≤20000)) (.leaf (zp [.dat zi (Sp.B5 v4 []),.dat (zg i64) (Sp.Au [])]) ([(0,.box [.dat zi (Sp.B5 v4 []),.dat (zg i64) (Sp.Au [])])])) .fail):=by kernel_rfl
theorem A1(v0:Int)(v3n:Nat)(v4:Bool)(o1:List Int):stepT gN (L2 v0 v3n v4 o1)=let a':=decide (1≤1)&&true&&decide (v3n=length o1)&&decide ((2*(v3n+1)+1000)*8≤281474976710656);let b':=zc .i64 (zP v0 1000000000);let c':=Sp.B5 v4 (take v3n o1);let d':=Sp.Au (take v3n o1);.ite (v0 !=0) (.ite true (.ite (decide (zC v0 1000000000<0)) (.ite a' (.ite true (L2 b' (zh v3n 1) v4 (o1++[zc .i64 (0-zC v0 1000000000)])) .fail) .fail) (.ite a' (.ite true (L2 b' (zh v3n 1) v4 (o1++[zC v0 1000000000])) .fail) .fail)) .fail) (.ite (decide (0+v3n≤length o1)&&true&&decide (length (take v3n o1)≤20000)) (.leaf (zp [.dat zi c',.dat (zg i64) d']) ([(1,.arr true 3 i64 o1),(0,.box [.dat zi c',.dat (zg i64) d'])])) .fail):=by kernel_rfl
end T107
end
end Go.Pe
end
section
namespace Go.Pe
open Sp
open Go.Det
noncomputable section
open List Int Prod
namespace T91
def T(a:List UInt8):Tr:=tree wD false 9 91 (Ah ([zj]) a)
theorem An(a:List UInt8):T a=let b':=take (toNat (AY a)) a;let c':=zc .i64 (AY a+1);let a':=take (zz (length a) (toNat c')) (drop (toNat c') a);.ite (decide (length a≤1000000)) (.ite (AY a==(length a:Int)) (.ite (D3 a) (.ite true (.leaf (.tup [zp [.dat zi (EJ a),.dat (zg i64) (EN a)],zp [.dat zi false,.dat (zg i64) (Sp.rW 1)]]) ([(zh 0 1,.box [.dat zi false,.dat (zg i64) (Sp.rW 1)]),(0,.box [.dat zi (EJ a),.dat (zg i64) (EN a)])])) .fail) .fail) (.ite (decide (0≤AY a)&&decide (0≤toNat (AY a))&&decide (toNat (AY a)≤length a)) (.ite (decide (0≤zc .i64 (AY a+1))&&true&&decide (toNat c'≤length a)&&decide (length a≤length a)) (.ite (D3 b') (.ite (D3 a') (.leaf (.tup [zp [.dat zi (EJ b'),.dat (zg i64) (EN b')],zp [.dat zi (EJ a'),.dat (zg i64) (EN a')]]) ([(zh 0 1,.box [.dat zi (EJ a'),.dat (zg i64) (EN a')]),(0,.box [.dat zi (EJ b'),.dat (zg i64) (EN b')])])) .fail) .fail) .fail) .fail)) .fail:=by kernel_rfl
end T91
end
end Go.Pe
end
section
namespace Go.Pe
open Sp
open Go.Det
noncomputable section
open List Int Prod
namespace T24
def T(a:List UInt8):Tr:=tree R2 false 9 24 (Ah ([zj]) a)
def L1(v0 v3:List UInt8):Tr:=re ((T []).L.L.L.L) (AI 96 [(0,.dat zj v0),(3,.dat zj v3)] [] 0)
theorem An(a:List UInt8):T a=.ite (decide ((length a:Int)>0)) (.ite (decide (0<(length a:Int))) (.ite ((↑(zk (getD a 0 (0:UInt8))):Int)==45) (.ite (decide (1≤length a)&&decide (length a≤length a)) (L1 a (take (zz (length a) 1) (drop 1 a))) .fail) (L1 a a)) .fail) (L1 a a):=by kernel_rfl
def L2(v3:List UInt8)(v4:Int):Tr:=re ((stepT R2 (L1 [] [])).L.L.L.R.L.L.L.R) (AI 96 [(3,.dat zj v3),(4,.dat i64 v4)] [] 0)
theorem Ar(v0 v3:List UInt8):stepT R2 (L1 v0 v3)=let b':=AY v3;let c':Tr:=.leaf (.dat i64 (1:Int)) [];let a':=decide (0≤AY v3)&&decide (0≤toNat b')&&decide (toNat b'≤length v3);.ite (decide (length v3≤1000000)) (.ite a' (.ite (decide (length (take (toNat b') v3)≤1000000)) (.ite (!AU (take (toNat b') v3)) c' (.ite (decide (0<(length v0:Int))) (.ite ((↑(zk (getD v0 0 (0:UInt8))):Int)==45) (.ite a' (.ite (take (toNat b') v3==[(48:UInt8)]) c' (L2 v3 b')) .fail) (L2 v3 b')) .fail)) .fail) .fail) .fail:=by kernel_rfl
def L3(v3:List UInt8)(v4:Int):Tr:=re ((stepT R2 (L2 [] 0)).L.L.L.R.L.R.L.R) (AI 96 [(3,.dat zj v3),(4,.dat i64 v4)] [] 0)
theorem A1(v3:List UInt8)(v4:Int):stepT R2 (L2 v3 v4)=let d':Tr:=.leaf (.dat i64 (1:Int)) [];let e':=zc .i64 (v4+1);let a':=decide (0≤zc .i64 (v4+1))&&true&&decide (toNat e'≤length v3)&&decide (length v3≤length v3);let b':=toNat e';let c':=zz (length v3) b';.ite (decide (v4<(length v3:Int))) (.ite a' (.ite (decide (length (take c' (drop b' v3))≤1000000)) (.ite (!AU (take c' (drop b' v3))) d' (.ite a' (.ite (take c' (drop b' v3)==[(48:UInt8)]) d' (.ite a' (.ite (take c' (drop b' v3)==[(49:UInt8)]) d' (L3 v3 v4)) .fail)) .fail)) .fail) .fail) (L3 v3 v4):=by kernel_rfl
def L4(v3:List UInt8)(v4:Int):Tr:=re ((stepT R2 (L3 [] 0)).R.R) (AI 96 [(3,.dat zj v3),(4,.dat i64 v4)] [] 0)
theorem CN(v3:List UInt8)(v4:Int):stepT R2 (L3 v3 v4)=let a':Tr:=.leaf (.dat i64 (4:Int)) [];.ite (decide (v4>600)) a' (.ite (decide (zc .i64 (zc .i64 ((length v3:Int)-v4)-1)>600)) a' (L4 v3 v4)):=by kernel_rfl
def L5(o1:Bool)(o1_1:List Int)(o0:Bool)(o0_1:List Int):Tr:=re ((stepT R2 (L4 [] 0)).L.L) (AI 96 [(5,.ptr 0 0),(6,.ptr 1 0)] [(1,.box [.dat zi o1,.dat (zg i64) o1_1]),(0,.box [.dat zi o0,.dat (zg i64) o0_1])] 2)
theorem Dm(v3:List UInt8)(v4:Int):stepT R2 (L4 v3 v4)=.ite (decide (v4<(length v3:Int))) (.ite (Hs v3) (L5 (Bh v3) (Bd v3) (Bx v3) (Br v3)) .fail) (.leaf (.dat i64 (0:Int)) []):=by kernel_rfl
def L6(v7:List Int):Tr:=re ((stepT R2 (L5 false [] false [])).L) (AI 96 [(7,.dat (zg i64) v7)] [] 0)
theorem Gy(o1:Bool)(o1_1:List Int)(o0:Bool)(o0_1:List Int):stepT R2 (L5 o1 o1_1 o0 o0_1)=.ite (A4 o0_1&&A4 o1_1&&decide (length o0_1≤9000)&&decide (length o1_1≤9000)) (L6 (Cd o0_1 o1_1)) .fail:=by kernel_rfl
theorem Hr(v7:List Int):stepT R2 (L6 v7)=let a':Tr:=.leaf (.dat i64 (1:Int)) [];.ite ((length v7:Int) !=1) a' (.ite (decide (0<(length v7:Int))) (.ite (getD v7 0 0 !=1) a' (.leaf (.dat i64 (0:Int)) [])) .fail):=by kernel_rfl
end T24
end
end Go.Pe
end
section
namespace Go.Pe
open Sp
open Go.Det
noncomputable section
open List Int Prod
namespace T83
def T(l:List Int):Tr:=tree I4 false 9 83 (Ah ([zg i64]) l)
def L1(v5:List Int)(v6 v7:Int):Tr:=re ((T [])) (AI 15 [(5,.dat (zg i64) v5),(6,.dat i64 v6),(7,.dat i64 v7)] [] 0)
theorem An(l:List Int):T l=L1 l ((length l:Int)) 0:=by kernel_rfl
theorem Ar(v5:List Int)(v6 v7:Int):stepT I4 (L1 v5 v6 v7)=.ite (decide (v7<v6)) (.ite (decide (0≤v7)&&decide (v7<(length v5:Int))) (.ite (getD v5 (toNat v7) 0 !=0) (.leaf (.dat i64 (getD v5 (toNat v7) 0)) []) (L1 v5 v6 (zc .i64 (v7+1)))) .fail) (.leaf (.dat i64 (0:Int)) []):=by kernel_rfl
end T83
namespace T85
def T(b:Bool)(e:Int):Tr:=tree I4 false 9 85 (Ah ([zi,ze zO]) (b,e))
theorem An(b:Bool)(e:Int):T b e=.ite b (.leaf (.dat i64 e) []) (.leaf (.dat i64 (0:Int)) []):=by kernel_rfl
end T85
namespace T77
def T(a:List UInt8):Tr:=tree KY false 9 77 (Ah ([zj]) a)
def L1(v5 v6:List UInt8)(v7:Bool):Tr:=re ((T []).L.L.L.L.L) (AI 76 [(5,.dat zj v5),(6,.dat zj v6),(7,.dat zi v7),(8,.bl true)] [] 0)
def L2(v5 v6:List UInt8)(v7 v8:Bool):Tr:=re ((T []).L.L.L.L.R) (AI 76 [(5,.dat zj v5),(6,.dat zj v6),(7,.dat zi v7),(8,.dat zi v8)] [] 0)
def L3(v5 v6:List UInt8)(v7:Bool):Tr:=re ((T []).L.L.L.R) (AI 76 [(5,.dat zj v5),(6,.dat zj v6),(7,.dat zi v7),(8,.bl false)] [] 0)
theorem An(a:List UInt8):T a=let a':=Ax (AZ a);let b':=Sp.AO (AZ a);let c':=Bm (AZ a);.ite (Rg a [(45:UInt8)]) (.ite (rA (AZ a) [(47:UInt8)]) (.ite (decide (length a'≤1000000)) (.ite (AU a') (.ite (!Sp.preB a) (L1 a' b' c') (L2 a' b' c' (!Ax (AZ a)==[(48:UInt8)]))) (L3 a' b' c')) .fail) .fail) .fail:=by kernel_rfl
def L4(v5 v6:List UInt8)(v7 v8:Bool):Tr:=re ((stepT KY (L1 [] [] false)).L.L.L.L) (AI 76 [(5,.dat zj v5),(6,.dat zj v6),(7,.dat zi v7),(8,.dat zi v8)] [] 0)
def L5(v5 v6:List UInt8)(v7:Bool):Tr:=re ((stepT KY (L1 [] [] false)).L.L.L.R) (AI 76 [(5,.dat zj v5),(6,.dat zj v6),(7,.dat zi v7),(8,.bl false)] [] 0)
def L6(v5 v6:List UInt8)(v7:Bool):Tr:=re ((stepT KY (L1 [] [] false)).R) (AI 76 [(5,.dat zj v5),(6,.dat zj v6),(7,.dat zi v7),(8,.bl true)] [] 0)
theorem Ar(v5 v6:List UInt8)(v7:Bool):stepT KY (L1 v5 v6 v7)=.ite v7 (.ite (decide (length v6≤1000000)) (.ite (AU v6) (.ite (!v6==[(48:UInt8)]) (L4 v5 v6 v7 (!v6==[(49:UInt8)])) (L5 v5 v6 v7)) (L5 v5 v6 v7)) .fail) (L6 v5 v6 v7):=by kernel_rfl
theorem A1(v5 v6:List UInt8)(v7 v8:Bool):stepT KY (L2 v5 v6 v7 v8)=.ite v7 (.ite v8 (.ite (decide (length v6≤1000000)) (.ite (AU v6) (.ite (!v6==[(48:UInt8)]) (L4 v5 v6 v7 (!v6==[(49:UInt8)])) (L5 v5 v6 v7)) (L5 v5 v6 v7)) .fail) (L5 v5 v6 v7)) (L4 v5 v6 v7 v8):=by kernel_rfl
theorem CN(v5 v6:List UInt8)(v7:Bool):stepT KY (L3 v5 v6 v7)=.ite v7 (L5 v5 v6 v7) (L5 v5 v6 v7):=by kernel_rfl
def L7(v5 v6:List UInt8)(v7:Bool)(v9:Int):Tr:=re ((stepT KY (L4 [] [] false false)).L.L.L.L) (AI 76 [(5,.dat zj v5),(6,.dat zj v6),(7,.dat zi v7),(9,.dat i64 v9)] [] 0)
theorem Dm(v5 v6:List UInt8)(v7 v8:Bool):stepT KY (L4 v5 v6 v7 v8)=let a':=decide (2≤2)&&true&&decide (2≤1000000);.ite true (.ite (decide ((length v5:Int)>600)) (.ite true (.ite a' (L7 v5 v6 v7 (zT [KX (!v8) 1,KX true 4])) .fail) .fail) (.ite true (.ite a' (L7 v5 v6 v7 (zT [KX (!v8) 1,KX (decide ((length v6:Int)>600)) 4])) .fail) .fail)) .fail:=by kernel_rfl
theorem Gy(v5 v6:List UInt8)(v7:Bool):stepT KY (L5 v5 v6 v7)=.ite true (.ite (decide ((length v5:Int)>600)) (.ite true (.ite true (L7 v5 v6 v7 (zT [KX true 1,KX true 4])) .fail) .fail) (.ite true (.ite (decide (2≤2)&&true&&decide (2≤1000000)) (L7 v5 v6 v7 (zT [KX true 1,KX (decide ((length v6:Int)>600)) 4])) .fail) .fail)) .fail:=by kernel_rfl
theorem Hr(v5 v6:List UInt8)(v7:Bool):stepT KY (L6 v5 v6 v7)=.ite true (.ite (decide ((length v5:Int)>600)) (.ite true (.ite true (L7 v5 v6 v7 (zT [KX false 1,KX true 4])) .fail) .fail) (.ite true (.ite (decide (2≤2)&&true&&decide (2≤1000000)) (L7 v5 v6 v7 (zT [KX false 1,KX (decide ((length v6:Int)>600)) 4])) .fail) .fail)) .fail:=by kernel_rfl
def L8(v5 v6:List UInt8)(v7:Bool):Tr:=re ((stepT KY (L7 [] [] false 0)).R) (AI 76 [(5,.dat zj v5),(6,.dat zj v6),(7,.dat zi v7)] [] 0)
theorem FH(v5 v6:List UInt8)(v7:Bool)(v9:Int):stepT KY (L7 v5 v6 v7 v9)=.ite (v9 !=0) (.leaf (.dat i64 v9) []) (L8 v5 v6 v7):=by kernel_rfl
def L9(v10:Bool):Tr:=re ((stepT KY (L8 [] [] false)).L.L.L.L.L.L) (AI 76 [(10,.dat zi v10)] [] 0)
def xH:Tr:=re ((stepT KY (L8 [] [] false)).R) (AI 76 [(10,.bl false)] [] 0)
theorem Jb(v5 v6:List UInt8)(v7:Bool):stepT KY (L8 v5 v6 v7)=let a':=(Mc (CX v5,C1 v5) (CX v6,C1 v6),LL (CX v5,C1 v5) (CX v6,C1 v6));.ite v7 (.ite (D3 v5) (.ite (D3 v6) (.ite (Ba (CX v5,C1 v5)&&Ba (CX v6,C1 v6)) (.ite true (.ite (Ba a'&&Ba (1,Eg 1)) (L9 (Yl a' (1,Eg 1) !=0)) .fail) .fail) .fail) .fail) .fail) xH:=by kernel_rfl
theorem tT(v10:Bool):stepT KY (L9 v10)=.ite true (.leaf (.dat i64 (KX v10 1)) []) .fail:=by kernel_rfl
theorem pZ:stepT KY xH=.ite true (.leaf (.dat i64 (KX false 1)) []) .fail:=by kernel_rfl
end T77
end
end Go.Pe
end
section
namespace Go.Pe
open Sp
open Go.Det
noncomputable section
open List Int Prod
namespace T153
def T(s:List UInt8):Tr:=tree O7 false 9 153 (Ah ([zj]) s)
def L1(v0:List UInt8)(v3:Bool)(o1 o0:Int):Tr:=re ((T []).L.L.L.L.L.L) (AI 41 [(0,.dat zj v0),(2,.ptr 0 0),(3,.dat zi v3),(4,.ptr 1 0)] [(1,.box [.dat i64 o1,.nil]),(0,.box [.dat i64 o0,.nil])] 2)
def L2(v0:List UInt8)(o1 o0:Int):Tr:=re ((T []).R.L.L.L.L) (AI 41 [(0,.dat zj v0),(2,.ptr 0 0),(3,.bl false),(4,.ptr 1 0)] [(1,.box [.dat i64 o1,.nil]),(0,.box [.dat i64 o0,.nil])] 2)
theorem An(s:List UInt8):T s=let a':=take 1 s==[(45:UInt8)];let b':=decide ((length s:Int)≥1);let c':=decide (1≤length s)&&decide (length s≤length s);let d':=decide (1≤length s);let e':=take (zz (length s) 1) (drop 1 s);.ite b' (.ite d' (.ite b' (.ite d' (.ite a' (.ite c' (L1 e' a' 0 0) .fail) (L1 s a' 0 0)) .fail) (L1 s a' 0 0)) .fail) (.ite b' (.ite d' (.ite a' (.ite c' (L2 e' 0 0) .fail) (L2 s 0 0)) .fail) (L2 s 0 0)):=by kernel_rfl
def L3(v0:List UInt8)(v3:Bool)(o1 o0:Int)(v5:List UInt8)(v6:Int)(v47n:Nat)(v48 v49:Int)(o2:List Int)(o1':Int)(o0':Int):Tr:=re ((stepT O7 (L1 v0 v3 o1 o0)).L.L.L.L.L.L.L.R) (AI 77 [(5,.dat zj v5),(6,.dat i64 v6),(47,.sl 2 1 0 v47n none),(48,.dat i64 v48),(49,.dat i64 v49)] [(2,.arr false 5 (ze zJ) o2),(1,.box [.dat i64 o1',.nil]),(0,.box [.dat i64 o0',.nil])] 3)
theorem Ar(v0:List UInt8)(v3:Bool)(o1 o0:Int):stepT O7 (L1 v0 v3 o1 o0)=let d':=(length v0:Int);let g':=zf (ze zd);let a':=take (toNat (D9 18 d')) v0;let b':=take (zz (length a') 1) (drop 1 a');let c':=(↑(length a'):Int);let e':=decide (1≤length a')&&decide (length a'≤length a');let f':=(↑(zk (getD a' 0 (0:UInt8))):Int);let h':=decide (0<c');.ite (decide (d'>0)) (.ite (decide (0≤D9 18 d')&&decide (0≤toNat (D9 18 d'))&&decide (toNat (D9 18 d')≤length v0)) (.ite h' (.ite (decide (c'<19)) (.ite h' (.ite (f'==45) (.ite e' (.ite (decide ((↑(length b'):Int)<1)) .fail (L3 v0 v3 o1 o0 a' 0 (length b') ((↑(length b'):Int)) 0 (zQ (fun b=>(↑(zk b):Int)) b') o1 o0)) .fail) (.ite h' (.ite (f'==43) (.ite e' (.ite (decide ((↑(length b'):Int)<1)) .fail (L3 v0 v3 o1 o0 a' 0 (length b') ((↑(length b'):Int)) 0 (zQ (fun b=>(↑(zk b):Int)) b') o1 o0)) .fail) (L3 v0 v3 o1 o0 a' 0 (length a') (c') 0 (zQ (fun b=>(↑(zk b):Int)) a') o1 o0)) .fail)) .fail) (.ite false .fail .fail)) (.ite false .fail .fail)) .fail) (.ite v3 (.ite (Dt (o1,[])) (.leaf (zp [.dat i64 (DY (o1,[])),.dat g' (DW (o1,[]))]) ([(1,.box [.dat i64 o1,.nil]),(0,.box [.dat i64 (DY (o1,[])),.dat g' (DW (o1,[]))])])) .fail) (.leaf (zp [.dat i64 o1,.nil]) ([(1,.box [.dat i64 o1,.nil]),(0,.box [.dat i64 o1,.nil])]))):=by kernel_rfl
def L4(v0:List UInt8)(o1 o0:Int)(v5:List UInt8)(v6:Int)(v47n:Nat)(v48 v49:Int)(o2:List Int)(o1':Int)(o0':Int):Tr:=re ((stepT O7 (L2 v0 o1 o0)).L.L.L.L.L.L.L.R) (AI 77 [(5,.dat zj v5),(6,.dat i64 v6),(47,.sl 2 1 0 v47n none),(48,.dat i64 v48),(49,.dat i64 v49)] [(2,.arr false 5 (ze zJ) o2),(1,.box [.dat i64 o1',.nil]),(0,.box [.dat i64 o0',.nil])] 3)
theorem A1(v0:List UInt8)(o1 o0:Int):stepT O7 (L2 v0 o1 o0)=let d':=(length v0:Int);let a':=take (toNat (D9 18 d')) v0;let b':=take (zz (length a') 1) (drop 1 a');let c':=(↑(length a'):Int);let e':=decide (1≤length a')&&decide (length a'≤length a');let f':=(↑(zk (getD a' 0 (0:UInt8))):Int);let g':=decide (0<c');.ite (decide (d'>0)) (.ite (decide (0≤D9 18 d')&&decide (0≤toNat (D9 18 d'))&&decide (toNat (D9 18 d')≤length v0)) (.ite g' (.ite (decide (c'<19)) (.ite g' (.ite (f'==45) (.ite e' (.ite (decide ((↑(length b'):Int)<1)) .fail (L4 v0 o1 o0 a' 0 (length b') ((↑(length b'):Int)) 0 (zQ (fun b=>(↑(zk b):Int)) b') o1 o0)) .fail) (.ite g' (.ite (f'==43) (.ite e' (.ite (decide ((↑(length b'):Int)<1)) .fail (L4 v0 o1 o0 a' 0 (length b') ((↑(length b'):Int)) 0 (zQ (fun b=>(↑(zk b):Int)) b') o1 o0)) .fail) (L4 v0 o1 o0 a' 0 (length a') (c') 0 (zQ (fun b=>(↑(zk b):Int)) a') o1 o0)) .fail)) .fail) (.ite false .fail .fail)) (.ite false .fail .fail)) .fail) (.leaf (zp [.dat i64 o1,.nil]) ([(1,.box [.dat i64 o1,.nil]),(0,.box [.dat i64 o1,.nil])])):=by kernel_rfl
def L5(v0:List UInt8)(v3:Bool)(o1:Int)(o1_1:List Int)(o0:Int):Tr:=re ((stepT O7 (L3 [] false 0 0 [] 0 0 0 0 [] 0 0)).R.L.L.L.L.L.L.L.L) (AI 41 [(0,.dat zj v0),(2,.ptr 0 0),(3,.dat zi v3),(4,.ptr 1 0)] [(1,.box [.dat i64 o1,.dat (zf (ze zd)) o1_1]),(0,.box [.dat i64 o0,.nil])] 2)
theorem CN(v0:List UInt8)(v3:Bool)(o1 o0:Int)(v5:List UInt8)(v6:Int)(v47n:Nat)(v48 v49:Int)(o2:List Int)(o1':Int)(o0':Int):stepT O7 (L3 v0 v3 o1 o0 v5 v6 v47n v48 v49 o2 o1' o0')=let b':=D9 18 (length v0:Int);let d':=(zc .i64 (0-v6),Eg (zc .i64 (0-v6)));let i':=getD o2 (toNat v49) 0-48;let a':=(S7 (10,Eg 10) b',Tg (10,Eg 10) b');let e':=decide (0≤D9 18 (length v0:Int))&&true&&decide (toNat b'≤length v0)&&decide (length v0≤length v0);let f':=take (zz (length v0) (toNat b')) (drop (toNat b') v0);let g':=Ba (10,Eg 10)&&aK (Sp.vI (10,Eg 10)) b';let c':=(EA (o1',[]) a',Ez (o1',[]) a');let h':=Ba (o1',[])&&Ba a';.ite (decide (v49<v48)) (.ite (decide (0≤v49)&&decide (v49<(↑v47n:Int))) (.ite (decide (toNat v49<length o2)) (.ite (decide (zc .u8 i'>9)) .fail (L3 v0 v3 o1 o0 v5 (zc .i64 (zc .i64 (v6*10)+zc .i64 (zc .u8 i'))) v47n v48 (zc .i64 (v49+1)) o2 o1' o0')) .fail) .fail) (.ite (decide (0<(length v5:Int))) (.ite ((↑(zk (getD v5 0 (0:UInt8))):Int)==45) (.ite true (.ite g' (.ite h' (.ite true (.ite (Ba c'&&Ba d') (.ite e' (L5 f' v3 (HQ c' d') (HJ c' d') o0') .fail) .fail) .fail) .fail) .fail) .fail) (.ite true (.ite g' (.ite h' (.ite true (.ite (Ba c'&&Ba (v6,Eg v6)) (.ite e' (L5 f' v3 (HQ c' (v6,Eg v6)) (HJ c' (v6,Eg v6)) o0') .fail) .fail) .fail) .fail) .fail) .fail)) .fail):=by kernel_rfl
def L7(v0:List UInt8)(v3:Bool)(o1:Int)(o1_1:List Int)(o0:Int)(v5:List UInt8)(v6:Int)(v47n:Nat)(v48 v49:Int)(o2:List Int)(o1':Int)(o1_1':List Int)(o0':Int):Tr:=re ((stepT O7 (L5 v0 v3 o1 o1_1 o0)).L.L.L.L.L.L.L.R) (AI 77 [(5,.dat zj v5),(6,.dat i64 v6),(47,.sl 2 1 0 v47n none),(48,.dat i64 v48),(49,.dat i64 v49)] [(2,.arr false 5 (ze zJ) o2),(1,.box [.dat i64 o1',.dat (zf (ze zd)) o1_1']),(0,.box [.dat i64 o0',.nil])] 3)
theorem Gy(v0:List UInt8)(v3:Bool)(o1:Int)(o1_1:List Int)(o0:Int):stepT O7 (L5 v0 v3 o1 o1_1 o0)=let c':=zf (ze zd);let e':=(length v0:Int);let a':=take (toNat (D9 18 e')) v0;let b':=take (zz (length a') 1) (drop 1 a');let d':=(↑(length a'):Int);let f':=decide (1≤length a')&&decide (length a'≤length a');let g':=(↑(zk (getD a' 0 (0:UInt8))):Int);let h':=decide (0<d');.ite (decide (e'>0)) (.ite (decide (0≤D9 18 e')&&decide (0≤toNat (D9 18 e'))&&decide (toNat (D9 18 e')≤length v0)) (.ite h' (.ite (decide (d'<19)) (.ite h' (.ite (g'==45) (.ite f' (.ite (decide ((↑(length b'):Int)<1)) .fail (L7 v0 v3 o1 o1_1 o0 a' 0 (length b') ((↑(length b'):Int)) 0 (zQ (fun b=>(↑(zk b):Int)) b') o1 o1_1 o0)) .fail) (.ite h' (.ite (g'==43) (.ite f' (.ite (decide ((↑(length b'):Int)<1)) .fail (L7 v0 v3 o1 o1_1 o0 a' 0 (length b') ((↑(length b'):Int)) 0 (zQ (fun b=>(↑(zk b):Int)) b') o1 o1_1 o0)) .fail) (L7 v0 v3 o1 o1_1 o0 a' 0 (length a') (d') 0 (zQ (fun b=>(↑(zk b):Int)) a') o1 o1_1 o0)) .fail)) .fail) (.ite false .fail .fail)) (.ite false .fail .fail)) .fail) (.ite v3 (.ite (Dt (o1,o1_1)) (.leaf (zp [.dat i64 (DY (o1,o1_1)),.dat c' (DW (o1,o1_1))]) ([(1,.box [.dat i64 o1,.dat c' o1_1]),(0,.box [.dat i64 (DY (o1,o1_1)),.dat c' (DW (o1,o1_1))])])) .fail) (.leaf (zp [.dat i64 o1,.dat c' o1_1]) ([(1,.box [.dat i64 o1,.dat c' o1_1]),(0,.box [.dat i64 o1,.dat c' o1_1])]))):=by kernel_rfl
theorem FH(v0:List UInt8)(v3:Bool)(o1:Int)(o1_1:List Int)(o0:Int)(v5:List UInt8)(v6:Int)(v47n:Nat)(v48 v49:Int)(o2:List Int)(o1':Int)(o1_1':List Int)(o0':Int):stepT O7 (L7 v0 v3 o1 o1_1 o0 v5 v6 v47n v48 v49 o2 o1' o1_1' o0')=let c':=D9 18 (length v0:Int);let d':=(zc .i64 (0-v6),Eg (zc .i64 (0-v6)));let i':=getD o2 (toNat v49) 0-48;let a':=(S7 (10,Eg 10) c',Tg (10,Eg 10) c');let e':=decide (0≤D9 18 (length v0:Int))&&true&&decide (toNat c'≤length v0)&&decide (length v0≤length v0);let f':=take (zz (length v0) (toNat c')) (drop (toNat c') v0);let g':=Ba (10,Eg 10)&&aK (Sp.vI (10,Eg 10)) c';let b':=(EA (o1',o1_1') a',Ez (o1',o1_1') a');let h':=Ba (o1',o1_1')&&Ba a';.ite (decide (v49<v48)) (.ite (decide (0≤v49)&&decide (v49<(↑v47n:Int))) (.ite (decide (toNat v49<length o2)) (.ite (decide (zc .u8 i'>9)) .fail (L7 v0 v3 o1 o1_1 o0 v5 (zc .i64 (zc .i64 (v6*10)+zc .i64 (zc .u8 i'))) v47n v48 (zc .i64 (v49+1)) o2 o1' o1_1' o0')) .fail) .fail) (.ite (decide (0<(length v5:Int))) (.ite ((↑(zk (getD v5 0 (0:UInt8))):Int)==45) (.ite true (.ite g' (.ite h' (.ite true (.ite (Ba b'&&Ba d') (.ite e' (L5 f' v3 (HQ b' d') (HJ b' d') o0') .fail) .fail) .fail) .fail) .fail) .fail) (.ite true (.ite g' (.ite h' (.ite true (.ite (Ba b'&&Ba (v6,Eg v6)) (.ite e' (L5 f' v3 (HQ b' (v6,Eg v6)) (HJ b' (v6,Eg v6)) o0') .fail) .fail) .fail) .fail) .fail) .fail)) .fail):=by kernel_rfl
end T153
end
noncomputable section
open List Int Prod
namespace T211
def T(s t:List UInt8):Tr:=tree WM false 9 211 (Ah ([zj,zj]) (s,t))
def L1(s t v0:List UInt8)(v4:Int)(o0:List Bool):Tr:=re ((T s t).R.R.L.L.R) (AI 21 [(0,.dat zj v0),(2,.ptr 0 0),(4,.dat i64 v4)] [(0,.arr false 281 zi o0)] 1)
def L2(s t v0:List UInt8)(v4:Int)(o0:List Bool):Tr:=re ((T s t).R.R.R) (AI 21 [(0,.dat zj v0),(2,.ptr 0 0),(4,.dat i64 v4)] [(0,.arr false 281 zi o0)] 1)
theorem An(s t:List UInt8):T s t=let a':=decide (0<(length t:Int));let b':Tr:=.leaf (.dat zj s) [];.ite (s==[]) b' (.ite (t==[]) b' (.ite ((length t:Int)==1) (.ite a' (.ite (decide ((↑(zk (getD t 0 (0:UInt8))):Int)<128)) (.ite a' (.ite a' (.ite false (.ite false b' .fail) .fail) .fail) .fail) (L1 s t t 0 Sp.mM)) .fail) (L2 s t t 0 Sp.mM))):=by kernel_rfl
def L4(s t v0:List UInt8)(v4:Int)(o0:List Bool)(v0':List UInt8)(o1:List Bool)(o0':List Bool):Tr:=re ((stepT WM (L2 s t v0 v4 o0)).R.L.L.L.L) (AI 22 [(0,.dat zj v0'),(1,.ptr 1 0)] [(1,.arr false 281 zi o1),(0,.arr false 281 zi o0')] 2)
theorem A1(s t v0:List UInt8)(v4:Int)(o0:List Bool):stepT WM (L2 s t v0 v4 o0)=let a':=(↑(zk (getD v0 (toNat v4) (0:UInt8))):Int);let b':=decide (length o0=256);let c':=decide (v4<(length v0:Int));.ite (c') (.ite (decide (0≤v4)&&c') (.ite (decide (a'≥128)) (.ite b' (.ite b' (.ite (decide (256=256)) (.ite true (.ite false (.ite false (.leaf (.dat zj s) ([(1,.arr false 281 zi (Sp.VD o0)),(0,.arr false 281 zi (Sp.VD o0))])) .fail) .fail) .fail) .fail) .fail) .fail) (.ite (decide ((0:zY (ze zJ))≤a')&&decide (a'<(↑256:Int))) (.ite (decide (toNat a'<length o0)) (L2 s t v0 (zc .i64 (v4+1)) (set o0 (toNat a') true)) .fail) .fail)) .fail) (.ite b' (.ite b' (.ite (decide (256=256)) (.ite true (L4 s t v0 v4 o0 s ((Sp.VD o0)) ((Sp.VD o0))) .fail) .fail) .fail) .fail):=by kernel_rfl
def L7(s t v0:List UInt8)(v4:Int)(o0:List Bool)(v0':List UInt8)(o1:List Bool)(o0':List Bool)(v0'':List UInt8)(o1':List Bool)(o0'':List Bool):Tr:=re ((stepT WM (L4 s t v0 v4 o0 v0' o1 o0')).L.L.L.L.L) (AI 16 [(0,.dat zj v0''),(1,.ptr 1 0)] [(1,.arr false 281 zi o1'),(0,.arr false 281 zi o0'')] 2)
def L8(s t v0:List UInt8)(v4:Int)(o0:List Bool)(v0':List UInt8)(o1:List Bool)(o0':List Bool)(v0'':List UInt8)(o1':List Bool)(o0'':List Bool):Tr:=re ((stepT WM (L4 s t v0 v4 o0 v0' o1 o0')).R) (AI 16 [(0,.dat zj v0''),(1,.ptr 1 0)] [(1,.arr false 281 zi o1'),(0,.arr false 281 zi o0'')] 2)
theorem Dm(s t v0:List UInt8)(v4:Int)(o0:List Bool)(v0':List UInt8)(o1:List Bool)(o0':List Bool):stepT WM (L4 s t v0 v4 o0 v0' o1 o0')=let b':=(↑(length v0'):Int);let c':=zc .i64 (b'-1);let d':=decide (0≤zc .i64 (b'-1));let a':=(↑(zk (getD v0' (toNat c') (0:UInt8))):Int);.ite (decide (b'>0)) (.ite (d'&&decide (zc .i64 (b'-1)<b')) (.ite (decide ((0:zY (ze zJ))≤a')&&decide (a'<(↑256:Int))) (.ite (decide (toNat a'<length o1)) (.ite (!getD o1 (toNat a') false) (L7 s t v0 v4 o0 v0' o1 o0' v0' o1 o0') (.ite (d'&&decide (0≤toNat c')&&decide (toNat c'≤length v0')) (L4 s t v0 v4 o0 (take (toNat c') v0') o1 o0') .fail)) .fail) .fail) .fail) (L8 s t v0 v4 o0 v0' o1 o0' v0' o1 o0'):=by kernel_rfl
theorem FH(s t v0:List UInt8)(v4:Int)(o0:List Bool)(v0':List UInt8)(o1:List Bool)(o0':List Bool)(v0'':List UInt8)(o1':List Bool)(o0'':List Bool):stepT WM (L7 s t v0 v4 o0 v0' o1 o0' v0'' o1' o0'')=let a':=(↑(zk (getD v0'' 0 (0:UInt8))):Int);let b':Tr:=.leaf (.dat zj v0'') ([(1,.arr false 281 zi o1'),(0,.arr false 281 zi o0'')]);.ite (decide ((↑(length v0''):Int)>0)) (.ite (decide (0<(↑(length v0''):Int))) (.ite (decide ((0:zY (ze zJ))≤a')&&decide (a'<(↑256:Int))) (.ite (decide (toNat a'<length o1')) (.ite (!getD o1' (toNat a') false) b' (.ite (decide (1≤length v0'')&&decide (length v0''≤length v0'')) (L7 s t v0 v4 o0 v0' o1 o0' (take (zz (length v0'') 1) (drop 1 v0'')) o1' o0'') .fail)) .fail) .fail) .fail) b':=by kernel_rfl
theorem Jb(s t v0:List UInt8)(v4:Int)(o0:List Bool)(v0':List UInt8)(o1:List Bool)(o0':List Bool)(v0'':List UInt8)(o1':List Bool)(o0'':List Bool):stepT WM (L8 s t v0 v4 o0 v0' o1 o0' v0'' o1' o0'')=let a':=(↑(zk (getD v0'' 0 (0:UInt8))):Int);let b':Tr:=.leaf (.dat zj v0'') ([(1,.arr false 281 zi o1'),(0,.arr false 281 zi o0'')]);.ite (decide ((↑(length v0''):Int)>0)) (.ite (decide (0<(↑(length v0''):Int))) (.ite (decide ((0:zY (ze zJ))≤a')&&decide (a'<(↑256:Int))) (.ite (decide (toNat a'<length o1')) (.ite (!getD o1' (toNat a') false) b' (.ite (decide (1≤length v0'')&&decide (length v0''≤length v0'')) (L8 s t v0 v4 o0 v0' o1 o0' (take (zz (length v0'') 1) (drop 1 v0'')) o1' o0'') .fail)) .fail) .fail) .fail) b':=by kernel_rfl
end T211
end
noncomputable section
open List Int Prod
namespace T151
def T(s:List UInt8):Tr:=tree wQ false 9 151 (Ah ([zj]) s)
theorem An(s:List UInt8):T s=.ite (!s==[]) (.ite (Sp.nJ s [(48:UInt8),(49:UInt8),(50:UInt8),(51:UInt8),(52:UInt8),(53:UInt8),(54:UInt8),(55:UInt8),(56:UInt8),(57:UInt8)]) (.ite (Sp.M7 s==[]) (.ite (decide (0<(length s:Int))) (.ite ((↑(zk (getD s 0 (0:UInt8))):Int) !=48) (.leaf (.bl true) []) (.leaf (.dat zi (s==[(48:UInt8)])) [])) .fail) (.leaf (.bl false) [])) .fail) (.leaf (.bl false) []):=by kernel_rfl
end T151
namespace T149
def T(s t:List UInt8):Tr:=tree I4 false 9 149 (Ah ([zj,zj]) (s,t))
theorem An(s t:List UInt8):T s t=let a':=(length t:Int);let b':Tr:=.leaf (.tup [.dat zj s,.bl false]) [];let c':=decide (toNat a'≤length s);.ite (decide ((length s:Int)≥a')) (.ite (decide (0≤a')&&decide (0≤toNat a')&&c') (.ite (!take (toNat a') s==t) b' (.ite (decide (0≤a')&&true&&c'&&decide (length s≤length s)) (.leaf (.tup [.dat zj (take (zz (length s) (toNat a')) (drop (toNat a') s)),.bl true]) []) .fail)) .fail) b':=by kernel_rfl
end T149
end
noncomputable section
open List Int Prod
namespace T150
def T(s t:List UInt8):Tr:=tree wR false 9 150 (Ah ([zj,zj]) (s,t))
theorem An(s t:List UInt8):T s t=let b':=(↑(zk (getD t 0 (0:UInt8))):Int);let c':=(length t:Int);let d':Tr:=.leaf (.tup [.dat zj s,.dat zj [],.bl false]) [];let g':=decide (length s≤length s);let i':=BA [ze zJ];let e':=zc .i64 (Sp.Od s b'+c');let f':=zc .i64 ((-1)+c');let h':=zc .i64 (0+c');let j':=Sp.Od s b';let a':Tr:=.ite true (.ite (decide (0≤length s)) (.ite (decide (0≤zc .i64 (0+c'))&&true&&decide (toNat h'≤length s)&&g') (.leaf (.tup [.dat zj (take 0 s),.dat zj (take (zz (length s) (toNat h')) (drop (toNat h') s)),.bl true]) []) .fail) .fail) d';.ite (c'==0) a' (.ite (t==s) a' (.ite (c'==1) (.ite (decide (0<c')) (.ite (decide ((0:zY i')≤b')&&decide (b'<(256:zY i'))) (.ite (decide (Sp.Od s b'≥0)) (.ite (decide (0≤Sp.Od s b')&&decide (0≤toNat j')&&decide (toNat j'≤length s)) (.ite (decide (0≤zc .i64 (Sp.Od s b'+c'))&&true&&decide (toNat e'≤length s)&&g') (.leaf (.tup [.dat zj (take (toNat j') s),.dat zj (take (zz (length s) (toNat e')) (drop (toNat e') s)),.bl true]) []) .fail) .fail) d') .fail) .fail) (.ite (decide (c'≥(length s:Int))) (.ite false (.ite (false&&decide (0≤length s)) (.ite (decide (0≤zc .i64 ((-1)+c'))&&true&&decide (toNat f'≤length s)&&g') (.leaf (.tup [.dat zj (take 0 s),.dat zj (take (zz (length s) (toNat f')) (drop (toNat f') s)),.bl true]) []) .fail) .fail) d') .fail))):=by kernel_rfl
end T150
end
end Go.Pe
end
section
namespace Go.Pe
open Sp
open Go.Det
noncomputable section
open List Int Prod
namespace T227
def T(w:List Int):Tr:=tree XU false 9 227 (Ah ([zg i64]) w)
def L1(v0:List Int):Tr:=re ((T [])) (AI 21 [(0,.dat (zg i64) v0)] [] 0)
theorem An(w:List Int):T w=L1 w:=by kernel_rfl
theorem Ar(v0:List Int):stepT XU (L1 v0)=let b':=(length v0:Int);let d':Tr:=.leaf (.dat (zg i64) v0) [];let a':=zc .i64 (b'-1);let c':=decide (0≤zc .i64 (b'-1));.ite (decide (b'>0)) (.ite (c'&&decide (zc .i64 (b'-1)<b')) (.ite (getD v0 (toNat a') 0==0) (.ite (c'&&decide (0≤toNat a')&&decide (toNat a'≤length v0)) (L1 (take (toNat a') v0)) .fail) d') .fail) d':=by kernel_rfl
end T227
namespace T168
def T(n:Bool)(w:List Int):Tr:=tree UT false 9 168 (Ah ([zi,zg i64]) (n,w))
theorem An(n:Bool)(w:List Int):T n w=let a':=decide ((↑(length (Au w)):Int)>0);.ite (decide (length w≤20000)) (.ite n (.leaf (zp [.dat zi a',.dat (zg i64) (Au w)]) ([(0,.box [.dat zi a',.dat (zg i64) (Au w)])])) (.leaf (zp [.bl false,.dat (zg i64) (Au w)]) ([(0,.box [.bl false,.dat (zg i64) (Au w)])]))) .fail:=by kernel_rfl
end T168
namespace T170
def T(a b:List Int):Tr:=tree XU false 9 170 (Ah ([zg i64,zg i64]) (a,b))
def L1(v0 v1:List Int)(v5:Int):Tr:=re ((T [] []).R) (AI 41 [(0,.dat (zg i64) v0),(1,.dat (zg i64) v1),(5,.dat i64 v5)] [] 0)
theorem An(a b:List Int):T a b=let a':=(length a:Int);.ite (a' !=(length b:Int)) (.ite (decide (a'<(length b:Int))) (.leaf (.dat i64 (-1:Int)) []) (.leaf (.dat i64 (1:Int)) [])) (L1 a b (zc .i64 (a'-1))):=by kernel_rfl
theorem Ar(v0 v1:List Int)(v5:Int):stepT XU (L1 v0 v1 v5)=let a':=decide (0≤v5)&&decide (v5<(length v0:Int));let b':=decide (0≤v5)&&decide (v5<(length v1:Int));.ite (decide (v5≥0)) (.ite a' (.ite b' (.ite (decide (getD v0 (toNat v5) 0<getD v1 (toNat v5) 0)) (.leaf (.dat i64 (-1:Int)) []) (.ite a' (.ite b' (.ite (decide (getD v0 (toNat v5) 0>getD v1 (toNat v5) 0)) (.leaf (.dat i64 (1:Int)) []) (L1 v0 v1 (zc .i64 (v5-1)))) .fail) .fail)) .fail) .fail) (.leaf (.dat i64 (0:Int)) []):=by kernel_rfl
end T170
namespace T172
def T(a b:List Int):Tr:=tree UT false 9 172 (Ah ([zg i64,zg i64]) (a,b))
def L1(v0 v1:List Int)(v5n:Nat)(v6:Int)(o0:List Int):Tr:=re ((T [] []).L) (AI 72 [(0,.dat (zg i64) v0),(1,.dat (zg i64) v1),(5,.sl 0 1 0 v5n none),(6,.dat i64 v6)] [(0,.arr false 3 i64 o0)] 1)
theorem An(a b:List Int):T a b=let a':=(length a:Int)+(length b:Int);let b':=zc .i64 a';.ite (decide (0≤zc .i64 a')&&decide (zc .i64 a'=zc .i64 a')&&decide (8*toNat b'≤281474976710656)&&decide (zc .i64 a'<9223372036854775808)) (L1 a b (toNat b') 0 (replicate (toNat b') 0)) .fail:=by kernel_rfl
def L2(v0 v1:List Int)(v5n:Nat)(v6 v7 v8:Int)(o0:List Int):Tr:=re ((stepT UT (L1 [] [] 0 0 [])).L) (AI 72 [(0,.dat (zg i64) v0),(1,.dat (zg i64) v1),(5,.sl 0 1 0 v5n none),(6,.dat i64 v6),(7,.dat i64 v7),(8,.dat i64 v8)] [(0,.arr false 3 i64 o0)] 1)
theorem Ar(v0 v1:List Int)(v5n:Nat)(v6:Int)(o0:List Int):stepT UT (L1 v0 v1 v5n v6 o0)=.ite (decide (v6<(length v0:Int))) (L2 v0 v1 v5n v6 0 0 o0) (.ite (decide (0+v5n≤length o0)&&true&&decide (length (take v5n o0)≤20000)) (.leaf (.dat (zg i64) (Au (take v5n o0))) ([(0,.arr true 3 i64 o0)])) .fail):=by kernel_rfl
theorem A1(v0 v1:List Int)(v5n:Nat)(v6 v7 v8:Int)(o0:List Int):stepT UT (L2 v0 v1 v5n v6 v7 v8 o0)=let c':=decide (0≤zc .i64 (v6+v8))&&decide (zc .i64 (v6+v8)<(↑v5n:Int));let d':=zc .i64 (v6+v8);let i':=(length v1:Int);let a':=zc .i64 (zc .i64 (getD o0 (toNat d') 0+zc .i64 (getD v0 (toNat v6) 0*getD v1 (toNat v8) 0))+v7);let b':=v6+i';let g':=decide (toNat d'<length o0);let e':=decide (0≤zc .i64 b')&&decide (zc .i64 b'<(↑v5n:Int));let f':=zc .i64 b';let h':=decide (toNat f'<length o0);.ite (decide (v8<i')) (.ite c' (.ite g' (.ite (decide (0≤v6)&&decide (v6<(length v0:Int))) (.ite (decide (0≤v8)&&decide (v8<i')) (.ite true (.ite c' (.ite g' (.ite true (L2 v0 v1 v5n v6 (zc .i64 (zP a' 1000000000)) (zc .i64 (v8+1)) (set o0 (toNat d') (zC a' 1000000000))) .fail) .fail) .fail) .fail) .fail) .fail) .fail) .fail) (.ite e' (.ite h' (.ite e' (.ite h' (L1 v0 v1 v5n (zc .i64 (v6+1)) (set o0 (toNat f') (zc .i64 (getD o0 (toNat f') 0+v7)))) .fail) .fail) .fail) .fail):=by kernel_rfl
end T172
namespace T226
def T(a:List Int)(d:Int):Tr:=tree UT false 9 226 (Ah ([zg i64,ze zO]) (a,d))
def L1(v0:List Int)(v1:Int)(v6n:Nat)(v7 v8:Int)(o0:List Int):Tr:=re ((T [] 0).L) (AI 39 [(0,.dat (zg i64) v0),(1,.dat i64 v1),(6,.sl 0 1 0 v6n none),(7,.dat i64 v7),(8,.dat i64 v8)] [(0,.arr false 3 i64 o0)] 1)
theorem An(a:List Int)(d:Int):T a d=let a':=(length a:Int);.ite (decide (0≤a')&&decide (a'=a')&&decide (8*toNat a'≤281474976710656)&&decide (a'<9223372036854775808)) (L1 a d (toNat a') 0 (zc .i64 (a'-1)) (replicate (toNat a') 0)) .fail:=by kernel_rfl
theorem Ar(v0:List Int)(v1:Int)(v6n:Nat)(v7 v8:Int)(o0:List Int):stepT UT (L1 v0 v1 v6n v7 v8 o0)=let a':=zc .i64 (zc .i64 (v7*1000000000)+getD v0 (toNat v8) 0);.ite (decide (v8≥0)) (.ite (decide (0≤v8)&&decide (v8<(length v0:Int))) (.ite (decide (v1≠0)) (.ite (decide (0≤v8)&&decide (v8<(↑v6n:Int))) (.ite (decide (toNat v8<length o0)) (.ite (decide (v1≠0)) (L1 v0 v1 v6n (zC a' v1) (zc .i64 (v8-1)) (set o0 (toNat v8) (zc .i64 (zP a' v1)))) .fail) .fail) .fail) .fail) .fail) (.ite (decide (0+v6n≤length o0)&&true&&decide (length (take v6n o0)≤20000)) (.leaf (.tup [.dat (zg i64) (Au (take v6n o0)),.dat i64 v7]) ([(0,.arr true 3 i64 o0)])) .fail):=by kernel_rfl
end T226
namespace T164
def T(a b:List Int):Tr:=tree KW false 9 164 (Ah ([zg i64,zg i64]) (a,b))
def L1(v0:List Int)(v8n:Nat)(v9:List Int)(v10:Int)(v11n:Nat)(o1 o0:List Int):Tr:=re ((T [] []).L.R.R.L.L.L.L.L) (AI 206 [(0,.dat (zg i64) v0),(8,.sl 0 1 0 v8n none),(9,.dat (zg i64) v9),(10,.dat i64 v10),(11,.sl 1 1 0 v11n none)] [(1,.arr false 3 i64 o1),(0,.arr true 3 i64 o0)] 2)
theorem An(a b:List Int):T a b=let c':=(length b:Int);let e':=getD b (toNat (zc .i64 (c'-1))) 0+1;let a':=zP 1000000000 (zc .i64 e');let b':=Aq a*Aq [zc .i64 a'];let d':=BN (Aq b*Aq [zc .i64 a']);.ite (A4 a&&A4 b) (.ite (decide (BX (Aq a) (Aq b)<0)) (.leaf (.tup [.nil,.dat (zg i64) a]) []) (.ite (c'==1) (.ite (decide (0<c')) (.ite (Jk a&&decide (0<getD b 0 0)&&decide (getD b 0 0<1000000000)) (.ite (decide (1≤1)&&true&&decide (1≤20000)) (.leaf (.tup [.dat (zg i64) (BN (Aq a/getD b 0 0)),.dat (zg i64) (Au [Aq a % getD b 0 0])]) ([(0,.arr true 3 i64 [Aq a % getD b 0 0])])) .fail) .fail) .fail) (.ite (decide (0≤zc .i64 (c'-1))&&decide (zc .i64 (c'-1)<c')) (.ite (decide (zc .i64 e'≠0)) (.ite (decide (1≤1)&&true&&(Sp.hR b&&Sp.hR [zc .i64 a'])) (.ite (decide (1≤1)&&true&&(Sp.hR a&&Sp.hR [zc .i64 a'])) (.ite (decide ((2*(0+length (BN b'))+1000)*8≤281474976710656)) (L1 a 1 d' ((↑(length d'):Int)) (zh 0 (length (BN b'))) ([]++BN b') ([zc .i64 a'])) .fail) .fail) .fail) .fail) .fail))) .fail:=by kernel_rfl
def L2(v8n:Nat)(v9:List Int)(v10:Int)(v11n v12n:Nat)(v13:Int)(o2 o1 o0:List Int):Tr:=re ((stepT KW (L1 [] 0 [] 0 0 [] [])).R.L) (AI 206 [(8,.sl 0 1 0 v8n none),(9,.dat (zg i64) v9),(10,.dat i64 v10),(11,.sl 1 1 0 v11n none),(12,.sl 2 1 0 v12n none),(13,.dat i64 v13)] [(2,.arr false 3 i64 o2),(1,.arr false 3 i64 o1),(0,.arr true 3 i64 o0)] 3)
theorem Ar(v0:List Int)(v8n:Nat)(v9:List Int)(v10:Int)(v11n:Nat)(o1 o0:List Int):stepT KW (L1 v0 v8n v9 v10 v11n o1 o0)=let a':=(↑v11n:Int)-v10;let b':=zc .i64 a';.ite (decide ((↑v11n:Int)<zc .i64 ((length v0:Int)+1))) (.ite (decide (v11n=length o1)&&decide ((2*(v11n+1)+1000)*8≤281474976710656)) (L1 v0 v8n v9 v10 (zh v11n 1) (o1++[0]) o0) .fail) (.ite (decide (0≤zc .i64 a')&&decide (zc .i64 a'=zc .i64 a')&&decide (8*toNat b'≤281474976710656)&&decide (zc .i64 a'<9223372036854775808)) (L2 v8n v9 v10 v11n (toNat b') (zc .i64 (zc .i64 a'-1)) (replicate (toNat b') 0) o1 o0) .fail):=by kernel_rfl
def L3(v8n:Nat)(v9:List Int)(v10:Int)(v11n v12n:Nat)(v13:Int)(o2 o1 o0:List Int)(v0n:Nat)(v1:List Int)(v2 v7:Int)(v9':Int)(v10':Int)(o2':List Int)(o1':List Int)(o0':List Int):Tr:=re ((stepT KW (L2 v8n v9 v10 v11n v12n v13 o2 o1 o0)).L.L.L.L.L.L.L.L.L) (AI 77 [(0,.sl 1 1 0 v0n none),(1,.dat (zg i64) v1),(2,.dat i64 v2),(7,.dat i64 v7),(9,.dat i64 v9'),(10,.dat i64 v10')] [(2,.arr false 3 i64 o2'),(1,.arr false 3 i64 o1'),(0,.arr true 3 i64 o0')] 3)
theorem A1(v8n:Nat)(v9:List Int)(v10:Int)(v11n v12n:Nat)(v13:Int)(o2 o1 o0:List Int):stepT KW (L2 v8n v9 v10 v11n v12n v13 o2 o1 o0)=let a':=(length v9:Int);let f':=take (toNat v10) o1;let c':=toNat (zc .i64 (a'-1));let d':=zc .i64 (v13+a')-1;let e':=decide (0≤zc .i64 (a'-1))&&decide (zc .i64 (a'-1)<a');let g':=zc .i64 (v13+a');let b':=zc .i64 (zc .i64 (getD o1 (toNat g') 0*1000000000)+getD o1 (toNat (zc .i64 d')) 0);let h':=decide (getD v9 c' 0≠0);.ite (decide (v13≥0)) (.ite (decide (0≤zc .i64 (v13+a'))&&decide (zc .i64 (v13+a')<(↑v11n:Int))) (.ite (decide (toNat g'<length o1)) (.ite (decide (0≤zc .i64 d')&&decide (zc .i64 d'<(↑v11n:Int))) (.ite (decide (toNat (zc .i64 d')<length o1)) (.ite e' (.ite h' (.ite e' (.ite h' (L3 v8n v9 v10 v11n v12n v13 o2 o1 o0 v11n v9 v13 (a') (zc .i64 (zP b' (getD v9 c' 0))) (zC b' (getD v9 c' 0)) o2 o1 o0) .fail) .fail) .fail) .fail) .fail) .fail) .fail) .fail) (.ite (decide (0≤v10)&&true&&decide (0≤toNat v10)&&decide (toNat v10≤zB none v11n)&&decide (zB none v11n≤zB none v11n)&&true) (.ite (decide (0<(↑v8n:Int))) (.ite (decide (0<length o0)) (.ite (decide (0+toNat v10≤length o1)&&true&&decide (length f'≤20000)) (.ite (Jk (Au f')&&decide (0<getD o0 0 0)&&decide (getD o0 0 0<1000000000)) (.ite (decide (0+v12n≤length o2)&&true&&decide (length (take v12n o2)≤20000)) (.leaf (.tup [.dat (zg i64) (Au (take v12n o2)),.dat (zg i64) (BN (Aq (Au f')/getD o0 0 0))]) ([(2,.arr true 3 i64 o2),(1,.arr true 3 i64 o1),(0,.arr true 3 i64 o0)])) .fail) .fail) .fail) .fail) .fail) .fail):=by kernel_rfl
def L4(v8n:Nat)(v9:List Int)(v10:Int)(v11n v12n:Nat)(v13 v14 v15 v16:Int)(o2 o1 o0:List Int):Tr:=re ((stepT KW (L3 0 [] 0 0 0 0 [] [] [] 0 [] 0 0 0 0 [] [] [])).L.L.L) (AI 206 [(8,.sl 0 1 0 v8n none),(9,.dat (zg i64) v9),(10,.dat i64 v10),(11,.sl 1 1 0 v11n none),(12,.sl 2 1 0 v12n none),(13,.dat i64 v13),(14,.dat i64 v14),(15,.dat i64 v15),(16,.dat i64 v16)] [(2,.arr false 3 i64 o2),(1,.arr false 3 i64 o1),(0,.arr true 3 i64 o0)] 3)
theorem CN(v8n:Nat)(v9:List Int)(v10:Int)(v11n v12n:Nat)(v13:Int)(o2 o1 o0:List Int)(v0n:Nat)(v1:List Int)(v2 v7:Int)(v9':Int)(v10':Int)(o2':List Int)(o1':List Int)(o0':List Int):stepT KW (L3 v8n v9 v10 v11n v12n v13 o2 o1 o0 v0n v1 v2 v7 v9' v10' o2' o1' o0')=let b':=zc .i64 (v2+v7)-2;let c':=v10'+getD v1 (toNat (zc .i64 (v7-1))) 0;let d':=zc .i64 (v9'-1);let a':Tr:=.ite (decide (0≤zc .i64 (v7-1))&&decide (zc .i64 (v7-1)<(length v1:Int))) (.ite (decide (zc .i64 c'≥1000000000)) (L4 v8n v9 v10 v11n v12n v13 d' 0 0 o2' o1' o0') (L3 v8n v9 v10 v11n v12n v13 o2 o1 o0 v0n v1 v2 v7 d' (zc .i64 c') o2' o1' o0')) .fail;.ite (decide (v9'≥1000000000)) a' (.ite (decide (0≤zc .i64 (v7-2))&&decide (zc .i64 (v7-2)<(length v1:Int))) (.ite (decide (0≤zc .i64 b')&&decide (zc .i64 b'<(↑v0n:Int))) (.ite (decide (toNat (zc .i64 b')<length o1')) (.ite (decide (zc .i64 (v9'*getD v1 (toNat (zc .i64 (v7-2))) 0)>zc .i64 (zc .i64 (v10'*1000000000)+getD o1' (toNat (zc .i64 b')) 0))) a' (L4 v8n v9 v10 v11n v12n v13 v9' 0 0 o2' o1' o0')) .fail) .fail) .fail):=by kernel_rfl
def L5(v8n:Nat)(v9:List Int)(v10:Int)(v11n v12n:Nat)(v13 v14 v19 v20:Int)(o2 o1 o0:List Int):Tr:=re ((stepT KW (L4 0 [] 0 0 0 0 0 0 0 [] [] [])).R.L.L.L.L.L.L.L) (AI 206 [(8,.sl 0 1 0 v8n none),(9,.dat (zg i64) v9),(10,.dat i64 v10),(11,.sl 1 1 0 v11n none),(12,.sl 2 1 0 v12n none),(13,.dat i64 v13),(14,.dat i64 v14),(19,.dat i64 v19),(20,.dat i64 v20)] [(2,.arr false 3 i64 o2),(1,.arr false 3 i64 o1),(0,.arr true 3 i64 o0)] 3)
theorem Dm(v8n:Nat)(v9:List Int)(v10:Int)(v11n v12n:Nat)(v13 v14 v15 v16:Int)(o2 o1 o0:List Int):stepT KW (L4 v8n v9 v10 v11n v12n v13 v14 v15 v16 o2 o1 o0)=let c':=decide (0≤zc .i64 (v16+v13))&&decide (zc .i64 (v16+v13)<(↑v11n:Int));let d':=decide (0≤zc .i64 (v13+v10))&&decide (zc .i64 (v13+v10)<(↑v11n:Int));let e':=zc .i64 (zc .i64 (v14*getD v9 (toNat v16) 0)+v15);let f':=zc .i64 (v16+v13);let g':=zc .i64 (v13+v10);let j':=zc .i64 (v16+1);let a':=set o1 (toNat g') (zc .i64 (getD o1 (toNat g') 0-v15));let b':=getD o1 (toNat f') 0-zC e' 1000000000;let h':=decide (toNat f'<length o1);let i':=decide (toNat g'<length o1);let k':=zP e' 1000000000;.ite (decide (v16<v10)) (.ite (decide (0≤v16)&&decide (v16<(length v9:Int))) (.ite c' (.ite h' (.ite true (.ite true (.ite (decide (zc .i64 b'<0)) (.ite c' (.ite h' (L4 v8n v9 v10 v11n v12n v13 v14 (zc .i64 (zc .i64 k'+1)) j' o2 (set o1 (toNat f') (zc .i64 (zc .i64 b'+1000000000))) o0) .fail) .fail) (.ite c' (.ite h' (L4 v8n v9 v10 v11n v12n v13 v14 (zc .i64 k') j' o2 (set o1 (toNat f') (zc .i64 b')) o0) .fail) .fail)) .fail) .fail) .fail) .fail) .fail) (.ite d' (.ite i' (.ite d' (.ite i' (.ite d' (.ite (decide (toNat g'<length a')) (.ite (decide (getD a' (toNat g') 0<0)) (L5 v8n v9 v10 v11n v12n v13 (zc .i64 (v14-1)) 0 0 o2 a' o0) (.ite (decide (0≤v13)&&decide (v13<(↑v12n:Int))) (.ite (decide (toNat v13<length o2)) (L2 v8n v9 v10 v11n v12n (zc .i64 (v13-1)) (set o2 (toNat v13) v14) a' o0) .fail) .fail)) .fail) .fail) .fail) .fail) .fail) .fail):=by kernel_rfl
theorem Gy(v8n:Nat)(v9:List Int)(v10:Int)(v11n v12n:Nat)(v13 v14 v19 v20:Int)(o2 o1 o0:List Int):stepT KW (L5 v8n v9 v10 v11n v12n v13 v14 v19 v20 o2 o1 o0)=let b':=decide (0≤zc .i64 (v20+v13))&&decide (zc .i64 (v20+v13)<(↑v11n:Int));let c':=decide (0≤zc .i64 (v13+v10))&&decide (zc .i64 (v13+v10)<(↑v11n:Int));let d':=zc .i64 (v20+v13);let e':=zc .i64 (v13+v10);let a':=zc .i64 (zc .i64 (getD o1 (toNat d') 0+getD v9 (toNat v20) 0)+v19);let f':=decide (toNat d'<length o1);let g':=decide (toNat e'<length o1);.ite (decide (v20<v10)) (.ite b' (.ite f' (.ite (decide (0≤v20)&&decide (v20<(length v9:Int))) (.ite true (.ite b' (.ite f' (.ite true (L5 v8n v9 v10 v11n v12n v13 v14 (zc .i64 (zP a' 1000000000)) (zc .i64 (v20+1)) o2 (set o1 (toNat d') (zC a' 1000000000)) o0) .fail) .fail) .fail) .fail) .fail) .fail) .fail) (.ite c' (.ite g' (.ite c' (.ite g' (.ite (decide (0≤v13)&&decide (v13<(↑v12n:Int))) (.ite (decide (toNat v13<length o2)) (L2 v8n v9 v10 v11n v12n (zc .i64 (v13-1)) (set o2 (toNat v13) v14) (set o1 (toNat e') (zc .i64 (getD o1 (toNat e') 0+v19))) o0) .fail) .fail) .fail) .fail) .fail) .fail):=by kernel_rfl
end T164
namespace T92
def T(a b:List Int):Tr:=tree rP false 9 92 (Ah ([zg i64,zg i64]) (a,b))
def L1(v0 v1:List Int):Tr:=re ((T [] [])) (AI 19 [(0,.dat (zg i64) v0),(1,.dat (zg i64) v1)] [] 0)
theorem An(a b:List Int):T a b=L1 a b:=by kernel_rfl
theorem Ar(v0 v1:List Int):stepT rP (L1 v0 v1)=.ite (decide ((length v1:Int)>0)) (.ite (A4 v0&&A4 v1&&decide (length v0≤9000)&&decide (length v1≤9000)&&decide (0<Aq v1)) (L1 v1 (BN (Aq v0 % Aq v1))) .fail) (.leaf (.dat (zg i64) v0) []):=by kernel_rfl
end T92
namespace T165
def T(s:List UInt8):Tr:=tree XU false 9 165 (Ah ([zj]) s)
def L1(v0:List UInt8)(v3 v4:Int):Tr:=re ((T [])) (AI 20 [(0,.dat zj v0),(3,.dat i64 v3),(4,.dat i64 v4)] [] 0)
theorem An(s:List UInt8):T s=L1 s 0 0:=by kernel_rfl
theorem Ar(v0:List UInt8)(v3 v4:Int):stepT XU (L1 v0 v3 v4)=let a':=decide (v4<(length v0:Int));.ite (a') (.ite (decide (0≤v4)&&a') (L1 v0 (zc .i64 (zc .i64 (zc .i64 (10*v3)+zc .i64 (↑(zk (getD v0 (toNat v4) (0:UInt8))):Int))-48)) (zc .i64 (v4+1))) .fail) (.leaf (.dat i64 v3) []):=by kernel_rfl
end T165
namespace T163
def T(s:List UInt8):Tr:=tree YC false 9 163 (Ah ([zj]) s)
def L1(v0:List UInt8)(v3:Bool):Tr:=re ((T []).L.L.L.L) (AI 40 [(0,.dat zj v0),(2,.ptr 0 0),(3,.dat zi v3),(4,.nil)] [(0,.box [.bl false,.nil])] 1)
def L2(v0:List UInt8):Tr:=re ((T []).R) (AI 40 [(0,.dat zj v0),(2,.ptr 0 0),(3,.bl false),(4,.nil)] [(0,.box [.bl false,.nil])] 1)
theorem An(s:List UInt8):T s=let a':=(↑(zk (getD s 0 (0:UInt8))):Int)==45;.ite (decide ((length s:Int)>0)) (.ite (decide (0<(length s:Int))) (.ite a' (.ite (decide (1≤length s)&&decide (length s≤length s)) (L1 (take (zz (length s) 1) (drop 1 s)) a') .fail) (L1 s a')) .fail) (L2 s):=by kernel_rfl
def L3(v0:List UInt8)(v3:Bool)(v4n:Nat)(o1:List Int):Tr:=re ((stepT YC (L1 [] false)).L.L.L.L.L) (AI 40 [(0,.dat zj v0),(2,.ptr 0 0),(3,.dat zi v3),(4,.sl 1 1 0 v4n none)] [(1,.arr false 3 i64 o1),(0,.box [.bl false,.nil])] 2)
theorem Ar(v0:List UInt8)(v3:Bool):stepT YC (L1 v0 v3)=let b':=decide (1≤1)&&decide (0<1)&&decide ((2*1+1000)*8≤281474976710656);let e':=(length v0:Int);let g':=B5 v3 [Bv v0];let h':=Au [Bv v0];let a':=zc .i64 (e'-9);let d':=decide (0≤zc .i64 (e'-9));let c':=take (zz (length v0) (toNat a')) (drop (toNat a') v0);let f':=decide (toNat a'≤length v0);.ite (decide (e'>9)) (.ite (d'&&true&&f'&&decide (length v0≤length v0)) (.ite (Dx c') (.ite b' (.ite (d'&&decide (0≤toNat a')&&f') (L3 (take (toNat a') v0) v3 1 ([Bv c'])) .fail) .fail) .fail) .fail) (.ite (Dx v0) (.ite b' (.ite (decide (0+1≤1)&&true&&decide (1≤20000)) (.leaf (zp [.dat zi g',.dat (zg i64) h']) ([(zh 1 1,.arr true 3 i64 [Bv v0]),(1,.arr false 3 i64 [Bv v0]),(0,.box [.dat zi g',.dat (zg i64) h'])])) .fail) .fail) .fail):=by kernel_rfl
def L4(v0:List UInt8)(v4n:Nat)(o1:List Int):Tr:=re ((stepT YC (L2 [])).L.L.L.L.L) (AI 40 [(0,.dat zj v0),(2,.ptr 0 0),(3,.bl false),(4,.sl 1 1 0 v4n none)] [(1,.arr false 3 i64 o1),(0,.box [.bl false,.nil])] 2)
theorem A1(v0:List UInt8):stepT YC (L2 v0)=let b':=decide (1≤1)&&decide (0<1)&&decide ((2*1+1000)*8≤281474976710656);let e':=B5 false [Bv v0];let f':=(length v0:Int);let h':=Au [Bv v0];let a':=zc .i64 (f'-9);let d':=decide (0≤zc .i64 (f'-9));let c':=take (zz (length v0) (toNat a')) (drop (toNat a') v0);let g':=decide (toNat a'≤length v0);.ite (decide (f'>9)) (.ite (d'&&true&&g'&&decide (length v0≤length v0)) (.ite (Dx c') (.ite b' (.ite (d'&&decide (0≤toNat a')&&g') (L4 (take (toNat a') v0) 1 ([Bv c'])) .fail) .fail) .fail) .fail) (.ite (Dx v0) (.ite b' (.ite (decide (0+1≤1)&&true&&decide (1≤20000)) (.leaf (zp [.dat zi e',.dat (zg i64) h']) ([(zh 1 1,.arr true 3 i64 [Bv v0]),(1,.arr false 3 i64 [Bv v0]),(0,.box [.dat zi e',.dat (zg i64) h'])])) .fail) .fail) .fail):=by kernel_rfl
theorem CN(v0:List UInt8)(v3:Bool)(v4n:Nat)(o1:List Int):stepT YC (L3 v0 v3 v4n o1)=let c':=decide (1≤1)&&true&&decide (v4n=length o1)&&decide ((2*(v4n+1)+1000)*8≤281474976710656);let f':=o1++[Bv v0];let g':=(length v0:Int);let a':=zc .i64 (g'-9);let b':=take (zh v4n 1) f';let e':=decide (0≤zc .i64 (g'-9));let d':=take (zz (length v0) (toNat a')) (drop (toNat a') v0);let h':=decide (toNat a'≤length v0);.ite (decide (g'>9)) (.ite (e'&&true&&h'&&decide (length v0≤length v0)) (.ite (Dx d') (.ite c' (.ite (e'&&decide (0≤toNat a')&&h') (L3 (take (toNat a') v0) v3 (zh v4n 1) (o1++[Bv d'])) .fail) .fail) .fail) .fail) (.ite (Dx v0) (.ite c' (.ite (decide (0+zh v4n 1≤length f')&&true&&decide (length b'≤20000)) (.leaf (zp [.dat zi (B5 v3 b'),.dat (zg i64) (Au b')]) ([(zh 2 1,.arr true 3 i64 f'),(2,.arr false 3 i64 [Bv v0]),(0,.box [.dat zi (B5 v3 b'),.dat (zg i64) (Au b')])])) .fail) .fail) .fail):=by kernel_rfl
theorem Dm(v0:List UInt8)(v4n:Nat)(o1:List Int):stepT YC (L4 v0 v4n o1)=let c':=decide (1≤1)&&true&&decide (v4n=length o1)&&decide ((2*(v4n+1)+1000)*8≤281474976710656);let f':=o1++[Bv v0];let g':=(length v0:Int);let a':=zc .i64 (g'-9);let b':=take (zh v4n 1) f';let e':=decide (0≤zc .i64 (g'-9));let d':=take (zz (length v0) (toNat a')) (drop (toNat a') v0);let h':=decide (toNat a'≤length v0);.ite (decide (g'>9)) (.ite (e'&&true&&h'&&decide (length v0≤length v0)) (.ite (Dx d') (.ite c' (.ite (e'&&decide (0≤toNat a')&&h') (L4 (take (toNat a') v0) (zh v4n 1) (o1++[Bv d'])) .fail) .fail) .fail) .fail) (.ite (Dx v0) (.ite c' (.ite (decide (0+zh v4n 1≤length f')&&true&&decide (length b'≤20000)) (.leaf (zp [.dat zi (B5 false b'),.dat (zg i64) (Au b')]) ([(zh 2 1,.arr true 3 i64 f'),(2,.arr false 3 i64 [Bv v0]),(0,.box [.dat zi (B5 false b'),.dat (zg i64) (Au b')])])) .fail) .fail) .fail):=by kernel_rfl
end T163
end
end Go.Pe
end
section
namespace Go.Pe
open Sp
open Go.Det
noncomputable section
open List Int Prod
namespace T105n
def T(n:Int):Tr:=tree wO false 9 105 (Ah ([ze zO]) n)
theorem An(n:Int):T n=.leaf (zp [.dat i64 n,.nil]) ([(0,.box [.dat i64 n,.nil])]):=by kernel_rfl
end T105n
namespace T176
def T(a b:Int×List Int):Tr:=tree rI false 9 176 (Ah ([zm i64 (zf (ze zd)),zm i64 (zf (ze zd))]) (a,b))
def L1(v8:Bool)(v12 v13:List Int)(o2 o1 o0:Int)(o0_1:List Int):Tr:=re ((T (0,[]) (0,[])).L.L.R.L.L.L) (AI 84 [(3,.ptr 0 0),(4,.ptr 1 0),(5,.ptr 2 0),(8,.dat zi v8),(12,.dat (zg (ze zd)) v12),(13,.dat (zg (ze zd)) v13)] [(2,.box [.dat i64 o2,.nil]),(1,.box [.dat i64 o1,.nil]),(0,.box [.dat i64 o0,.dat (zf (ze zd)) o0_1])] 3)
theorem An(a b:Int×List Int):T a b=let b':=zf (ze zd);let c':=Bp (Ag (Sp.vI (fst a,snd a)));let d':=Bp (Ag (Sp.vI (fst b,snd b)));let e':=zP (fst a) (fst b);let f':=zc .i64 (zC (fst a) (fst b)+fst b);let h':=zC (fst a) (fst b);let i':=zh (zh 0 1) 1;let a':Tr:=.ite (Dt (fst a,snd a)) (.ite (Dt (fst b,snd b)) (.ite (Qz c' d') (L1 (decide (Sp.vI (fst a,snd a)<0)) (Bp (Am c'/Am d')) (Bp (Am c' % Am d')) 0 0 (fst b) (snd b)) .fail) .fail) .fail;let g':=zc .i64 (zc .i64 e'-1);.ite (!decide (0<length (snd a))) (.ite (!decide (0<length (snd b))) (.ite (fst a !=(-9223372036854775808)) (.ite (decide (fst b≠0)) (.ite (decide (fst b≠0)) (.ite (decide (zC (fst a) (fst b)<0)) (.leaf (.tup [zp [.dat i64 g',.nil],zp [.dat i64 f',.nil]]) ([(zh i' 1,.box [.dat i64 f',.nil]),(zh (zh 0 1) 1,.box [.dat i64 g',.nil]),(zh 0 1,.box [.dat i64 (fst b),.dat b' (snd b)]),(0,.box [.dat i64 (fst a),.dat b' (snd a)])])) (.leaf (.tup [zp [.dat i64 (zc .i64 e'),.nil],zp [.dat i64 h',.nil]]) ([(zh i' 1,.box [.dat i64 h',.nil]),(zh (zh 0 1) 1,.box [.dat i64 (zc .i64 e'),.nil]),(zh 0 1,.box [.dat i64 (fst b),.dat b' (snd b)]),(0,.box [.dat i64 (fst a),.dat b' (snd a)])]))) .fail) .fail) a') a') a':=by kernel_rfl
def L2(o4:Int)(o4_1:List Int)(o3:Int)(o3_1:List Int)(o2 o1 o0:Int)(o0_1:List Int):Tr:=re ((stepT rI (L1 false [] [] 0 0 0 [])).L.L) (AI 84 [(3,.ptr 0 0),(4,.ptr 1 0),(5,.ptr 2 0),(14,.ptr 3 0),(15,.ptr 4 0)] [(4,.box [.dat i64 o4,.dat (zf (ze zd)) o4_1]),(3,.box [.dat i64 o3,.dat (zf (ze zd)) o3_1]),(2,.box [.dat i64 o2,.nil]),(1,.box [.dat i64 o1,.nil]),(0,.box [.dat i64 o0,.dat (zf (ze zd)) o0_1])] 5)
theorem Ar(v8:Bool)(v12 v13:List Int)(o2 o1 o0:Int)(o0_1:List Int):stepT rI (L1 v8 v12 v13 o2 o1 o0 o0_1)=let a':=Sp.sg v8 (Am v13);let b':=Sp.sg v8 (Am v12);.ite (B2 v12) (.ite (B2 v13) (L2 (Cp a') (Cn a') (Cp b') (Cn b') o2 o1 o0 o0_1) .fail) .fail:=by kernel_rfl
theorem A1(o4:Int)(o4_1:List Int)(o3:Int)(o3_1:List Int)(o2 o1 o0:Int)(o0_1:List Int):stepT rI (L2 o4 o4_1 o3 o3_1 o2 o1 o0 o0_1)=let a':=zf (ze zd);let b':=ZI (o3,o3_1) (1,Eg 1);let c':=dL (o3,o3_1) (1,Eg 1);let d':=HQ (o4,o4_1) (o0,o0_1);let e':=HJ (o4,o4_1) (o0,o0_1);.ite (Dt (o4,o4_1)) (.ite (decide (HW (o4,o4_1)<0)) (.ite true (.ite (Ba (o3,o3_1)&&Ba (1,Eg 1)) (.ite (Ba (o4,o4_1)&&Ba (o0,o0_1)) (.leaf (.tup [zp [.dat i64 b',.dat a' c'],zp [.dat i64 d',.dat a' e']]) ([(4,.box [.dat i64 d',.dat a' e']),(3,.box [.dat i64 b',.dat a' c']),(2,.box [.dat i64 d',.dat a' e']),(1,.box [.dat i64 b',.dat a' c']),(0,.box [.dat i64 o0,.dat a' o0_1])])) .fail) .fail) .fail) (.leaf (.tup [zp [.dat i64 o3,.dat a' o3_1],zp [.dat i64 o4,.dat a' o4_1]]) ([(4,.box [.dat i64 o4,.dat a' o4_1]),(3,.box [.dat i64 o3,.dat a' o3_1]),(2,.box [.dat i64 o4,.dat a' o4_1]),(1,.box [.dat i64 o3,.dat a' o3_1]),(0,.box [.dat i64 o0,.dat a' o0_1])]))) .fail:=by kernel_rfl
end T176
namespace T152
def T(a b:Int×List Int):Tr:=tree rR false 9 152 (Ah ([zm i64 (zf (ze zd)),zm i64 (zf (ze zd))]) (a,b))
def L1(o2 o1:Int)(o1_1:List Int)(o0:Int)(o0_1:List Int):Tr:=re ((T (0,[]) (0,[])).L.L) (AI 23 [(2,.ptr 0 0),(3,.ptr 1 0),(4,.ptr 2 0)] [(2,.box [.dat i64 o2,.nil]),(1,.box [.dat i64 o1,.dat (zf (ze zd)) o1_1]),(0,.box [.dat i64 o0,.dat (zf (ze zd)) o0_1])] 3)
theorem An(a b:Int×List Int):T a b=.ite (Dt (fst a,snd a)) (.ite (Dt (fst b,snd b)) (L1 0 (NJ (fst b,snd b)) (OS (fst b,snd b)) (NJ (fst a,snd a)) (OS (fst a,snd a))) .fail) .fail:=by kernel_rfl
theorem Ar(o2 o1:Int)(o1_1:List Int)(o0:Int)(o0_1:List Int):stepT rR (L1 o2 o1 o1_1 o0 o0_1)=let a':=zf (ze zd);.ite (Dt (o1,o1_1)) (.ite (HW (o1,o1_1) !=0) (.ite (Ba (o0,o0_1)&&Ba (o1,o1_1)&&decide (0<Sp.vI (o1,o1_1))) (L1 o2 (Wb (o0,o0_1) (o1,o1_1)) (Wh (o0,o0_1) (o1,o1_1)) o1 o1_1) .fail) (.leaf (zp [.dat i64 o0,.dat a' o0_1]) ([(2,.box [.dat i64 o0,.dat a' o0_1]),(1,.box [.dat i64 o1,.dat a' o1_1]),(0,.box [.dat i64 o0,.dat a' o0_1])]))) .fail:=by kernel_rfl
end T152
namespace T216
def T(a:Int×List Int)(k:Int):Tr:=tree nY false 9 216 (Ah ([zm i64 (zf (ze zd)),ze zO]) (a,k))
def L1(v1 o2:Int)(o2_1:List Int)(o1 o0:Int)(o0_1:List Int):Tr:=re ((T (0,[]) 0).L) (AI 23 [(1,.dat i64 v1),(2,.ptr 0 0),(4,.ptr 1 0),(5,.ptr 2 0)] [(2,.box [.dat i64 o2,.dat (zf (ze zd)) o2_1]),(1,.box [.dat i64 o1,.nil]),(0,.box [.dat i64 o0,.dat (zf (ze zd)) o0_1])] 3)
theorem An(a:Int×List Int)(k:Int):T a k=.ite true (L1 k 1 (Eg 1) 0 (fst a) (snd a)) .fail:=by kernel_rfl
theorem Ar(v1 o2:Int)(o2_1:List Int)(o1 o0:Int)(o0_1:List Int):stepT nY (L1 v1 o2 o2_1 o1 o0 o0_1)=let a':=zf (ze zd);let b':=Int.fdiv v1 (2^1);let c':=Ba (o0,o0_1)&&Ba (o0,o0_1);let d':=EA (o2,o2_1) (o0,o0_1);let e':=Ez (o2,o2_1) (o0,o0_1);let f':=EA (o0,o0_1) (o0,o0_1);let g':=Ez (o0,o0_1) (o0,o0_1);.ite (decide (v1>0)) (.ite (GI zO v1 1==1) (.ite (Ba (o2,o2_1)&&Ba (o0,o0_1)) (.ite (decide (v1>1)) (.ite c' (.ite true (L1 b' d' e' o1 f' g') .fail) .fail) (.ite true (L1 b' d' e' o1 o0 o0_1) .fail)) .fail) (.ite (decide (v1>1)) (.ite c' (.ite true (L1 b' o2 o2_1 o1 f' g') .fail) .fail) (.ite true (L1 b' o2 o2_1 o1 o0 o0_1) .fail))) (.leaf (zp [.dat i64 o2,.dat a' o2_1]) ([(2,.box [.dat i64 o2,.dat a' o2_1]),(1,.box [.dat i64 o2,.dat a' o2_1]),(0,.box [.dat i64 o0,.dat a' o0_1])])):=by kernel_rfl
end T216
end
end Go.Pe
end
section
namespace Go.Pe
open Sp
open Go.Det
noncomputable section
open List Int Prod
namespace T230
def T(a b:List Int):Tr:=tree Iy false 9 230 (Ah ([zg (ze zd),zg (ze zd)]) (a,b))
def L1(v0 v1:List Int)(v6n:Nat)(v7 v8:Int)(o0:List Int):Tr:=re ((T [] []).L.R.L.L) (AI 137 [(0,.dat (zg (ze zd)) v0),(1,.dat (zg (ze zd)) v1),(6,.sl 0 1 0 v6n none),(7,.dat (ze zd) v7),(8,.dat i64 v8)] [(0,.arr false 130 (ze zd) o0)] 1)
def L2(a b:List Int)(v1:Int)(v5n:Nat)(v12:List Int)(v13 v14:Int)(o0:List Int):Tr:=re ((T a b).L.R.R.L.L.L) (AI 40 [(1,.dat i64 v1),(5,.sl 0 1 0 v5n none),(12,.dat (zg (ze zd)) v12),(13,.dat i64 v13),(14,.dat i64 v14)] [(0,.arr false 130 (ze zd) o0)] 1)
theorem An(a b:List Int):T a b=let a':=(length b:Int);let b':=(length a:Int);let c':=zc .i64 (a'+1);let d':=getD b (toNat (zc .i64 (a'-1))) 0;.ite (B2 a&&B2 b) (.ite (decide (BX (Am a) (Am b)<0)) (.leaf (.tup [.nil,.dat (zg (ze zd)) a]) []) (.ite (a'==1) (.ite (decide (0≤b')&&decide (b'=b')&&decide (8*toNat b'≤281474976710656)&&decide (b'<9223372036854775808)) (L1 a b (toNat b') 0 (zc .i64 (b'-1)) (replicate (toNat b') 0)) .fail) (.ite (decide (0≤zc .i64 (a'-1))&&decide (zc .i64 (a'-1)<a')) (.ite (zu d') (.ite (decide (0≤zc .i64 (a'+1))&&decide (zc .i64 (a'+1)=zc .i64 (a'+1))&&decide (8*toNat c'≤281474976710656)&&decide (zc .i64 (a'+1)<9223372036854775808)) (L2 a b (Sp.lz d') (toNat c') b (a') 0 (replicate (toNat c') 0)) .fail) .fail) .fail))) .fail:=by kernel_rfl
theorem Ar(v0 v1:List Int)(v6n:Nat)(v7 v8:Int)(o0:List Int):stepT Iy (L1 v0 v1 v6n v7 v8 o0)=let a':=ze zd;let b':=getD v0 (toNat v8) 0;.ite (decide (v8≥0)) (.ite (decide (0≤v8)&&decide (v8<(length v0:Int))) (.ite (decide (0<(length v1:Int))) (.ite (zu v7&&zu b'&&zu (getD v1 0 0)&&decide (v7<getD v1 0 0)) (.ite (decide (0≤v8)&&decide (v8<(↑v6n:Int))) (.ite (decide (toNat v8<length o0)) (L1 v0 v1 v6n (Sp.dr v7 b' (getD v1 0 0)) (zc .i64 (v8-1)) (set o0 (toNat v8) (Sp.dq v7 b' (getD v1 0 0)))) .fail) .fail) .fail) .fail) .fail) (.ite (decide (0+v6n≤length o0)&&true&&Cx (take v6n o0)) (.ite (decide (1≤1)&&true&&Cx [v7]) (.leaf (.tup [.dat (zg a') (Au (take v6n o0)),.dat (zg a') (Au [v7])]) ([(1,.arr true 130 a' [v7]),(0,.arr true 130 a' o0)])) .fail) .fail):=by kernel_rfl
def L3(a b:List Int)(v1:Int)(v5n:Nat)(v12:List Int)(v13 v14:Int)(o0:List Int)(v1':Int)(v5n':Nat)(v12':List Int)(v13':Int)(v14':Int)(o1:List Int)(o0':List Int):Tr:=re ((stepT Iy (L2 a b v1 v5n v12 v13 v14 o0)).R.L.L) (AI 40 [(1,.dat i64 v1'),(5,.sl 1 1 0 v5n' none),(12,.dat (zg (ze zd)) v12'),(13,.dat i64 v13'),(14,.dat i64 v14')] [(1,.arr false 130 (ze zd) o1),(0,.arr true 130 (ze zd) o0')] 2)
theorem A1(a b:List Int)(v1:Int)(v5n:Nat)(v12:List Int)(v13 v14:Int)(o0:List Int):stepT Iy (L2 a b v1 v5n v12 v13 v14 o0)=let a':=set o0 (toNat v14) (Xk zd (getD o0 (toNat v14) 0) (zc .u64 (getD v12 (toNat v14) 0*2^zV (toNat v1) 64)));let b':=(length a:Int)+1;let c':=zc .i64 (v14+1);let e':=decide (0≤v14)&&decide (v14<(↑v5n:Int));let f':=decide (toNat v14<length o0);let d':=zc .i64 b';.ite (decide (v14<v13)) (.ite (decide (0≤v14)&&decide (v14<(length v12:Int))) (.ite e' (.ite f' (.ite (decide (0≤v1)) (.ite e' (.ite f' (.ite (decide (v1>0)) (.ite (decide (0≤zc .i64 (64-v1))) (.ite (decide (0≤zc .i64 (v14+1))&&decide (zc .i64 (v14+1)<(↑v5n:Int))) (.ite (decide (toNat c'<length a')) (L2 a b v1 v5n v12 v13 c' (set a' (toNat c') (Int.fdiv (getD v12 (toNat v14) 0) (2^zV (toNat (zc .i64 (64-v1))) 64)))) .fail) .fail) .fail) (L2 a b v1 v5n v12 v13 c' a')) .fail) .fail) .fail) .fail) .fail) .fail) (.ite (decide (0+v5n≤length o0)&&true&&Cx (take v5n o0)) (.ite (decide (0≤zc .i64 b')&&decide (zc .i64 b'=zc .i64 b')&&decide (8*toNat d'≤281474976710656)&&decide (zc .i64 b'<9223372036854775808)) (L3 a b v1 v5n v12 v13 v14 o0 (Sp.lz (getD b (toNat (zc .i64 ((length b:Int)-1))) 0)) (toNat d') a ((length a:Int)) 0 (replicate (toNat d') 0) o0) .fail) .fail):=by kernel_rfl
def L4(v9:Int)(v10:List Int)(v11n:Nat)(v12:Int)(v13n:Nat)(v14:Int)(o1 o0:List Int):Tr:=re ((stepT Iy (L3 [] [] 0 0 [] 0 0 [] 0 0 [] 0 0 [] [])).R.L) (AI 137 [(9,.dat i64 v9),(10,.dat (zg (ze zd)) v10),(11,.sl 0 1 0 v11n none),(12,.dat i64 v12),(13,.sl 1 1 0 v13n none),(14,.dat i64 v14)] [(1,.arr false 130 (ze zd) o1),(0,.arr false 130 (ze zd) o0)] 2)
theorem CN(a b:List Int)(v1:Int)(v5n:Nat)(v12:List Int)(v13 v14:Int)(o0:List Int)(v1':Int)(v5n':Nat)(v12':List Int)(v13':Int)(v14':Int)(o1:List Int)(o0':List Int):stepT Iy (L3 a b v1 v5n v12 v13 v14 o0 v1' v5n' v12' v13' v14' o1 o0')=let b':=set o1 (toNat v14') (Xk zd (getD o1 (toNat v14') 0) (zc .u64 (getD v12' (toNat v14') 0*2^zV (toNat v1') 64)));let c':=zc .i64 (v14'+1);let e':=decide (0≤v14')&&decide (v14'<(↑v5n':Int));let g':=decide (toNat v14'<length o1);let h':=Au (take v5n o0);let d':=(↑(length h'):Int);let a':=zc .i64 ((length a:Int)-d')+1;let f':=zc .i64 a';.ite (decide (v14'<v13')) (.ite (decide (0≤v14')&&decide (v14'<(↑(length v12'):Int))) (.ite e' (.ite g' (.ite (decide (0≤v1')) (.ite e' (.ite g' (.ite (decide (v1'>0)) (.ite (decide (0≤zc .i64 (64-v1'))) (.ite (decide (0≤zc .i64 (v14'+1))&&decide (zc .i64 (v14'+1)<(↑v5n':Int))) (.ite (decide (toNat c'<length b')) (L3 a b v1 v5n v12 v13 v14 o0 v1' v5n' v12' v13' c' (set b' (toNat c') (Int.fdiv (getD v12' (toNat v14') 0) (2^zV (toNat (zc .i64 (64-v1'))) 64))) o0') .fail) .fail) .fail) (L3 a b v1 v5n v12 v13 v14 o0 v1' v5n' v12' v13' c' b' o0')) .fail) .fail) .fail) .fail) .fail) .fail) (.ite (decide (0≤zc .i64 a')&&decide (zc .i64 a'=zc .i64 a')&&decide (8*toNat f'≤281474976710656)&&decide (zc .i64 a'<9223372036854775808)) (L4 (Sp.lz (getD b (toNat (zc .i64 ((length b:Int)-1))) 0)) h' v5n' (d') (toNat f') (zc .i64 ((length a:Int)-d')) (replicate (toNat f') 0) o1) .fail):=by kernel_rfl
def L5(v9:Int)(v10:List Int)(v11n:Nat)(v12:Int)(v13n:Nat)(v14:Int)(o1 o0:List Int)(v0o v0n v0c:Nat)(v1:List Int)(v5 v6 v7 v8:Int)(o1':List Int)(o0':List Int):Tr:=re ((stepT Iy (L4 v9 v10 v11n v12 v13n v14 o1 o0)).L.L.L.L.L.L.L.L.L.L) (AI 186 [(0,.sl 0 1 v0o v0n (Option.some v0c)),(1,.dat (zg (ze zd)) v1),(5,.dat i64 v5),(6,.dat (ze zd) v6),(7,.dat (ze zd) v7),(8,.dat (ze zd) v8)] [(1,.arr false 130 (ze zd) o1'),(0,.arr false 130 (ze zd) o0')] 2)
def L6(v9:Int)(v11n:Nat)(v12:Int)(v13n:Nat)(v96 v97:Int)(o1 o0:List Int):Tr:=re ((stepT Iy (L4 0 [] 0 0 0 0 [] [])).R) (AI 137 [(9,.dat i64 v9),(11,.sl 0 1 0 v11n none),(12,.dat i64 v12),(13,.sl 1 1 0 v13n none),(96,.dat i64 v96),(97,.dat i64 v97)] [(1,.arr false 130 (ze zd) o1),(0,.arr false 130 (ze zd) o0)] 2)
theorem Dm(v9:Int)(v10:List Int)(v11n:Nat)(v12:Int)(v13n:Nat)(v14:Int)(o1 o0:List Int):stepT Iy (L4 v9 v10 v11n v12 v13n v14 o1 o0)=let c':=(length v10:Int);let d':=zh 0 (toNat v14);let k':=zz (zB none v11n) (toNat v14);let p':=zc .i64 (v14+v12)+1;let a':=toNat (zc .i64 (c'-1));let g':=zc .i64 p';let h':=zh (toNat c') d';let l':=decide (zh (toNat c') d'<length o0);let n':=decide (0≤zc .i64 (c'-1));let b':=zz (toNat g') (toNat v14);let e':=n'&&decide (zc .i64 (c'-1)<c');let f':=getD o0 (zh a' d') 0;let j':=getD v10 a' 0;let o':=decide (zh a' d'<length o0);let q':=getD o0 h' 0;let i':=n'&&decide (zc .i64 (c'-1)<(↑b':Int));let m':=decide (0≤c')&&decide (c'<(↑b':Int));.ite (decide (v14≥0)) (.ite (decide (0≤v14)&&decide (0≤zc .i64 p')&&true&&decide (toNat v14≤toNat g')&&decide (toNat g'≤zB none v11n)&&decide (zB none v11n≤zB none v11n)&&true) (.ite m' (.ite l' (.ite e' (.ite (decide (getD o0 h' 0≥getD v10 a' 0)) (.ite i' (.ite o' (.ite e' (.ite (zu f'&&zu j'&&decide ((0:zY (BA [u64]))≤0)&&decide (0≤(1:zY (BA [u64])))) (L5 v9 v10 v11n v12 v13n v14 o1 o0 d' b' k' v10 (c') 18446744073709551615 (Hp f' j' 0) (Nw f' j' 0) o1 o0) .fail) .fail) .fail) .fail) (.ite m' (.ite l' (.ite i' (.ite o' (.ite e' (.ite (zu q'&&zu f'&&zu j'&&decide (getD o0 h' 0<getD v10 a' 0)) (L5 v9 v10 v11n v12 v13n v14 o1 o0 d' b' k' v10 (c') (Sp.dq q' f' j') (Sp.dr q' f' j') 0 o1 o0) .fail) .fail) .fail) .fail) .fail) .fail)) .fail) .fail) .fail) .fail) (L6 v9 v11n v12 v13n v12 0 o1 o0):=by kernel_rfl
def L7(v9:Int)(v10:List Int)(v11n:Nat)(v12:Int)(v13n:Nat)(v14:Int)(o1 o0:List Int)(v0o v0n v0c:Nat)(v1:List Int)(v5 v6 v11:Int)(v12':Int)(v104 v105:Int)(o1':List Int)(o0':List Int):Tr:=re ((stepT Iy (L5 v9 v10 v11n v12 v13n v14 o1 o0 0 0 0 [] 0 0 0 0 [] [])).L.L.L.L) (AI 186 [(0,.sl 0 1 v0o v0n (Option.some v0c)),(1,.dat (zg (ze zd)) v1),(5,.dat i64 v5),(6,.dat (ze zd) v6),(11,.dat (ze zd) v11),(12,.dat (ze zd) v12'),(104,.dat i64 v104),(105,.dat i64 v105)] [(1,.arr false 130 (ze zd) o1'),(0,.arr false 130 (ze zd) o0')] 2)
theorem Gy(v9:Int)(v10:List Int)(v11n:Nat)(v12:Int)(v13n:Nat)(v14:Int)(o1 o0:List Int)(v0o v0n v0c:Nat)(v1:List Int)(v5 v6 v7 v8:Int)(o1':List Int)(o0':List Int):stepT Iy (L5 v9 v10 v11n v12 v13n v14 o1 o0 v0o v0n v0c v1 v5 v6 v7 v8 o1' o0')=let b':=toNat (zc .i64 (v5-2));let c':=L7 v9 v10 v11n v12 v13n v14 o1 o0 v0o v0n v0c v1 v5 v6 0 0 v5 0 o1' o0';let d':=getD v1 (toNat (zc .i64 (v5-1))) 0;let f':=decide (0≤zc .i64 (v5-2));let a':Tr:=.ite (decide (0≤zc .i64 (v5-1))&&decide (zc .i64 (v5-1)<(length v1:Int))) (.ite (zu v7&&zu d'&&decide ((0:zY (BA [u64]))≤0)&&decide (0≤(1:zY (BA [u64])))) (L5 v9 v10 v11n v12 v13n v14 o1 o0 v0o v0n v0c v1 v5 (zc .u64 (v6-1)) (Hp v7 d' 0) (Nw v7 d' 0) o1' o0') .fail) .fail;let e':=getD v1 b' 0;.ite (v8==0) (.ite (f'&&decide (zc .i64 (v5-2)<(length v1:Int))) (.ite (zu v6&&zu e') (.ite (decide (Pw v6 e'<v7)) c' (.ite (Pw v6 e'==v7) (.ite (f'&&decide (zc .i64 (v5-2)<(↑v0n:Int))) (.ite (decide (zh b' v0o<length o0')) (.ite (decide (H5 v6 e'≤getD o0' (zh b' v0o) 0)) c' a') .fail) .fail) a')) .fail) .fail) c':=by kernel_rfl
theorem Hr(v9:Int)(v11n:Nat)(v12:Int)(v13n:Nat)(v96 v97:Int)(o1 o0:List Int):stepT Iy (L6 v9 v11n v12 v13n v96 v97 o1 o0)=let a':=set o0 (toNat v97) (Int.fdiv (getD o0 (toNat v97) 0) (2^zV (toNat v9) 64));let b':=decide (0≤v97)&&decide (v97<(↑v11n:Int));let c':=zc .i64 (v97+1);let d':=ze zd;let e':=decide (zc .i64 (v97+1)<(↑v11n:Int));let g':=decide (toNat v97<length o0);let f':=L6 v9 v11n v12 v13n v96 c' o1 a';let h':=decide (toNat v97<length a');.ite (decide (v97<v96)) (.ite b' (.ite g' (.ite (decide (0≤v9)) (.ite b' (.ite g' (.ite (decide (v9>0)) (.ite (e') (.ite b' (.ite h' (.ite (decide (0≤zc .i64 (v97+1))&&e') (.ite (decide (toNat c'<length a')) (.ite (decide (0≤zc .i64 (64-v9))) (.ite b' (.ite h' (L6 v9 v11n v12 v13n v96 c' o1 (set a' (toNat v97) (Xk zd (getD a' (toNat v97) 0) (zc .u64 (getD a' (toNat c') 0*2^zV (toNat (zc .i64 (64-v9))) 64))))) .fail) .fail) .fail) .fail) .fail) .fail) .fail) f') f') .fail) .fail) .fail) .fail) .fail) (.ite (decide (0≤v12)&&true&&decide (0≤toNat v12)&&decide (toNat v12≤zB none v11n)&&decide (zB none v11n≤zB none v11n)&&true) (.ite (decide (0+v13n≤length o1)&&true&&Cx (take v13n o1)) (.ite (decide (0+toNat v12≤length o0)&&true&&Cx (take (toNat v12) o0)) (.leaf (.tup [.dat (zg d') (Au (take v13n o1)),.dat (zg d') (Au (take (toNat v12) o0))]) ([(1,.arr true 130 d' o1),(0,.arr true 130 d' o0)])) .fail) .fail) .fail):=by kernel_rfl
def L8(v9:Int)(v10:List Int)(v11n:Nat)(v12:Int)(v13n:Nat)(v14:Int)(o1 o0:List Int)(v0o v0n v0c:Nat)(v1:List Int)(v5 v6 v17 v156 v157:Int)(o1':List Int)(o0':List Int):Tr:=re ((stepT Iy (L7 v9 v10 v11n v12 v13n v14 o1 o0 0 0 0 [] 0 0 0 0 0 0 [] [])).R.L.L.L.L.L.R) (AI 186 [(0,.sl 0 1 v0o v0n (Option.some v0c)),(1,.dat (zg (ze zd)) v1),(5,.dat i64 v5),(6,.dat (ze zd) v6),(17,.dat (ze zd) v17),(156,.dat i64 v156),(157,.dat i64 v157)] [(1,.arr false 130 (ze zd) o1'),(0,.arr false 130 (ze zd) o0')] 2)
theorem FH(v9:Int)(v10:List Int)(v11n:Nat)(v12:Int)(v13n:Nat)(v14:Int)(o1 o0:List Int)(v0o v0n v0c:Nat)(v1:List Int)(v5 v6 v11:Int)(v12':Int)(v104 v105:Int)(o1':List Int)(o0':List Int):stepT Iy (L7 v9 v10 v11n v12 v13n v14 o1 o0 v0o v0n v0c v1 v5 v6 v11 v12' v104 v105 o1' o0')=let b':=zh (toNat v5) v0o;let d':=getD v1 (toNat v105) 0;let e':=decide (zh (toNat v105) v0o<length o0');let g':=decide (zh (toNat v5) v0o<length o0');let h':=decide (0≤v105)&&decide (v105<(↑v0n:Int));let i':=(0:zY (BA [u64]));let j':=(1:zY (BA [u64]));let k':=decide (0≤v5)&&decide (v5<(↑v0n:Int));let n':=zh (toNat v105) v0o;let a':=H5 v6 d';let c':=getD o0' n' 0;let m':=getD o0' b' 0;let f':=set o0' b' (R4 m' v12' v11);let l':=Hp a' v12' 0;.ite (decide (v105<v104)) (.ite (decide (0≤v105)&&decide (v105<(length v1:Int))) (.ite (zu v6&&zu d') (.ite (zu a'&&zu v12'&&decide (i'≤0)&&decide (0≤j')) (.ite h' (.ite e' (.ite (zu c'&&zu l'&&decide (i'≤v11)&&decide (v11≤j')) (.ite h' (.ite e' (L7 v9 v10 v11n v12 v13n v14 o1 o0 v0o v0n v0c v1 v5 v6 (O8 c' l' v11) (zc .u64 (Pw v6 d'+Nw a' v12' 0)) v104 (zc .i64 (v105+1)) o1' (set o0' n' (R4 c' l' v11))) .fail) .fail) .fail) .fail) .fail) .fail) .fail) .fail) (.ite k' (.ite g' (.ite (zu m'&&zu v12'&&decide (i'≤v11)&&decide (v11≤j')) (.ite k' (.ite g' (.ite (O8 m' v12' v11==0) (.ite (decide (0≤v14)&&decide (v14<(↑v13n:Int))) (.ite (decide (toNat v14<length o1')) (L4 v9 v10 v11n v12 v13n (zc .i64 (v14-1)) (set o1' (toNat v14) v6) f') .fail) .fail) (L8 v9 v10 v11n v12 v13n v14 o1 o0 v0o v0n v0c v1 v5 v6 0 v5 0 o1' f')) .fail) .fail) .fail) .fail) .fail):=by kernel_rfl
theorem Jb(v9:Int)(v10:List Int)(v11n:Nat)(v12:Int)(v13n:Nat)(v14:Int)(o1 o0:List Int)(v0o v0n v0c:Nat)(v1:List Int)(v5 v6 v17 v156 v157:Int)(o1':List Int)(o0':List Int):stepT Iy (L8 v9 v10 v11n v12 v13n v14 o1 o0 v0o v0n v0c v1 v5 v6 v17 v156 v157 o1' o0')=let b':=decide (zh (toNat v157) v0o<length o0');let c':=getD v1 (toNat v157) 0;let d':=decide (zh (toNat v5) v0o<length o0');let e':=decide (0≤v157)&&decide (v157<(↑v0n:Int));let f':=decide (0≤v5)&&decide (v5<(↑v0n:Int));let g':=zh (toNat v157) v0o;let h':=zh (toNat v5) v0o;let a':=getD o0' g' 0;.ite (decide (v157<v156)) (.ite e' (.ite b' (.ite (decide (0≤v157)&&decide (v157<(length v1:Int))) (.ite (zu a'&&zu c'&&decide ((0:zY (BA [u64]))≤v17)&&decide (v17≤(1:zY (BA [u64])))) (.ite e' (.ite b' (L8 v9 v10 v11n v12 v13n v14 o1 o0 v0o v0n v0c v1 v5 v6 (Nw a' c' v17) v156 (zc .i64 (v157+1)) o1' (set o0' g' (Hp a' c' v17))) .fail) .fail) .fail) .fail) .fail) .fail) (.ite f' (.ite d' (.ite f' (.ite d' (.ite (decide (0≤v14)&&decide (v14<(↑v13n:Int))) (.ite (decide (toNat v14<length o1')) (L4 v9 v10 v11n v12 v13n (zc .i64 (v14-1)) (set o1' (toNat v14) (zc .u64 (v6-1))) (set o0' h' (zc .u64 (getD o0' h' 0+v17)))) .fail) .fail) .fail) .fail) .fail) .fail):=by kernel_rfl
end T230
end
end Go.Pe
end
section
namespace Go.Pe
open Sp
open Go.Det
namespace T230
variable {Q:PV→Ob→Prop}
theorem wY{r x d:Int}(hd:0<d)(hr:0≤r∧r<d)(hx:0≤x∧x<18446744073709551616):Sp.dq r x d*d+Sp.dr r x d=r*18446744073709551616+x∧0≤Sp.dq r x d∧Sp.dq r x d<18446744073709551616∧0≤Sp.dr r x d∧Sp.dr r x d<d:=by
 unfold Sp.dq Sp.dr;have h:=zN (r*18446744073709551616+x) d;rw[zq]at h;refine⟨h,Int.ediv_nonneg (by omega) (by omega),Int.ediv_lt_of_lt_mul hd (by omega),Int.emod_nonneg _ (by omega),Int.emod_lt_of_pos _ hd⟩
theorem Aj(a:List Int)(d:Int)(ha:Av Ak a)(hd:0<d∧d<18446744073709551616)(hm:a.length≤20000)(hq:∀q r ob,Av Ak q→(0≤r∧r<d)→Am a=Am q*d+r→Q (.tup [.dat CW (Au q),.dat CW (Au [r])]) ob):∀(i:Nat) (q:List Int) (r:Int),i+q.length=a.length→Av Ak q→(0≤r∧r<d)→zr Ak (a.drop i)=zr Ak q*d+r→
  Ends Iy (L1 a [d] a.length r ((i:Int)-1) (zK i 0++q)) Q
 |0,q,r,hl,hdq,hr,he=>by
  have ht:((zK 0 0++q).take a.length)=q:=by
   rw[List.replicate_zero,List.nil_append];exact zM (by omega)
  refine Ends.As (Ar ..) (Ends.ff (by simp) ?_);rw[ht];refine zo (Aa (by simp;omega) (D5 (by omega) hdq)) (zo (Aa rfl (D5 (by simp) (fun x hx=>by rw[List.mem_singleton]at hx;subst hx;exact⟨hr.1,by show x<18446744073709551616;omega⟩))) (Ends.leaf (hq q r _ hdq hr he)))
 |i+1,q,r,hl,hdq,hr,he=>by
  have e1:(((i+1:Nat):Int)-1)=(i:Int):=by omega
  have gx:=AR ha i;obtain⟨d1,d2,d3,d4,d5⟩:=wY hd.1 hr (zZ gx);have da:a.drop i=a.getD i 0::a.drop (i+1):=by
   rw[zt,zH (by omega)];exact zS (by omega)
  have es:∀x,(zK (i+1) (0:Int)++q).set i x=zK i 0++(x::q):=by
   intro x;rw[List.replicate_succ',zL];exact C5 _ _ _ _ (by simp)
  rw[e1];refine Ends.As (Ar ..) (zo (by simp) ?_);rw[zA,es,wr ((i:Int)-1) (by omega) (by omega)];refine zo (by simp;omega) (zo (by simp) (zo ?_ (zo (by simp;omega) (zo (by simp;omega) ?_))))
  ·exact Aa (Aa (Aa (Cu hr.1 (by omega)) gx) (Cu (by show 0≤d;omega) hd.2)) (decide_eq_true hr.2)
  ·refine Aj a d ha hd hm hq i _ _ (by simp;omega) (fun x hx=>?_) ⟨d4,d5⟩ ?_
   ·rcases List.mem_cons.1 hx with rfl|hx
    ·exact⟨d2,d3⟩
    ·exact hdq x hx
   ·rw[da];show a.getD i 0+(18446744073709551616:Int)*zr Ak (a.drop (i+1))=(Sp.dq r (a.getD i 0) d+(18446744073709551616:Int)*zr Ak q)*d+Sp.dr r (a.getD i 0) d;rw[he,zw,zy,zn];omega
end T230
end Go.Pe
end
section
namespace Go.Sp
theorem TN{B P u0 u1 u2 u' v1 v2 v' q r:Int}(hP:0<P)(hv:0≤v')(hu:u'<P)(hq:0≤q)(he:q*v1+r=u0*B+u1)(h:r*B+u2<q*v2):
  ((u0*B+u1)*B+u2)*P+u'<q*((v1*B+v2)*P+v'):=by
 have e:q*(v1*B+v2)=q*v1*B+q*v2:=by rw[zy,zn]
 have e2:(u0*B+u1)*B=q*v1*B+r*B:=by rw[←he,zw]
 have h1:(u0*B+u1)*B+u2+1≤q*(v1*B+v2):=by rw[e,e2];omega
 have h2:=zl h1 (zF hP);have h3:0≤q*v':=zG hq hv;rw[zy q, ←zn];rw[zw,zD]at h2;omega
theorem SS{B P u0 u1 u2 u' v1 v2 v' q r:Int}(hP:0<P)(hv:0≤v'∧v'<P)(hu:0≤u')(hq:0≤q∧q<B)(hv1:1≤v1)(hv2:0≤v2)(he:q*v1+r=u0*B+u1)(h:q*v2≤r*B+u2):
  q*((v1*B+v2)*P+v')<((u0*B+u1)*B+u2)*P+u'+((v1*B+v2)*P+v'):=by
 have e:q*(v1*B+v2)=q*v1*B+q*v2:=by rw[zy,zn]
 have e2:(u0*B+u1)*B=q*v1*B+r*B:=by rw[←he,zw]
 have h1:q*(v1*B+v2)≤(u0*B+u1)*B+u2:=by rw[e,e2];omega
 have h2:=zl h1 (zF hP);have h3:q*v'≤(B-1)*P:=Int.le_trans (zE (zF hv.2) hq.1) (zl (by omega) (zF hP));have h4:B≤v1*B+v2:=by
  have:=zl hv1 (show 0≤B by omega);omega
 have h5:=zl h4 (zF hP);rw[Int.sub_mul,zD]at h3;rw[zy q, ←zn];omega
end Go.Sp
end
section
namespace Go.Sp
theorem G2(b:Int):∀(l:List Int) (i:Nat) (x:Int),i<l.length→val b (l.set i x)=val b l+b^i*(x-l.getD i 0)
 |[],i,x,h=>by simp at h
 |d::l,0,x,_=>by
  show x+b*val b l=d+b*val b l+b^0*(x-d);rw[Int.pow_zero,zD];omega
 |d::l,i+1,x,h=>by
  have:=G2 b l i x (by simpa using h);show d+b*val b (l.set i x)=d+b*val b l+b^(i+1)*(x-l.getD i 0);rw[this,zy,zR,zq (b^i) b,zn,Int.add_assoc]
theorem Gs{b:Int}{l:List Int}(h:Av b l)(i:Nat){x:Int}(hx:0≤x∧x<b):Av b (l.set i x):=by
 intro d hd;rcases List.mem_or_eq_of_mem_set hd with hd|rfl
 ·exact h d hd
 ·exact hx
theorem EH{b:Int}{l r:List Int}(h1:Av b l)(h2:Av b r):Av b (l++r):=by
 intro d hd;rcases List.mem_append.1 hd with hd|hd
 ·exact h1 d hd
 ·exact h2 d hd
theorem Jp{b:Int}(hb:0<b){l:List Int}(h:Av b l)(i:Nat):0≤l.getD i 0∧l.getD i 0<b:=by
 rcases Nat.lt_or_ge i l.length with hi|hi
 ·have:l.getD i 0∈l:=by rw[zt,zH hi];exact List.getElem_mem hi
  exact h _ this
 ·rw[zt,List.getElem?_eq_none hi];exact⟨Int.le_refl _,hb⟩
theorem B3{l:List Int}{i:Nat}(h:i<l.length):l.drop i=l.getD i 0::l.drop (i+1):=by
 rw[zt,zH h];exact zS h
theorem Gi(p r:List Int)(i j:Nat)(h:p.length=j):(p++r).getD (i+j) 0=r.getD i 0:=by
 subst h;rw[zt,zt,List.getElem?_append_right (by omega),zI]
theorem Qs(p r:List Int)(i j:Nat)(x:Int)(h:p.length=j):(p++r).set (i+j) x=p++r.set i x:=by
 subst h;rw[List.set_append_right _ _ (by omega),zI]
theorem kA(b:Int)(r:List Int)(k:Nat)(hl:k+3≤r.length)(hz:val b (r.drop (k+3))=0):
  val b r=((r.getD (k+2) 0*b+r.getD (k+1) 0)*b+r.getD k 0)*b^k+val b (r.take k):=by
 have p1:b^(k+1)=b^k*b:=zR ..;have p2:b^(k+2)=b^k*b*b:=by rw[←p1];exact zR ..
 rw[B7 b r (k+3) hl,hz,AF,AF,AF,p1,p2,zW,zX];generalize b^k=P;generalize r.getD (k+2) 0=x;generalize r.getD (k+1) 0=y;generalize r.getD k 0=z;have e1:P*b*b*x=x*b*b*P:=by rw[zq (P*b*b) x,zq P b,zn b P b,zq P b, ←zn, ←zn]
 have e2:P*b*y=y*b*P:=by rw[zq (P*b) y,zq P b,zn]
 have e3:P*z=z*P:=zq _ _;have e4:((x*b+y)*b+z)*P=x*b*b*P+y*b*P+z*P:=by rw[zw,zw,zw]
 rw[e4];omega
theorem fR(b:Int)(v:List Int)(k:Nat)(hl:v.length=k+2):
  val b v=(v.getD (k+1) 0*b+v.getD k 0)*b^k+val b (v.take k):=by
 have h0:val b (v.drop (k+2))=0:=by rw[List.drop_eq_nil_of_le (by omega)];rfl
 have p1:b^(k+1)=b^k*b:=zR ..;rw[B7 b v (k+2) (by omega),h0,AF,AF,p1,zW,zX];generalize b^k=P;generalize v.getD (k+1) 0=y;generalize v.getD k 0=z;have e2:P*b*y=y*b*P:=by rw[zq (P*b) y,zq P b,zn]
 have e3:P*z=z*P:=zq _ _;rw[e2,e3,zw];omega
theorem dC{b:Int}(hb:2≤b){v:List Int}(hd:Av b v)(hn:nz v){k:Nat}(h1:b^k≤val b v)(h2:val b v<b^(k+1)):v.length=k+1:=by
 have hp:=AN (show 0<b by omega) k;have hne:v≠[]:=by rintro rfl;simp[val]at h1;omega
 have a1:=Bo (by omega) hd;have a2:=CU (by omega) hd hn hne;rcases Nat.lt_trichotomy v.length (k+1)with h|h|h
 ·have:=AL (show 1≤b by omega) (show v.length≤k by omega);omega
 ·exact h
 ·have:=AL (show 1≤b by omega) (show k+1≤v.length-1 by omega);omega
theorem I2{b:Int}(hb:2≤b){r:List Int}(hd:Av b r){n:Nat}(hl:n≤r.length)(h:val b r<b^n):val b (r.drop n)=0:=by
 have h0:=Az (show 0≤b by omega) (Eb hd n);have h1:=Az (show 0≤b by omega) (AM hd n);rw[B7 b r n hl]at h;have hp:=AN (show 0<b by omega) n;rcases Int.lt_or_le 0 (val b (r.drop n))with g|g
 ·have:=zE (show 1≤val b (r.drop n)by omega) (show 0≤b^n by omega);omega
 ·omega
theorem P7{b:Int}(hb:2≤b){r:List Int}(hd:Av b r){n:Nat}(hl:n≤r.length)(h:val b (r.drop n)=0):val b r<b^n:=by
 have:=Bo (show 0<b by omega) (AM hd n);rw[List.length_take,Nat.min_eq_left hl]at this;rw[B7 b r n hl,h];omega
theorem YZ{b c d x y X:Int}(hc:0<c)(hb:b=c*d):(x+b*(y+b*X))/c=(x/c+(y % c)*d)+b*((y+b*X)/c):=by
 subst hb;have h1:(x+c*d*(y+c*d*X))/c=x/c+d*(y+c*d*X):=by
  rw[zn c d,Int.add_mul_ediv_left _ _ (by omega)]
 have h2:(y+c*d*X)/c=y/c+d*X:=by
  rw[zn c d,Int.add_mul_ediv_left _ _ (by omega)]
 have h3:=zN y c;rw[h1,h2];have e1:d*(y+c*d*X)=d*(c*(y/c)+y % c+c*d*X):=by rw[h3]
 rw[e1,zy,zy,zy (c*d)];have e2:d*(c*(y/c))=c*d*(y/c):=by rw[←zn,zq d c]
 have e3:d*(y % c)=(y % c)*d:=zq _ _;have e4:d*(c*d*X)=c*d*(d*X):=by rw[←zn,zq d (c*d),zn]
 rw[e2,e3,e4];omega
theorem TT{b c d x k:Int}(hc:0<c)(hd:0<d)(hb:b=c*d)(hk:0≤k∧k<c)(hx:0≤x∧x<b):
  (x*c) % b=(x % d)*c∧(x % d)*c+k<b∧0≤(x % d)*c∧0≤x/d∧x/d<c∧(x % d)*c+b*(x/d)=x*c:=by
 subst hb;have h3:=zN x d;have m0:=Int.emod_nonneg x (show d≠0 by omega);have m1:=Int.emod_lt_of_pos x hd;have q0:0≤x/d:=Int.ediv_nonneg hx.1 (by omega);have q1:x/d<c:=Int.ediv_lt_of_lt_mul hd (by have:=hx.2;omega);have p0:0≤(x % d)*c:=zG m0 (by omega);have p1:(x % d)*c≤(d-1)*c:=zl (by omega) (by omega);have p2:(d-1)*c=c*d-c:=by rw[Int.sub_mul,zD,zq]
 have e:(x % d)*c+c*d*(x/d)=x*c:=by
  conv=>rhs;rw[←h3]
  rw[zw,zn c d,zq c (d*(x/d))];omega
 refine⟨?_,by omega,p0,q0,q1,e⟩;rw[←e,Int.add_mul_emod_self_left];exact Int.emod_eq_of_lt p0 (by omega)
end Go.Sp
namespace Go.Sp
theorem Mh{B P u0 u1 u2 u' v1 v2 v' q r:Int}(hP:0<P)(hB:0<B)(hq:0≤q)(hv:0≤v')(hv2:0≤v2)(hu:u'<P)(hu2:u2<B)(he:q*v1+r=u0*B+u1)(h:r<v1):
  ((u0*B+u1)*B+u2)*P+u'<(q+1)*((v1*B+v2)*P+v'):=by
 have h1:u0*B+u1+1≤(q+1)*v1:=by rw[zw,zD];omega
 have h2:=zl h1 (zF hB);have h3:(u0*B+u1)*B+u2+1≤(q+1)*v1*B:=by
  rw[zw,zD]at h2;omega
 have h4:=zl h3 (zF hP);rw[zw,zD]at h4;have h5:0≤(q+1)*(v2*P):=zG (by omega) (zG hv2 (zF hP));have h6:0≤(q+1)*v':=zG (by omega) hv;have e:(q+1)*((v1*B+v2)*P+v')=(q+1)*v1*B*P+(q+1)*(v2*P)+(q+1)*v':=by
  rw[zw (v1*B),zy,zy];congr 2;rw[zn,zn,zn]
 rw[e];omega
end Go.Sp
end
section
namespace Go.Pe
open Sp
open Go.Det
theorem SW{q x y c b:Int}(hq:zu q=true)(hx:zu x=true)(hy:zu y=true)(hc:zu c=true)(hb:0≤b∧b≤1):
  zu (H5 q x)=true∧zu (Hp (H5 q x) c 0)=true∧zc .u64 (Pw q x+Nw (H5 q x) c 0)=(q*x+c)/18446744073709551616∧zu ((q*x+c)/18446744073709551616)=true∧
  zu (R4 y (Hp (H5 q x) c 0) b)=true∧(0≤O8 y (Hp (H5 q x) c 0) b∧O8 y (Hp (H5 q x) c 0) b≤1)∧
  c+b+(R4 y (Hp (H5 q x) c 0) b-y)=18446744073709551616*((q*x+c)/18446744073709551616+O8 y (Hp (H5 q x) c 0) b)-q*x:=by
 have hq:=zZ hq;have hx:=zZ hx;have hc:=zZ hc;have h0:0≤q*x:=zG hq.1 hx.1;have h1:q*x≤18446744073709551615*18446744073709551615:=by
  have a:=zE (show x≤18446744073709551615 by omega) hq.1;have b:=zl (show q≤18446744073709551615 by omega) (show(0:Int)≤18446744073709551615 by omega);omega
 have hl:zu (Hp (H5 q x) c 0)=true:=by unfold Hp;exact Cu (by omega) (by omega)
 obtain⟨s1,s2,s3⟩:=Sp.Gj hy hl hb;refine⟨?_,hl,?_,?_,s1,s2,?_⟩
 ·unfold H5;exact Cu (by omega) (by omega)
 ·unfold H5 Pw Nw;rw[Kn];generalize q*x=P at*;omega
 ·generalize q*x=P at*;exact Cu (by omega) (by omega)
 ·generalize O8 y (Hp (H5 q x) c 0) b=h at*;generalize R4 y (Hp (H5 q x) c 0) b=l at*;unfold Hp H5 at s3;generalize q*x=P at*;omega
namespace T230
variable {Q:PV→Ob→Prop}
theorem gw{lo r:List Int}{j:Nat}(h:lo.length=j)(i:Nat):(lo++r).getD (zh i j) 0=r.getD i 0:=Gi lo r i j h
theorem sw{lo r:List Int}{j:Nat}(h:lo.length=j)(i:Nat)(x:Int):(lo++r).set (zh i j) x=lo++r.set i x:=Qs lo r i j x h
theorem lw{lo r:List Int}{j i:Nat}(h:lo.length=j)(hi:i<r.length):decide (zh i j<(lo++r).length)=true:=by
 refine decide_eq_true ?_;show i+j<_;rw[List.length_append];omega
theorem IV(r:List Int)(i n:Nat)(x:Int)(h:i<n):(r.set i x).drop n=r.drop n:=by
 rw[List.drop_set,if_pos h]
theorem Cc(v9:Int)(v10:List Int)(v11n:Nat)(v12:Int)(v13n:Nat)(o1 o0:List Int)(v0c:Nat)(v:List Int)(n j:Nat)(lo:List Int)(m:Nat)(q W:Int)(o1':List Int)
  (hn:v.length=n) (hn9:n≤9000) (hm:n+1≤m) (hlo:lo.length=j) (hjv:j<v13n) (hj1:j<o1'.length) (hv:Av Ak v) (hq:zu q=true)
  (h0:∀r:List Int,r.length=m→Av Ak r→zr Ak (r.drop (n+1))=0→zr Ak r=W-q*zr Ak v→Ends Iy (L4 v9 v10 v11n v12 v13n (zc .i64 ((j:Int)-1)) (o1'.set j q) (lo++r)) Q)
  (h1:∀r:List Int,r.length=m→Av Ak r→zr Ak (r.drop (n+1))=0→zr Ak r=W-q*zr Ak v+(Ak:Int)^(n+1)→Ends Iy (L8 v9 v10 v11n v12 v13n j o1 o0 j (n+1) v0c v n q 0 n 0 o1' (lo++r)) Q):
  ∀(k i:Nat) (r:List Int) (b c:Int),i+k=n→r.length=m→Av Ak r→zr Ak (r.drop (n+1))=0→zu c=true→(0≤b∧b≤1)→zr Ak r=W-q*zr Ak (v.take i)+(Ak:Int)^i*(c+b)→
   Ends Iy (L7 v9 v10 v11n v12 v13n j o1 o0 j (n+1) v0c v n q b c n i o1' (lo++r)) Q
 |0,i,r,b,c,hi,hr,hd,hz,hc,hb,he=>by
  have hi:i=n:=by omega
  subst hi;have gy:=AR hd i;obtain⟨s1,s2,s3⟩:=Sp.Gj gy hc hb;have hlw:decide (zh i j<(lo++r).length)=true:=lw hlo (by omega);have t1:(decide ((0:Int)≤(i:Int))&&decide ((i:Int)<((i+1:Nat):Int)))=true:=by simp;omega
  have hv1:v.take i=v:=zM (by omega);have hset:∀x:Int,0≤x∧x<18446744073709551616→(r.set i x).length=m∧Av Ak (r.set i x)∧zr Ak ((r.set i x).drop (i+1))=0:=fun x hx=>
   ⟨by simp[hr],Gs hd i hx,by rw[IV _ _ _ _ (by omega)];exact hz⟩
  obtain⟨e1,e2,e3⟩:=hset _ (zZ s1);have ev:zr Ak (r.set i (R4 (r.getD i 0) c b))=W-q*zr Ak v+(Ak:Int)^(i+1)*O8 (r.getD i 0) c b:=by
   rw[G2 _ _ _ _ (by omega),he,hv1,Ky,Int.add_assoc, ←zy];congr 2;omega
  refine Ends.As (FH ..) (Ends.ff (by simp) ?_);rw[zA,zA,gw hlo,sw hlo];refine zo t1 (zo hlw (zo (Aa (Aa (Aa gy hc) (decide_eq_true hb.1)) (decide_eq_true hb.2)) (zo t1 (zo hlw (Ends.ite (fun c1=>?_) (fun c1=>?_))))))
  ·have c1:O8 (r.getD i 0) c b=0:=by simpa using c1
   refine zo (by simp;omega) (zo (decide_eq_true hj1) (h0 _ e1 e2 e3 ?_));rw[ev,c1,zW,zX]
  ·have c1:O8 (r.getD i 0) c b≠0:=by simpa using c1
   refine h1 _ e1 e2 e3 ?_;rw[ev,show O8 (r.getD i 0) c b=1 by omega,Int.mul_one]
 |k+1,i,r,b,c,hi,hr,hd,hz,hc,hb,he=>by
  have gx:=AR hv i;have gy:=AR hd i;obtain⟨m1,m2,m3,m4,m5,m6,m7⟩:=SW hq gx gy hc hb;have hlw:decide (zh i j<(lo++r).length)=true:=lw hlo (by omega);have t1:(decide ((0:Int)≤(i:Int))&&decide ((i:Int)<((n+1:Nat):Int)))=true:=by simp;omega
  have e2:zc .i64 ((i:Int)+1)=((i+1:Nat):Int):=by rw[wr _ (by omega) (by omega)];omega
  refine Ends.As (FH ..) (zo (by simp;omega) ?_);rw[zA,gw hlo,sw hlo,m3,e2];refine zo (by simp;omega) (zo (Aa hq gx) (zo (Aa (Aa (Aa m1 hc) rfl) rfl) (zo t1 (zo hlw (zo (Aa (Aa (Aa gy m2) (decide_eq_true hb.1)) (decide_eq_true hb.2)) (zo t1 (zo hlw ?_)))))));refine Cc v9 v10 v11n v12 v13n o1 o0 v0c v n j lo m q W o1' hn hn9 hm hlo hjv hj1 hv hq h0 h1 k (i+1) _ _ _ (by omega) (by simp[hr]) (Gs hd i (zZ m5)) (by rw[IV _ _ _ _ (by omega)];exact hz) m4 m6 ?_;rw[G2 _ _ _ _ (by omega),he,Ky,AF,zy q,Int.mul_left_comm q];have e:(Ak:Int)^i*(c+b)+(Ak:Int)^i*(R4 (r.getD i 0) (Hp (H5 q (v.getD i 0)) c 0) b-r.getD i 0)=(Ak:Int)^i*(18446744073709551616*((q*v.getD i 0+c)/18446744073709551616+O8 (r.getD i 0) (Hp (H5 q (v.getD i 0)) c 0) b))-(Ak:Int)^i*(q*v.getD i 0):=by
   rw[←zy, ←zU,m7]
  omega
theorem EY(v9:Int)(v10:List Int)(v11n:Nat)(v12:Int)(v13n:Nat)(o1 o0:List Int)(v0c:Nat)(v:List Int)(n j:Nat)(lo:List Int)(m:Nat)(q W:Int)(o1':List Int)
  (hn:v.length=n) (hn9:n≤9000) (hm:n+1≤m) (hlo:lo.length=j) (hjv:j<v13n) (hj1:j<o1'.length) (hv:Av Ak v)
  (hW:0≤W+zr Ak v)
  (h0:∀r:List Int,r.length=m→Av Ak r→zr Ak (r.drop (n+1))=0→zr Ak r=W+zr Ak v→Ends Iy (L4 v9 v10 v11n v12 v13n (zc .i64 ((j:Int)-1)) (o1'.set j (zc .u64 (q-1))) (lo++r)) Q):
  ∀(k i:Nat) (r:List Int) (c:Int),i+k=n→r.length=m→Av Ak r→zr Ak (r.drop (n+1))=0→(0≤c∧c≤1)→zr Ak r=W+(Ak:Int)^(n+1)+zr Ak (v.take i)-(Ak:Int)^i*c→
   Ends Iy (L8 v9 v10 v11n v12 v13n j o1 o0 j (n+1) v0c v n q c n i o1' (lo++r)) Q
 |0,i,r,c,hi,hr,hd,hz,hc,he=>by
  have hi:i=n:=by omega
  subst hi;have gy:=zZ (AR hd i);have hlw:decide (zh i j<(lo++r).length)=true:=lw hlo (by omega);have t1:(decide ((0:Int)≤(i:Int))&&decide ((i:Int)<((i+1:Nat):Int)))=true:=by simp;omega
  have hv1:v.take i=v:=zM (by omega);have gm:0≤(r.getD i 0+c) % 18446744073709551616∧(r.getD i 0+c) % 18446744073709551616<18446744073709551616:=by omega
  have e1:(r.set i ((r.getD i 0+c) % 18446744073709551616)).length=m:=by simp[hr]
  have e2:Av Ak (r.set i ((r.getD i 0+c) % 18446744073709551616)):=Gs hd i gm;have e3:zr Ak ((r.set i ((r.getD i 0+c) % 18446744073709551616)).drop (i+1))=0:=by rw[IV _ _ _ _ (by omega)];exact hz
  have eb:=P7 (b:=Ak) (by decide) e2 (n:=i+1) (by omega) e3;refine Ends.As (Jb ..) (Ends.ff (by simp) ?_);rw[zA,zA,gw hlo,sw hlo,Kn (r.getD i 0+c)];refine zo t1 (zo hlw (zo t1 (zo hlw (zo (by simp;omega) (zo (decide_eq_true hj1) (h0 _ e1 e2 e3 ?_))))));have hp:=AN (b:=Ak) (by decide) i;rw[G2 _ _ _ _ (by omega),he,hv1]at eb ⊢;rcases show(r.getD i 0+c) % 18446744073709551616=r.getD i 0+c∨(r.getD i 0+c) % 18446744073709551616=r.getD i 0+c-18446744073709551616 by omega with g|g
  ·exfalso;rw[g,show r.getD i 0+c-r.getD i 0=c by omega]at eb;omega
  ·have ep:(Ak:Int)^(i+1)=(Ak:Int)^i*18446744073709551616:=zR ..;rw[g,show r.getD i 0+c-18446744073709551616-r.getD i 0=c-18446744073709551616 by omega,zU,ep];omega
 |k+1,i,r,c,hi,hr,hd,hz,hc,he=>by
  have gx:=AR hv i;have gy:=AR hd i;obtain⟨m1,m2,m3⟩:=JP gy gx hc;have hlw:decide (zh i j<(lo++r).length)=true:=lw hlo (by omega);have t1:(decide ((0:Int)≤(i:Int))&&decide ((i:Int)<((n+1:Nat):Int)))=true:=by simp;omega
  have e2:zc .i64 ((i:Int)+1)=((i+1:Nat):Int):=by rw[wr _ (by omega) (by omega)];omega
  refine Ends.As (Jb ..) (zo (by simp;omega) ?_);rw[zA,gw hlo,sw hlo,e2];refine zo t1 (zo hlw (zo (by simp;omega) (zo (Aa (Aa (Aa gy gx) (decide_eq_true hc.1)) (decide_eq_true hc.2)) (zo t1 (zo hlw ?_)))));refine EY v9 v10 v11n v12 v13n o1 o0 v0c v n j lo m q W o1' hn hn9 hm hlo hjv hj1 hv hW h0 k (i+1) _ _ (by omega) (by simp[hr]) (Gs hd i (zZ m1)) (by rw[IV _ _ _ _ (by omega)];exact hz) m2 ?_;rw[G2 _ _ _ _ (by omega),he,Ky,AF];have e:(Ak:Int)^i*(Hp (r.getD i 0) (v.getD i 0) c-r.getD i 0)-(Ak:Int)^i*c=(Ak:Int)^i*v.getD i 0-(Ak:Int)^i*(18446744073709551616*Nw (r.getD i 0) (v.getD i 0) c):=by
   rw[←zU, ←zU];congr 1;omega
  omega
theorem gO(v9:Int)(v10:List Int)(v11n:Nat)(v12:Int)(v13n:Nat)(o1 o0:List Int)(v0c:Nat)(v:List Int)(n j:Nat)(lo:List Int)(m:Nat)(r0 o1':List Int)
  (hn:v.length=n) (hn9:n≤9000) (hm:n+1≤m) (hlo:lo.length=j) (hjv:j<v13n) (hj1:j<o1'.length) (hv:Av Ak v)
  (hr:r0.length=m) (hd:Av Ak r0) (hz:zr Ak (r0.drop (n+1))=0)
  (hfin:∀(q:Int) (r:List Int),r.length=m→Av Ak r→(0≤q∧q<18446744073709551616)→zr Ak r<zr Ak v→zr Ak r=zr Ak r0-q*zr Ak v→Ends Iy (L4 v9 v10 v11n v12 v13n (zc .i64 ((j:Int)-1)) (o1'.set j q) (lo++r)) Q)
  (q:Int) (hq:zu q=true) (h1:zr Ak r0<(q+1)*zr Ak v) (h2:q*zr Ak v<zr Ak r0+zr Ak v):
  Ends Iy (L7 v9 v10 v11n v12 v13n j o1 o0 j (n+1) v0c v n q 0 0 n 0 o1' (lo++r0)) Q:=by
 have gq:=zZ hq;have hW0:=Az (b:=Ak) (by decide) hd;have hV0:=Az (b:=Ak) (by decide) hv;rw[zw,zD]at h1;refine Cc v9 v10 v11n v12 v13n o1 o0 v0c v n j lo m q (zr Ak r0) o1' hn hn9 hm hlo hjv hj1 hv hq (fun r a b c d=>hfin q r a b gq (by omega) d) (fun r a b c d=>?_) n 0 r0 0 0 (by omega) hr hd hz (by decide) (by decide) (by simp[zr]);have hb:=P7 (b:=Ak) (by decide) b (n:=n+1) (by omega) c;have hq1:1≤q:=by
  rcases Int.lt_or_le 0 q with g|g
  ·exact g
  ·have:q=0:=by omega
   subst this;rw[Int.zero_mul]at d;omega
 have ew:zc .u64 (q-1)=q-1:=wu _ (by omega) (by omega);refine EY v9 v10 v11n v12 v13n o1 o0 v0c v n j lo m q (zr Ak r0-q*zr Ak v) o1' hn hn9 hm hlo hjv hj1 hv (by omega) (fun r' a' b' c' d'=>?_) n 0 r 0 (by omega) a b c (by decide) (by rw[d];simp[zr]);rw[ew];refine hfin (q-1) r' a' b' (by omega) (by omega) ?_;rw[d',Int.sub_mul,zD];omega
end T230
end Go.Pe
end
