import Derived.Lib.ItoaMem
import Derived.Test.YtknhdhchejmpgaaGreatDoorX10
import Derived.Test.YtknhdhchejmpgaaGreatDoorX09
/- A part of a proof (no law is stated here). Made by program out of texts by AI agents. -/
open Go.IntKind renaming wrap → zc, u64 → zd, u8 → zI, i64 → zN
open Go.Pe.Sh renaming int → ze, nlist → zf, list → zg, bool → zi, str → zj, pair → zl, T → zX
open Nat renaming add → zh, sub → zy, add_sub_cancel → zH
open UInt8 renaming toNat → zk
open Int renaming mul_le_mul_of_nonneg_right → zm, mul_assoc → zn, mul_comm → zq, add_mul → zw, mul_add → zx, toNat_natCast → zz, tmod → zB, one_mul → zC, mul_le_mul_of_nonneg_left → zD, le_of_lt → zE, mul_nonneg → zF, mul_ediv_add_emod → zM, tdiv → zO, pow_succ → zQ, mul_sub → zT, mul_zero → zV, add_zero → zW
open Go.Pe.Ends renaming tt → zo
open Go.Pe.PV renaming agg → zp
open Go.Sp renaming val → zr, u64 → zu, first → zS, vI → zY, AW → zZ
open List renaming getD_eq_getElem?_getD → zt, getElem?_eq_getElem → zG, replicate → zJ, append_assoc → zK, take_of_length_le → zL, map → zP, drop_eq_getElem_cons → zR
open Option renaming getD → zA
open Min renaming min → zU
section
namespace Go.Sp
open Go.Lib
theorem Fh(a d:Nat)(ha:0<a)(hd:d<10):decDigits (10*a+d)=decDigits a++[UInt8.ofNat (48+d)]:=by
 rw[decDigits,dif_neg (by omega),show(10*a+d)/10=a from by omega,show(10*a+d) % 10=d from by omega]
theorem aT(a d:Nat)(ha:0<a)(hd:d<10):nDigits (10*a+d)=nDigits a+1:=by
 rw[nDigits_big (by omega),show(10*a+d)/10=a from by omega]
def Fq(k b:Nat):List UInt8:=zJ (k-nDigits b) 48++decDigits b
theorem Pp(k b d:Nat)(hk:1≤k)(hd:d<10):Fq (k+1) (10*b+d)=Fq k b++[UInt8.ofNat (48+d)]:=by
 unfold Fq;rcases Nat.eq_zero_or_pos b with rfl|hb
 ·rw[Nat.mul_zero,Nat.zero_add,nDigits_small hd,decDigits_one hd,nDigits_small (by omega),decDigits_one (by omega)];obtain⟨j,rfl⟩:∃j,k=j+1:=⟨k-1,by omega⟩;have e:(48:UInt8)=UInt8.ofNat (48+0):=rfl;rw[zH,zH, ←e,List.replicate_succ',zK]
 ·rw[aT b d hb hd,Fh b d hb hd, ←zK,Nat.add_sub_add_right]
theorem Rq:∀(k a b:Nat),1≤k→0<a→b<10^k→decDigits (a*10^k+b)=decDigits a++Fq k b
 |0,_,_,h,_,_=>by omega
 |1,a,b,_,ha,hb=>by
  rw[Nat.pow_one]at*;rw[Nat.mul_comm,Fh a b ha hb];unfold Fq;rw[nDigits_small hb,decDigits_one hb];rfl
 |k+2,a,b,_,ha,hb=>by
  have h1:b=10*(b/10)+b % 10:=by omega
  have h2:b/10<10^(k+1):=by
   rw[Nat.pow_succ 10 (k+1)]at hb;omega
  have h3:a*10^(k+2)+b=10*(a*10^(k+1)+b/10)+b % 10:=by
   rw[Nat.pow_succ 10 (k+1), ←Nat.mul_assoc];omega
  have hp:0<a*10^(k+1):=Nat.mul_pos ha (Nat.pow_pos (by omega));have ih:=Rq (k+1) a (b/10) (by omega) ha h2;have hs:=Pp (k+1) (b/10) (b % 10) (by omega) (by omega);rw[h3,Fh _ _ (by omega) (by omega),ih,zK, ←hs, ←h1]
def B8:Nat→Nat→List (List UInt8)
 |0,_=>[]
 |f+1,v=>if v<10^18 then[decDigits v]else Fq 18 (v % 10^18)::B8 f (v/10^18)
theorem HV:∀(f v:Nat),v<f→(B8 f v).reverse.flatten=decDigits v
 |0,_,h=>by omega
 |f+1,v,h=>by
  unfold B8;split
  ·simp
  ·next c=>
   have hp:1≤v/10^18:=by omega
   have h1:v/10^18<f:=by omega
   have h2:=HV f (v/10^18) h1;rw[List.reverse_cons,List.flatten_append,h2];have h3:=Rq 18 (v/10^18) (v % 10^18) (by omega) (by omega) (Nat.mod_lt _ (by decide));rw[show v/10^18*10^18+v % 10^18=v from by omega]at h3;rw[h3];simp
end Go.Sp
end
section
namespace Go.Pe
open Sp
open Go.Det
noncomputable section
open List Int Prod
namespace T87
def T(s:List UInt8):Tr:=tree RW false 9 87 (Ah ([zj]) s)
theorem An(s:List UInt8):T s=let a':=zf (ze zd);let b':=C1 (Aw s);let c':=CX (Aw s);.ite (oO s [(47:UInt8)]) (.ite (!Bk s) (.ite (DW (Aw s)) (.ite true (.leaf (zp [.dat i64 b',.dat a' c',.dat i64 (1:Int),.dat a' (Dw 1)]) ([(zh (zh 0 1) 1,.box [.dat i64 b',.dat a' c',.dat i64 (1:Int),.dat a' (Dw 1)]),(zh 0 1,.box [.dat i64 b',.dat a' c']),(0,.box [.dat i64 b',.dat a' c',.dat i64 (1:Int),.dat a' (Dw 1)])])) .fail) .fail) (.ite (DW (Aw s)) (.ite (DW (Sp.AL s)) (.leaf (zp [.dat i64 b',.dat a' c',.dat i64 (C1 (Sp.AL s)),.dat a' (CX (Sp.AL s))]) ([(0,.box [.dat i64 b',.dat a' c',.dat i64 (C1 (Sp.AL s)),.dat a' (CX (Sp.AL s))])])) .fail) .fail)) .fail:=by kernel_rfl
end T87
namespace T175
def T(a b:Int×List Int):Tr:=tree RW false 9 175 (Ah ([zl i64 (zf (ze zd)),zl i64 (zf (ze zd))]) (a,b))
def L1(o2 o1:Int)(o1_1:List Int)(o0:Int)(o0_1:List Int):Tr:=re ((T (0,[]) (0,[])).L.L.L.L) (AI 21 [(2,.ptr 0 0),(3,.ptr 1 0),(4,.ptr 2 0)] [(2,.box [.dat i64 o2,.nil]),(1,.box [.dat i64 o1,.dat (zf (ze zd)) o1_1]),(0,.box [.dat i64 o0,.dat (zf (ze zd)) o0_1])] 3)
theorem An(a b:Int×List Int):T a b=.ite (De (fst b,snd b)) (.ite (decide (Hf (fst b,snd b)<0)) (.ite (De (fst a,snd a)) (.ite (De (fst b,snd b)) (L1 0 (D6 (fst b,snd b)) (D4 (fst b,snd b)) (D6 (fst a,snd a)) (D4 (fst a,snd a))) .fail) .fail) (L1 0 (fst b) (snd b) (fst a) (snd a))) .fail:=by kernel_rfl
theorem Au(o2 o1:Int)(o1_1:List Int)(o0:Int)(o0_1:List Int):stepT RW (L1 o2 o1 o1_1 o0 o0_1)=let a':=zf (ze zd);let b':=Wq (o0,o0_1) (o1,o1_1);let c':=WG (o0,o0_1) (o1,o1_1);.ite (A8 (o0,o0_1)&&A8 (o1,o1_1)&&decide (0<zY (o1,o1_1))) (.leaf (zp [.dat i64 b',.dat a' c']) ([(zh 3 1,.box [.dat i64 (Td (o0,o0_1) (o1,o1_1)),.dat a' (SW (o0,o0_1) (o1,o1_1))]),(3,.box [.dat i64 b',.dat a' c']),(2,.box [.dat i64 b',.dat a' c']),(1,.box [.dat i64 o1,.dat a' o1_1]),(0,.box [.dat i64 o0,.dat a' o0_1])])) .fail:=by kernel_rfl
end T175
namespace T104
def T(n d:Int×List Int):Tr:=tree mW false 9 104 (Ah ([zl i64 (zf (ze zd)),zl i64 (zf (ze zd))]) (n,d))
def L1(o2 o2_1 o1:Int)(o1_1:List Int)(o0:Int)(o0_1:List Int):Tr:=re ((T (0,[]) (0,[])).L.L.L.L) (AI 34 [(2,.ptr 0 0),(3,.ptr 1 0),(4,.ptr 2 0)] [(2,.box [.dat i64 o2,.nil,.dat i64 o2_1,.nil]),(1,.box [.dat i64 o1,.dat (zf (ze zd)) o1_1]),(0,.box [.dat i64 o0,.dat (zf (ze zd)) o0_1])] 3)
theorem An(n d:Int×List Int):T n d=.ite (De (fst d,snd d)) (.ite (decide (Hf (fst d,snd d)<0)) (.ite (De (fst n,snd n)) (.ite (De (fst d,snd d)) (L1 0 0 (D6 (fst d,snd d)) (D4 (fst d,snd d)) (D6 (fst n,snd n)) (D4 (fst n,snd n))) .fail) .fail) (L1 0 0 (fst d) (snd d) (fst n) (snd n))) .fail:=by kernel_rfl
def L2(o3:Int)(o3_1:List Int)(o2 o2_1 o1:Int)(o1_1:List Int)(o0:Int)(o0_1:List Int):Tr:=re ((stepT mW (L1 0 0 0 [] 0 [])).L.R.L) (AI 34 [(2,.ptr 0 0),(3,.ptr 1 0),(4,.ptr 2 0),(5,.ptr 3 0)] [(3,.box [.dat i64 o3,.dat (zf (ze zd)) o3_1]),(2,.box [.dat i64 o2,.nil,.dat i64 o2_1,.nil]),(1,.box [.dat i64 o1,.dat (zf (ze zd)) o1_1]),(0,.box [.dat i64 o0,.dat (zf (ze zd)) o0_1])] 4)
theorem Au(o2 o2_1 o1:Int)(o1_1:List Int)(o0:Int)(o0_1:List Int):stepT mW (L1 o2 o2_1 o1 o1_1 o0 o0_1)=let a':=zf (ze zd);let b':Tr:=.ite (A8 (o0,o0_1)&&A8 (o1,o1_1)) (L2 (LP (o0,o0_1) (o1,o1_1)) (LX (o0,o0_1) (o1,o1_1)) o2 o2_1 o1 o1_1 o0 o0_1) .fail;.ite (!decide (0<length o1_1)) (.ite (o1==1) (.leaf (zp [.dat i64 o0,.dat a' o0_1,.dat i64 o1,.dat a' o1_1]) ([(2,.box [.dat i64 o0,.dat a' o0_1,.dat i64 o1,.dat a' o1_1]),(1,.box [.dat i64 o1,.dat a' o1_1]),(0,.box [.dat i64 o0,.dat a' o0_1])])) b') b':=by kernel_rfl
theorem A4(o3:Int)(o3_1:List Int)(o2 o2_1 o1:Int)(o1_1:List Int)(o0:Int)(o0_1:List Int):stepT mW (L2 o3 o3_1 o2 o2_1 o1 o1_1 o0 o0_1)=let a':=zf (ze zd);let b':=wA (o0,o0_1) (o3,o3_1);let c':=wM (o0,o0_1) (o3,o3_1);let d':=wA (o1,o1_1) (o3,o3_1);let e':=wM (o1,o1_1) (o3,o3_1);.ite (K4 (o0,o0_1) (o3,o3_1)) (.ite (K4 (o1,o1_1) (o3,o3_1)) (.leaf (zp [.dat i64 b',.dat a' c',.dat i64 d',.dat a' e']) ([(3,.box [.dat i64 o3,.dat a' o3_1]),(2,.box [.dat i64 b',.dat a' c',.dat i64 d',.dat a' e']),(1,.box [.dat i64 o1,.dat a' o1_1]),(0,.box [.dat i64 o0,.dat a' o0_1])])) .fail) .fail:=by kernel_rfl
end T104
namespace T156
def T(a:(Int×List Int)×Int×List Int):Tr:=tree RW false 9 156 (Ah ([zl (zl i64 (zf (ze zd))) (zl i64 (zf (ze zd)))]) a)
theorem An(a:(Int×List Int)×Int×List Int):T a=let b':=zf (ze zd);let a':=[(0,.box [.dat i64 (fst (fst a)),.dat b' (snd (fst a)),.dat i64 (fst (snd a)),.dat b' (snd (snd a))])];.ite (!decide (0<length (snd (snd a)))) (.leaf (.dat zi (fst (snd a)==1)) a') (.leaf (.bl false) a'):=by kernel_rfl
end T156
namespace T157
def T(n:Int×List Int):Tr:=tree RW false 9 157 (Ah ([zl i64 (zf (ze zd))]) n)
theorem An(n:Int×List Int):T n=let a':=zf (ze zd);.ite true (.leaf (zp [.dat i64 (fst n),.dat a' (snd n),.dat i64 (1:Int),.dat a' (Dw 1)]) ([(zh 0 1,.box [.dat i64 (fst n),.dat a' (snd n),.dat i64 (1:Int),.dat a' (Dw 1)]),(0,.box [.dat i64 (fst n),.dat a' (snd n)])])) .fail:=by kernel_rfl
end T157
namespace T160
def T(a:(Int×List Int)×Int×List Int):Tr:=tree RW false 9 160 (Ah ([zl (zl i64 (zf (ze zd))) (zl i64 (zf (ze zd)))]) a)
theorem An(a:(Int×List Int)×Int×List Int):T a=let a':=zf (ze zd);let b':=(fst (fst a),snd (fst a));.ite (De b') (.leaf (zp [.dat i64 (D6 b'),.dat a' (D4 b'),.dat i64 (fst (snd a)),.dat a' (snd (snd a))]) ([(zh 0 1,.box [.dat i64 (D6 b'),.dat a' (D4 b'),.dat i64 (fst (snd a)),.dat a' (snd (snd a))]),(0,.box [.dat i64 (fst (fst a)),.dat a' (snd (fst a)),.dat i64 (fst (snd a)),.dat a' (snd (snd a))])])) .fail:=by kernel_rfl
end T160
namespace T80
def T(a:(Int×List Int)×Int×List Int)(b:(Int×List Int)×Int×List Int):Tr:=tree fF false 9 80 (Ah ([zl (zl i64 (zf (ze zd))) (zl i64 (zf (ze zd))),zl (zl i64 (zf (ze zd))) (zl i64 (zf (ze zd)))]) (a,b))
def L1(o2 o2_1 o1:Int)(o1_1:List Int)(o1_2:Int)(o1_3:List Int)(o0:Int)(o0_1:List Int)(o0_2:Int)(o0_3:List Int):Tr:=re ((T ((0,[]),(0,[])) ((0,[]),(0,[]))).L.L.L.R) (AI 34 [(2,.ptr 0 0),(3,.ptr 1 0),(4,.ptr 2 0)] [(2,.box [.dat i64 o2,.nil,.dat i64 o2_1,.nil]),(1,.box [.dat i64 o1,.dat (zf (ze zd)) o1_1,.dat i64 o1_2,.dat (zf (ze zd)) o1_3]),(0,.box [.dat i64 o0,.dat (zf (ze zd)) o0_1,.dat i64 o0_2,.dat (zf (ze zd)) o0_3])] 3)
theorem An(a:(Int×List Int)×Int×List Int)(b:(Int×List Int)×Int×List Int):T a b=let a':=zf (ze zd);let b':=L1 0 0 (fst (fst b)) (snd (fst b)) (fst (snd b)) (snd (snd b)) (fst (fst a)) (snd (fst a)) (fst (snd a)) (snd (snd a));let c':=(fst (fst a),snd (fst a));let d':=(fst (fst b),snd (fst b));.ite true (.ite (Cz (fst (snd a),snd (snd a))) (.ite true (.ite (Cz (fst (snd b),snd (snd b))) (.ite (A8 c'&&A8 d') (.ite true (.leaf (zp [.dat i64 (H3 c' d'),.dat a' (HF c' d'),.dat i64 (1:Int),.dat a' (Dw 1)]) ([(zh (zh 0 1) 1,.box [.dat i64 (H3 c' d'),.dat a' (HF c' d'),.dat i64 (1:Int),.dat a' (Dw 1)]),(zh 0 1,.box [.dat i64 (fst (fst b)),.dat a' (snd (fst b)),.dat i64 (fst (snd b)),.dat a' (snd (snd b))]),(0,.box [.dat i64 (fst (fst a)),.dat a' (snd (fst a)),.dat i64 (fst (snd a)),.dat a' (snd (snd a))])])) .fail) .fail) b') .fail) b') .fail:=by kernel_rfl
theorem Au(o2 o2_1 o1:Int)(o1_1:List Int)(o1_2:Int)(o1_3:List Int)(o0:Int)(o0_1:List Int)(o0_2:Int)(o0_3:List Int):stepT fF (L1 o2 o2_1 o1 o1_1 o1_2 o1_3 o0 o0_1 o0_2 o0_3)=let b':=(Ex (o0_2,o0_3) (o1_2,o1_3),Ew (o0_2,o0_3) (o1_2,o1_3));let c':=zf (ze zd);let d':=(Ex (o0,o0_1) (o1_2,o1_3),Ew (o0,o0_1) (o1_2,o1_3));let e':=(Ex (o1,o1_1) (o0_2,o0_3),Ew (o1,o1_1) (o0_2,o0_3));let a':=(H3 d' e',HF d' e');.ite (A8 (o0,o0_1)&&A8 (o1_2,o1_3)) (.ite (A8 (o1,o1_1)&&A8 (o0_2,o0_3)) (.ite (A8 d'&&A8 e') (.ite (A8 (o0_2,o0_3)&&A8 (o1_2,o1_3)) (.ite (K4 a' b') (.leaf (zp [.dat i64 (Vt a' b'),.dat c' (U3 a' b'),.dat i64 (UX a' b'),.dat c' (U8 a' b')]) ([(2,.box [.dat i64 (Vt a' b'),.dat c' (U3 a' b'),.dat i64 (UX a' b'),.dat c' (U8 a' b')]),(1,.box [.dat i64 o1,.dat c' o1_1,.dat i64 o1_2,.dat c' o1_3]),(0,.box [.dat i64 o0,.dat c' o0_1,.dat i64 o0_2,.dat c' o0_3])])) .fail) .fail) .fail) .fail) .fail:=by kernel_rfl
end T80
namespace T82
def T(a:(Int×List Int)×Int×List Int)(b:(Int×List Int)×Int×List Int):Tr:=tree fF false 9 82 (Ah ([zl (zl i64 (zf (ze zd))) (zl i64 (zf (ze zd))),zl (zl i64 (zf (ze zd))) (zl i64 (zf (ze zd)))]) (a,b))
theorem An(a:(Int×List Int)×Int×List Int)(b:(Int×List Int)×Int×List Int):T a b=let c':=zf (ze zd);let d':=(fst (fst a),snd (fst a));let e':=(fst (fst b),snd (fst b));let f':=(fst (snd a),snd (snd a));let g':=(fst (snd b),snd (snd b));let a':=(Ex d' e',Ew d' e');let b':=(Ex f' g',Ew f' g');.ite (A8 d'&&A8 e') (.ite (A8 f'&&A8 g') (.ite (K4 a' b') (.leaf (zp [.dat i64 (Vt a' b'),.dat c' (U3 a' b'),.dat i64 (UX a' b'),.dat c' (U8 a' b')]) ([(zh (zh 0 1) 1,.box [.dat i64 (Vt a' b'),.dat c' (U3 a' b'),.dat i64 (UX a' b'),.dat c' (U8 a' b')]),(zh 0 1,.box [.dat i64 (fst (fst b)),.dat c' (snd (fst b)),.dat i64 (fst (snd b)),.dat c' (snd (snd b))]),(0,.box [.dat i64 (fst (fst a)),.dat c' (snd (fst a)),.dat i64 (fst (snd a)),.dat c' (snd (snd a))])])) .fail) .fail) .fail:=by kernel_rfl
end T82
namespace T161
def T(a:(Int×List Int)×Int×List Int):Tr:=tree fF false 9 161 (Ah ([zl (zl i64 (zf (ze zd))) (zl i64 (zf (ze zd)))]) a)
theorem An(a:(Int×List Int)×Int×List Int):T a=let a':=(fst (snd a),snd (snd a));let b':=(fst (fst a),snd (fst a));let c':=zf (ze zd);.ite (K4 a' b') (.leaf (zp [.dat i64 (Vt a' b'),.dat c' (U3 a' b'),.dat i64 (UX a' b'),.dat c' (U8 a' b')]) ([(zh 0 1,.box [.dat i64 (Vt a' b'),.dat c' (U3 a' b'),.dat i64 (UX a' b'),.dat c' (U8 a' b')]),(0,.box [.dat i64 (fst (fst a)),.dat c' (snd (fst a)),.dat i64 (fst (snd a)),.dat c' (snd (snd a))])])) .fail:=by kernel_rfl
end T161
namespace T81
def T(a:(Int×List Int)×Int×List Int)(b:(Int×List Int)×Int×List Int):Tr:=tree uM false 9 81 (Ah ([zl (zl i64 (zf (ze zd))) (zl i64 (zf (ze zd))),zl (zl i64 (zf (ze zd))) (zl i64 (zf (ze zd)))]) (a,b))
theorem An(a:(Int×List Int)×Int×List Int)(b:(Int×List Int)×Int×List Int):T a b=let b':=((fst (fst a),snd (fst a)),fst (snd a),snd (snd a));let c':=zf (ze zd);let d':=(fst (fst b),snd (fst b));let a':=((D6 d',D4 d'),fst (snd b),snd (snd b));.ite (De d') (.ite (Sp.D5 b'&&Sp.D5 a') (.leaf (zp [.dat i64 (eT b' a'),.dat c' (dM b' a'),.dat i64 (Zu b' a'),.dat c' (dU b' a')]) ([(zh (zh 0 1) 1,.box [.dat i64 (eT b' a'),.dat c' (dM b' a'),.dat i64 (Zu b' a'),.dat c' (dU b' a')]),(zh 0 1,.box [.dat i64 (fst (fst b)),.dat c' (snd (fst b)),.dat i64 (fst (snd b)),.dat c' (snd (snd b))]),(0,.box [.dat i64 (fst (fst a)),.dat c' (snd (fst a)),.dat i64 (fst (snd a)),.dat c' (snd (snd a))])])) .fail) .fail:=by kernel_rfl
end T81
namespace T86
def T(a:(Int×List Int)×Int×List Int)(b:(Int×List Int)×Int×List Int):Tr:=tree uM false 9 86 (Ah ([zl (zl i64 (zf (ze zd))) (zl i64 (zf (ze zd))),zl (zl i64 (zf (ze zd))) (zl i64 (zf (ze zd)))]) (a,b))
theorem An(a:(Int×List Int)×Int×List Int)(b:(Int×List Int)×Int×List Int):T a b=let b':=((fst (fst a),snd (fst a)),fst (snd a),snd (snd a));let c':=zf (ze zd);let e':=(fst (fst b),snd (fst b));let d':=(e',fst (snd b),snd (snd b));let a':=TS d';.ite (Sp.D5 d'&&decide (zY e'≠0)) (.ite (Sp.D5 b'&&Sp.D5 a') (.leaf (zp [.dat i64 (cW b' a'),.dat c' (eR b' a'),.dat i64 (bC b' a'),.dat c' (aJ b' a')]) ([(zh (zh 0 1) 1,.box [.dat i64 (cW b' a'),.dat c' (eR b' a'),.dat i64 (bC b' a'),.dat c' (aJ b' a')]),(zh 0 1,.box [.dat i64 (fst (fst b)),.dat c' (snd (fst b)),.dat i64 (fst (snd b)),.dat c' (snd (snd b))]),(0,.box [.dat i64 (fst (fst a)),.dat c' (snd (fst a)),.dat i64 (fst (snd a)),.dat c' (snd (snd a))])])) .fail) .fail:=by kernel_rfl
end T86
namespace T88
def T(a:(Int×List Int)×Int×List Int)(b:(Int×List Int)×Int×List Int):Tr:=tree RW false 9 88 (Ah ([zl (zl i64 (zf (ze zd))) (zl i64 (zf (ze zd))),zl (zl i64 (zf (ze zd))) (zl i64 (zf (ze zd)))]) (a,b))
theorem An(a:(Int×List Int)×Int×List Int)(b:(Int×List Int)×Int×List Int):T a b=let c':=zf (ze zd);let d':=(fst (fst a),snd (fst a));let e':=(fst (snd b),snd (snd b));let f':=(fst (fst b),snd (fst b));let g':=(fst (snd a),snd (snd a));let a':=(Ex d' e',Ew d' e');let b':=(Ex f' g',Ew f' g');.ite (A8 d'&&A8 e') (.ite (A8 f'&&A8 g') (.ite (A8 a'&&A8 b') (.leaf (.dat i64 (Xo a' b')) ([(zh 0 1,.box [.dat i64 (fst (fst b)),.dat c' (snd (fst b)),.dat i64 (fst (snd b)),.dat c' (snd (snd b))]),(0,.box [.dat i64 (fst (fst a)),.dat c' (snd (fst a)),.dat i64 (fst (snd a)),.dat c' (snd (snd a))])])) .fail) .fail) .fail:=by kernel_rfl
end T88
namespace T112
def T(a:(Int×List Int)×Int×List Int):Tr:=tree RW false 9 112 (Ah ([zl (zl i64 (zf (ze zd))) (zl i64 (zf (ze zd)))]) a)
theorem An(a:(Int×List Int)×Int×List Int):T a=let a':=(fst (snd a),snd (snd a));let b':=(fst (fst a),snd (fst a));let c':=zf (ze zd);let d':=Wq b' a';let e':=WG b' a';.ite (A8 b'&&A8 a'&&decide (0<zY a')) (.leaf (zp [.dat i64 d',.dat c' e']) ([(zh (zh (zh 0 1) 1) 1,.box [.dat i64 (Td b' a'),.dat c' (SW b' a')]),(zh (zh 0 1) 1,.box [.dat i64 d',.dat c' e']),(zh 0 1,.box [.dat i64 d',.dat c' e']),(0,.box [.dat i64 (fst (fst a)),.dat c' (snd (fst a)),.dat i64 (fst (snd a)),.dat c' (snd (snd a))])])) .fail:=by kernel_rfl
end T112
end
noncomputable section
open List Int Prod
namespace T89
def T(s:List UInt8):Tr:=tree IU false 9 89 (Ah ([zj]) s)
def L1(v0:List UInt8)(v3:Int):Tr:=re ((T [])) (AI 17 [(0,.dat zj v0),(3,.dat i64 v3)] [] 0)
theorem An(s:List UInt8):T s=L1 s 0:=by kernel_rfl
theorem Au(v0:List UInt8)(v3:Int):stepT IU (L1 v0 v3)=let a':=(length v0:Int);.ite (decide (v3<a')) (.ite (decide (0≤v3)&&decide (v3<a')) (.ite ((↑(zk (getD v0 (toNat v3) (0:UInt8))):Int)==47) (.leaf (.dat i64 v3) []) (L1 v0 (zc .i64 (v3+1)))) .fail) (.leaf (.dat i64 a') []):=by kernel_rfl
end T89
namespace T90
def T(s:List UInt8):Tr:=tree IU false 9 90 (Ah ([zj]) s)
def L1(s v0:List UInt8)(v3:Int):Tr:=re ((T s).R.L.L.R) (AI 20 [(0,.dat zj v0),(3,.dat i64 v3)] [] 0)
def L2(s v0:List UInt8)(v3:Int):Tr:=re ((T s).R.R) (AI 20 [(0,.dat zj v0),(3,.dat i64 v3)] [] 0)
theorem An(s:List UInt8):T s=let a':=(length s:Int);.ite (a'==0) (.leaf (.bl false) []) (.ite (decide (a'>1)) (.ite (decide (0<a')) (.ite ((↑(zk (getD s 0 (0:UInt8))):Int)==48) (.leaf (.bl false) []) (L1 s s 0)) .fail) (L2 s s 0)):=by kernel_rfl
theorem Au(s v0:List UInt8)(v3:Int):stepT IU (L1 s v0 v3)=let a':=decide (v3<(length v0:Int));let b':=(↑(zk (getD v0 (toNat v3) (0:UInt8))):Int);.ite (a') (.ite (decide (0≤v3)&&a') (.ite (decide (b'<48)) (.leaf (.bl false) []) (.ite (decide (0≤v3)&&a') (.ite (decide (b'>57)) (.leaf (.bl false) []) (L1 s v0 (zc .i64 (v3+1)))) .fail)) .fail) (.leaf (.bl true) []):=by kernel_rfl
theorem A4(s v0:List UInt8)(v3:Int):stepT IU (L2 s v0 v3)=let a':=decide (v3<(length v0:Int));let b':=(↑(zk (getD v0 (toNat v3) (0:UInt8))):Int);.ite (a') (.ite (decide (0≤v3)&&a') (.ite (decide (b'<48)) (.leaf (.bl false) []) (.ite (decide (0≤v3)&&a') (.ite (decide (b'>57)) (.leaf (.bl false) []) (L2 s v0 (zc .i64 (v3+1)))) .fail)) .fail) (.leaf (.bl true) []):=by kernel_rfl
end T90
namespace T107
def T(n:Int):Tr:=tree jZ false 9 107 (Ah ([ze zN]) n)
def L1(v0:Int)(v4:Bool):Tr:=re ((T 0)) (AI 25 [(0,.dat i64 v0),(2,.ptr 0 0),(3,.nil),(4,.dat zi v4)] [(0,.box [.bl false,.nil])] 1)
theorem An(n:Int):T n=L1 n (decide (n<0)):=by kernel_rfl
def L2(v0:Int)(v3n:Nat)(v4:Bool)(o1:List Int):Tr:=re ((stepT jZ (L1 0 false)).L.L.L.L.L) (AI 25 [(0,.dat i64 v0),(2,.ptr 0 0),(3,.sl 1 1 0 v3n none),(4,.dat zi v4)] [(1,.arr false 3 i64 o1),(0,.box [.bl false,.nil])] 2)
theorem Au(v0:Int)(v4:Bool):stepT jZ (L1 v0 v4)=let a':=decide (1≤1)&&decide (0<1)&&decide ((2*1+1000)*8≤281474976710656);let b':=zc .i64 (zO v0 1000000000);.ite (v0 !=0) (.ite true (.ite (decide (zB v0 1000000000<0)) (.ite a' (.ite true (L2 b' 1 v4 ([zc .i64 (0-zB v0 1000000000)])) .fail) .fail) (.ite a' (.ite true (L2 b' 1 v4 ([zB v0 1000000000])) .fail) .fail)) .fail) (.ite (decide (0≤20000)) (.leaf (zp [.dat zi (Sp.B5 v4 []),.dat (zg i64) (Sp.Ar [])]) ([(0,.box [.dat zi (Sp.B5 v4 []),.dat (zg i64) (Sp.Ar [])])])) .fail):=by kernel_rfl
theorem A4(v0:Int)(v3n:Nat)(v4:Bool)(o1:List Int):stepT jZ (L2 v0 v3n v4 o1)=let a':=decide (1≤1)&&true&&decide (v3n=length o1)&&decide ((2*(v3n+1)+1000)*8≤281474976710656);let b':=zc .i64 (zO v0 1000000000);let c':=Sp.B5 v4 (take v3n o1);let d':=Sp.Ar (take v3n o1);.ite (v0 !=0) (.ite true (.ite (decide (zB v0 1000000000<0)) (.ite a' (.ite true (L2 b' (zh v3n 1) v4 (o1++[zc .i64 (0-zB v0 1000000000)])) .fail) .fail) (.ite a' (.ite true (L2 b' (zh v3n 1) v4 (o1++[zB v0 1000000000])) .fail) .fail)) .fail) (.ite (decide (0+v3n≤length o1)&&true&&decide (length (take v3n o1)≤20000)) (.leaf (zp [.dat zi c',.dat (zg i64) d']) ([(1,.arr true 3 i64 o1),(0,.box [.dat zi c',.dat (zg i64) d'])])) .fail):=by kernel_rfl
end T107
end
end Go.Pe
end
section
namespace Go.Pe
open Sp
open Go.Det
noncomputable section
open List Int Prod
namespace T91
def T(a:List UInt8):Tr:=tree uW false 9 91 (Ah ([zj]) a)
theorem An(a:List UInt8):T a=let b':=take (toNat (AV a)) a;let c':=zc .i64 (AV a+1);let a':=take (zy (length a) (toNat c')) (drop (toNat c') a);.ite (decide (length a≤1000000)) (.ite (AV a==(length a:Int)) (.ite (DW a) (.ite true (.leaf (.tup [zp [.dat zi (EL a),.dat (zg i64) (EI a)],zp [.dat zi false,.dat (zg i64) (Sp.rW 1)]]) ([(zh 0 1,.box [.dat zi false,.dat (zg i64) (Sp.rW 1)]),(0,.box [.dat zi (EL a),.dat (zg i64) (EI a)])])) .fail) .fail) (.ite (decide (0≤AV a)&&decide (0≤toNat (AV a))&&decide (toNat (AV a)≤length a)) (.ite (decide (0≤zc .i64 (AV a+1))&&true&&decide (toNat c'≤length a)&&decide (length a≤length a)) (.ite (DW b') (.ite (DW a') (.leaf (.tup [zp [.dat zi (EL b'),.dat (zg i64) (EI b')],zp [.dat zi (EL a'),.dat (zg i64) (EI a')]]) ([(zh 0 1,.box [.dat zi (EL a'),.dat (zg i64) (EI a')]),(0,.box [.dat zi (EL b'),.dat (zg i64) (EI b')])])) .fail) .fail) .fail) .fail)) .fail:=by kernel_rfl
end T91
end
end Go.Pe
end
section
namespace Go.Pe
open Sp
open Go.Det
noncomputable section
open List Int Prod
namespace T24
def T(a:List UInt8):Tr:=tree RV false 9 24 (Ah ([zj]) a)
def L1(v0 v3:List UInt8):Tr:=re ((T []).L.L.L.L) (AI 96 [(0,.dat zj v0),(3,.dat zj v3)] [] 0)
theorem An(a:List UInt8):T a=.ite (decide ((length a:Int)>0)) (.ite (decide (0<(length a:Int))) (.ite ((↑(zk (getD a 0 (0:UInt8))):Int)==45) (.ite (decide (1≤length a)&&decide (length a≤length a)) (L1 a (take (zy (length a) 1) (drop 1 a))) .fail) (L1 a a)) .fail) (L1 a a):=by kernel_rfl
def L2(v3:List UInt8)(v4:Int):Tr:=re ((stepT RV (L1 [] [])).L.L.L.R.L.L.L.R) (AI 96 [(3,.dat zj v3),(4,.dat i64 v4)] [] 0)
theorem Au(v0 v3:List UInt8):stepT RV (L1 v0 v3)=let b':=AV v3;let c':Tr:=.leaf (.dat i64 (1:Int)) [];let a':=decide (0≤AV v3)&&decide (0≤toNat b')&&decide (toNat b'≤length v3);.ite (decide (length v3≤1000000)) (.ite a' (.ite (decide (length (take (toNat b') v3)≤1000000)) (.ite (!AQ (take (toNat b') v3)) c' (.ite (decide (0<(length v0:Int))) (.ite ((↑(zk (getD v0 0 (0:UInt8))):Int)==45) (.ite a' (.ite (take (toNat b') v3==[(48:UInt8)]) c' (L2 v3 b')) .fail) (L2 v3 b')) .fail)) .fail) .fail) .fail:=by kernel_rfl
def L3(v3:List UInt8)(v4:Int):Tr:=re ((stepT RV (L2 [] 0)).L.L.L.R.L.R.L.R) (AI 96 [(3,.dat zj v3),(4,.dat i64 v4)] [] 0)
theorem A4(v3:List UInt8)(v4:Int):stepT RV (L2 v3 v4)=let d':Tr:=.leaf (.dat i64 (1:Int)) [];let e':=zc .i64 (v4+1);let a':=decide (0≤zc .i64 (v4+1))&&true&&decide (toNat e'≤length v3)&&decide (length v3≤length v3);let b':=toNat e';let c':=zy (length v3) b';.ite (decide (v4<(length v3:Int))) (.ite a' (.ite (decide (length (take c' (drop b' v3))≤1000000)) (.ite (!AQ (take c' (drop b' v3))) d' (.ite a' (.ite (take c' (drop b' v3)==[(48:UInt8)]) d' (.ite a' (.ite (take c' (drop b' v3)==[(49:UInt8)]) d' (L3 v3 v4)) .fail)) .fail)) .fail) .fail) (L3 v3 v4):=by kernel_rfl
def L4(v3:List UInt8)(v4:Int):Tr:=re ((stepT RV (L3 [] 0)).R.R) (AI 96 [(3,.dat zj v3),(4,.dat i64 v4)] [] 0)
theorem C9(v3:List UInt8)(v4:Int):stepT RV (L3 v3 v4)=let a':Tr:=.leaf (.dat i64 (4:Int)) [];.ite (decide (v4>600)) a' (.ite (decide (zc .i64 (zc .i64 ((length v3:Int)-v4)-1)>600)) a' (L4 v3 v4)):=by kernel_rfl
def L5(o1:Bool)(o1_1:List Int)(o0:Bool)(o0_1:List Int):Tr:=re ((stepT RV (L4 [] 0)).L.L) (AI 96 [(5,.ptr 0 0),(6,.ptr 1 0)] [(1,.box [.dat zi o1,.dat (zg i64) o1_1]),(0,.box [.dat zi o0,.dat (zg i64) o0_1])] 2)
theorem Dp(v3:List UInt8)(v4:Int):stepT RV (L4 v3 v4)=.ite (decide (v4<(length v3:Int))) (.ite (EW v3) (L5 (Bg v3) (Be v3) (Bw v3) (Bo v3)) .fail) (.leaf (.dat i64 (0:Int)) []):=by kernel_rfl
def L6(v7:List Int):Tr:=re ((stepT RV (L5 false [] false [])).L) (AI 96 [(7,.dat (zg i64) v7)] [] 0)
theorem Gk(o1:Bool)(o1_1:List Int)(o0:Bool)(o0_1:List Int):stepT RV (L5 o1 o1_1 o0 o0_1)=.ite (A3 o0_1&&A3 o1_1&&decide (length o0_1≤9000)&&decide (length o1_1≤9000)) (L6 (Cb o0_1 o1_1)) .fail:=by kernel_rfl
theorem Hl(v7:List Int):stepT RV (L6 v7)=let a':Tr:=.leaf (.dat i64 (1:Int)) [];.ite ((length v7:Int) !=1) a' (.ite (decide (0<(length v7:Int))) (.ite (getD v7 0 0 !=1) a' (.leaf (.dat i64 (0:Int)) [])) .fail):=by kernel_rfl
end T24
end
end Go.Pe
end
section
namespace Go.Pe
open Sp
open Go.Det
noncomputable section
open List Int Prod
namespace T83
def T(l:List Int):Tr:=tree IU false 9 83 (Ah ([zg i64]) l)
def L1(v5:List Int)(v6 v7:Int):Tr:=re ((T [])) (AI 15 [(5,.dat (zg i64) v5),(6,.dat i64 v6),(7,.dat i64 v7)] [] 0)
theorem An(l:List Int):T l=L1 l ((length l:Int)) 0:=by kernel_rfl
theorem Au(v5:List Int)(v6 v7:Int):stepT IU (L1 v5 v6 v7)=.ite (decide (v7<v6)) (.ite (decide (0≤v7)&&decide (v7<(length v5:Int))) (.ite (getD v5 (toNat v7) 0 !=0) (.leaf (.dat i64 (getD v5 (toNat v7) 0)) []) (L1 v5 v6 (zc .i64 (v7+1)))) .fail) (.leaf (.dat i64 (0:Int)) []):=by kernel_rfl
end T83
namespace T85
def T(b:Bool)(e:Int):Tr:=tree IU false 9 85 (Ah ([zi,ze zN]) (b,e))
theorem An(b:Bool)(e:Int):T b e=.ite b (.leaf (.dat i64 e) []) (.leaf (.dat i64 (0:Int)) []):=by kernel_rfl
end T85
namespace T77
def T(a:List UInt8):Tr:=tree KP false 9 77 (Ah ([zj]) a)
def L1(v5 v6:List UInt8)(v7:Bool):Tr:=re ((T []).L.L.L.L.L) (AI 76 [(5,.dat zj v5),(6,.dat zj v6),(7,.dat zi v7),(8,.bl true)] [] 0)
def L2(v5 v6:List UInt8)(v7 v8:Bool):Tr:=re ((T []).L.L.L.L.R) (AI 76 [(5,.dat zj v5),(6,.dat zj v6),(7,.dat zi v7),(8,.dat zi v8)] [] 0)
def L3(v5 v6:List UInt8)(v7:Bool):Tr:=re ((T []).L.L.L.R) (AI 76 [(5,.dat zj v5),(6,.dat zj v6),(7,.dat zi v7),(8,.bl false)] [] 0)
theorem An(a:List UInt8):T a=let a':=Aw (AU a);let b':=Sp.AL (AU a);let c':=Bk (AU a);.ite (Ra a [(45:UInt8)]) (.ite (oO (AU a) [(47:UInt8)]) (.ite (decide (length a'≤1000000)) (.ite (AQ a') (.ite (!Sp.preB a) (L1 a' b' c') (L2 a' b' c' (!Aw (AU a)==[(48:UInt8)]))) (L3 a' b' c')) .fail) .fail) .fail:=by kernel_rfl
def L4(v5 v6:List UInt8)(v7 v8:Bool):Tr:=re ((stepT KP (L1 [] [] false)).L.L.L.L) (AI 76 [(5,.dat zj v5),(6,.dat zj v6),(7,.dat zi v7),(8,.dat zi v8)] [] 0)
def L5(v5 v6:List UInt8)(v7:Bool):Tr:=re ((stepT KP (L1 [] [] false)).L.L.L.R) (AI 76 [(5,.dat zj v5),(6,.dat zj v6),(7,.dat zi v7),(8,.bl false)] [] 0)
def L6(v5 v6:List UInt8)(v7:Bool):Tr:=re ((stepT KP (L1 [] [] false)).R) (AI 76 [(5,.dat zj v5),(6,.dat zj v6),(7,.dat zi v7),(8,.bl true)] [] 0)
theorem Au(v5 v6:List UInt8)(v7:Bool):stepT KP (L1 v5 v6 v7)=.ite v7 (.ite (decide (length v6≤1000000)) (.ite (AQ v6) (.ite (!v6==[(48:UInt8)]) (L4 v5 v6 v7 (!v6==[(49:UInt8)])) (L5 v5 v6 v7)) (L5 v5 v6 v7)) .fail) (L6 v5 v6 v7):=by kernel_rfl
theorem A4(v5 v6:List UInt8)(v7 v8:Bool):stepT KP (L2 v5 v6 v7 v8)=.ite v7 (.ite v8 (.ite (decide (length v6≤1000000)) (.ite (AQ v6) (.ite (!v6==[(48:UInt8)]) (L4 v5 v6 v7 (!v6==[(49:UInt8)])) (L5 v5 v6 v7)) (L5 v5 v6 v7)) .fail) (L5 v5 v6 v7)) (L4 v5 v6 v7 v8):=by kernel_rfl
theorem C9(v5 v6:List UInt8)(v7:Bool):stepT KP (L3 v5 v6 v7)=.ite v7 (L5 v5 v6 v7) (L5 v5 v6 v7):=by kernel_rfl
def L7(v5 v6:List UInt8)(v7:Bool)(v9:Int):Tr:=re ((stepT KP (L4 [] [] false false)).L.L.L.L) (AI 76 [(5,.dat zj v5),(6,.dat zj v6),(7,.dat zi v7),(9,.dat i64 v9)] [] 0)
theorem Dp(v5 v6:List UInt8)(v7 v8:Bool):stepT KP (L4 v5 v6 v7 v8)=let a':=decide (2≤2)&&true&&decide (2≤1000000);.ite true (.ite (decide ((length v5:Int)>600)) (.ite true (.ite a' (L7 v5 v6 v7 (zS [LQ (!v8) 1,LQ true 4])) .fail) .fail) (.ite true (.ite a' (L7 v5 v6 v7 (zS [LQ (!v8) 1,LQ (decide ((length v6:Int)>600)) 4])) .fail) .fail)) .fail:=by kernel_rfl
theorem Gk(v5 v6:List UInt8)(v7:Bool):stepT KP (L5 v5 v6 v7)=.ite true (.ite (decide ((length v5:Int)>600)) (.ite true (.ite true (L7 v5 v6 v7 (zS [LQ true 1,LQ true 4])) .fail) .fail) (.ite true (.ite (decide (2≤2)&&true&&decide (2≤1000000)) (L7 v5 v6 v7 (zS [LQ true 1,LQ (decide ((length v6:Int)>600)) 4])) .fail) .fail)) .fail:=by kernel_rfl
theorem Hl(v5 v6:List UInt8)(v7:Bool):stepT KP (L6 v5 v6 v7)=.ite true (.ite (decide ((length v5:Int)>600)) (.ite true (.ite true (L7 v5 v6 v7 (zS [LQ false 1,LQ true 4])) .fail) .fail) (.ite true (.ite (decide (2≤2)&&true&&decide (2≤1000000)) (L7 v5 v6 v7 (zS [LQ false 1,LQ (decide ((length v6:Int)>600)) 4])) .fail) .fail)) .fail:=by kernel_rfl
def L8(v5 v6:List UInt8)(v7:Bool):Tr:=re ((stepT KP (L7 [] [] false 0)).R) (AI 76 [(5,.dat zj v5),(6,.dat zj v6),(7,.dat zi v7)] [] 0)
theorem FN(v5 v6:List UInt8)(v7:Bool)(v9:Int):stepT KP (L7 v5 v6 v7 v9)=.ite (v9 !=0) (.leaf (.dat i64 v9) []) (L8 v5 v6 v7):=by kernel_rfl
def L9(v10:Bool):Tr:=re ((stepT KP (L8 [] [] false)).L.L.L.L.L.L) (AI 76 [(10,.dat zi v10)] [] 0)
def wU:Tr:=re ((stepT KP (L8 [] [] false)).R) (AI 76 [(10,.bl false)] [] 0)
theorem I2(v5 v6:List UInt8)(v7:Bool):stepT KP (L8 v5 v6 v7)=let a':=(LP (C1 v5,CX v5) (C1 v6,CX v6),LX (C1 v5,CX v5) (C1 v6,CX v6));.ite v7 (.ite (DW v5) (.ite (DW v6) (.ite (A8 (C1 v5,CX v5)&&A8 (C1 v6,CX v6)) (.ite true (.ite (A8 a'&&A8 (1,Dw 1)) (L9 (Xo a' (1,Dw 1) !=0)) .fail) .fail) .fail) .fail) .fail) wU:=by kernel_rfl
theorem sJ(v10:Bool):stepT KP (L9 v10)=.ite true (.leaf (.dat i64 (LQ v10 1)) []) .fail:=by kernel_rfl
theorem pA:stepT KP wU=.ite true (.leaf (.dat i64 (LQ false 1)) []) .fail:=by kernel_rfl
end T77
end
end Go.Pe
end
section
namespace Go.Pe
open Sp
open Go.Det
noncomputable section
open List Int Prod
namespace T153
def T(s:List UInt8):Tr:=tree O4 false 9 153 (Ah ([zj]) s)
def L1(v0:List UInt8)(v3:Bool)(o1 o0:Int):Tr:=re ((T []).L.L.L.L.L.L) (AI 41 [(0,.dat zj v0),(2,.ptr 0 0),(3,.dat zi v3),(4,.ptr 1 0)] [(1,.box [.dat i64 o1,.nil]),(0,.box [.dat i64 o0,.nil])] 2)
def L2(v0:List UInt8)(o1 o0:Int):Tr:=re ((T []).R.L.L.L.L) (AI 41 [(0,.dat zj v0),(2,.ptr 0 0),(3,.bl false),(4,.ptr 1 0)] [(1,.box [.dat i64 o1,.nil]),(0,.box [.dat i64 o0,.nil])] 2)
theorem An(s:List UInt8):T s=let a':=take 1 s==[(45:UInt8)];let b':=decide ((length s:Int)≥1);let c':=decide (1≤length s)&&decide (length s≤length s);let d':=decide (1≤length s);let e':=take (zy (length s) 1) (drop 1 s);.ite b' (.ite d' (.ite b' (.ite d' (.ite a' (.ite c' (L1 e' a' 0 0) .fail) (L1 s a' 0 0)) .fail) (L1 s a' 0 0)) .fail) (.ite b' (.ite d' (.ite a' (.ite c' (L2 e' 0 0) .fail) (L2 s 0 0)) .fail) (L2 s 0 0)):=by kernel_rfl
def L3(v0:List UInt8)(v3:Bool)(o1 o0:Int)(v5:List UInt8)(v6:Int)(v47n:Nat)(v48 v49:Int)(o2:List Int)(o1':Int)(o0':Int):Tr:=re ((stepT O4 (L1 v0 v3 o1 o0)).L.L.L.L.L.L.L.R) (AI 77 [(5,.dat zj v5),(6,.dat i64 v6),(47,.sl 2 1 0 v47n none),(48,.dat i64 v48),(49,.dat i64 v49)] [(2,.arr false 5 (ze zI) o2),(1,.box [.dat i64 o1',.nil]),(0,.box [.dat i64 o0',.nil])] 3)
theorem Au(v0:List UInt8)(v3:Bool)(o1 o0:Int):stepT O4 (L1 v0 v3 o1 o0)=let d':=(length v0:Int);let g':=zf (ze zd);let a':=take (toNat (Ei 18 d')) v0;let b':=take (zy (length a') 1) (drop 1 a');let c':=(↑(length a'):Int);let e':=decide (1≤length a')&&decide (length a'≤length a');let f':=(↑(zk (getD a' 0 (0:UInt8))):Int);let h':=decide (0<c');.ite (decide (d'>0)) (.ite (decide (0≤Ei 18 d')&&decide (0≤toNat (Ei 18 d'))&&decide (toNat (Ei 18 d')≤length v0)) (.ite h' (.ite (decide (c'<19)) (.ite h' (.ite (f'==45) (.ite e' (.ite (decide ((↑(length b'):Int)<1)) .fail (L3 v0 v3 o1 o0 a' 0 (length b') ((↑(length b'):Int)) 0 (zP (fun b=>(↑(zk b):Int)) b') o1 o0)) .fail) (.ite h' (.ite (f'==43) (.ite e' (.ite (decide ((↑(length b'):Int)<1)) .fail (L3 v0 v3 o1 o0 a' 0 (length b') ((↑(length b'):Int)) 0 (zP (fun b=>(↑(zk b):Int)) b') o1 o0)) .fail) (L3 v0 v3 o1 o0 a' 0 (length a') (c') 0 (zP (fun b=>(↑(zk b):Int)) a') o1 o0)) .fail)) .fail) (.ite false .fail .fail)) (.ite false .fail .fail)) .fail) (.ite v3 (.ite (De (o1,[])) (.leaf (zp [.dat i64 (D6 (o1,[])),.dat g' (D4 (o1,[]))]) ([(1,.box [.dat i64 o1,.nil]),(0,.box [.dat i64 (D6 (o1,[])),.dat g' (D4 (o1,[]))])])) .fail) (.leaf (zp [.dat i64 o1,.nil]) ([(1,.box [.dat i64 o1,.nil]),(0,.box [.dat i64 o1,.nil])]))):=by kernel_rfl
def L4(v0:List UInt8)(o1 o0:Int)(v5:List UInt8)(v6:Int)(v47n:Nat)(v48 v49:Int)(o2:List Int)(o1':Int)(o0':Int):Tr:=re ((stepT O4 (L2 v0 o1 o0)).L.L.L.L.L.L.L.R) (AI 77 [(5,.dat zj v5),(6,.dat i64 v6),(47,.sl 2 1 0 v47n none),(48,.dat i64 v48),(49,.dat i64 v49)] [(2,.arr false 5 (ze zI) o2),(1,.box [.dat i64 o1',.nil]),(0,.box [.dat i64 o0',.nil])] 3)
theorem A4(v0:List UInt8)(o1 o0:Int):stepT O4 (L2 v0 o1 o0)=let d':=(length v0:Int);let a':=take (toNat (Ei 18 d')) v0;let b':=take (zy (length a') 1) (drop 1 a');let c':=(↑(length a'):Int);let e':=decide (1≤length a')&&decide (length a'≤length a');let f':=(↑(zk (getD a' 0 (0:UInt8))):Int);let g':=decide (0<c');.ite (decide (d'>0)) (.ite (decide (0≤Ei 18 d')&&decide (0≤toNat (Ei 18 d'))&&decide (toNat (Ei 18 d')≤length v0)) (.ite g' (.ite (decide (c'<19)) (.ite g' (.ite (f'==45) (.ite e' (.ite (decide ((↑(length b'):Int)<1)) .fail (L4 v0 o1 o0 a' 0 (length b') ((↑(length b'):Int)) 0 (zP (fun b=>(↑(zk b):Int)) b') o1 o0)) .fail) (.ite g' (.ite (f'==43) (.ite e' (.ite (decide ((↑(length b'):Int)<1)) .fail (L4 v0 o1 o0 a' 0 (length b') ((↑(length b'):Int)) 0 (zP (fun b=>(↑(zk b):Int)) b') o1 o0)) .fail) (L4 v0 o1 o0 a' 0 (length a') (c') 0 (zP (fun b=>(↑(zk b):Int)) a') o1 o0)) .fail)) .fail) (.ite false .fail .fail)) (.ite false .fail .fail)) .fail) (.leaf (zp [.dat i64 o1,.nil]) ([(1,.box [.dat i64 o1,.nil]),(0,.box [.dat i64 o1,.nil])])):=by kernel_rfl
def L5(v0:List UInt8)(v3:Bool)(o1:Int)(o1_1:List Int)(o0:Int):Tr:=re ((stepT O4 (L3 [] false 0 0 [] 0 0 0 0 [] 0 0)).R.L.L.L.L.L.L.L.L) (AI 41 [(0,.dat zj v0),(2,.ptr 0 0),(3,.dat zi v3),(4,.ptr 1 0)] [(1,.box [.dat i64 o1,.dat (zf (ze zd)) o1_1]),(0,.box [.dat i64 o0,.nil])] 2)
theorem C9(v0:List UInt8)(v3:Bool)(o1 o0:Int)(v5:List UInt8)(v6:Int)(v47n:Nat)(v48 v49:Int)(o2:List Int)(o1':Int)(o0':Int):stepT O4 (L3 v0 v3 o1 o0 v5 v6 v47n v48 v49 o2 o1' o0')=let b':=Ei 18 (length v0:Int);let d':=(zc .i64 (0-v6),Dw (zc .i64 (0-v6)));let i':=getD o2 (toNat v49) 0-48;let a':=(S5 (10,Dw 10) b',Sz (10,Dw 10) b');let e':=decide (0≤Ei 18 (length v0:Int))&&true&&decide (toNat b'≤length v0)&&decide (length v0≤length v0);let f':=take (zy (length v0) (toNat b')) (drop (toNat b') v0);let g':=A8 (10,Dw 10)&&cU (zY (10,Dw 10)) b';let c':=(Ex (o1',[]) a',Ew (o1',[]) a');let h':=A8 (o1',[])&&A8 a';.ite (decide (v49<v48)) (.ite (decide (0≤v49)&&decide (v49<(↑v47n:Int))) (.ite (decide (toNat v49<length o2)) (.ite (decide (zc .u8 i'>9)) .fail (L3 v0 v3 o1 o0 v5 (zc .i64 (zc .i64 (v6*10)+zc .i64 (zc .u8 i'))) v47n v48 (zc .i64 (v49+1)) o2 o1' o0')) .fail) .fail) (.ite (decide (0<(length v5:Int))) (.ite ((↑(zk (getD v5 0 (0:UInt8))):Int)==45) (.ite true (.ite g' (.ite h' (.ite true (.ite (A8 c'&&A8 d') (.ite e' (L5 f' v3 (H3 c' d') (HF c' d') o0') .fail) .fail) .fail) .fail) .fail) .fail) (.ite true (.ite g' (.ite h' (.ite true (.ite (A8 c'&&A8 (v6,Dw v6)) (.ite e' (L5 f' v3 (H3 c' (v6,Dw v6)) (HF c' (v6,Dw v6)) o0') .fail) .fail) .fail) .fail) .fail) .fail)) .fail):=by kernel_rfl
def L7(v0:List UInt8)(v3:Bool)(o1:Int)(o1_1:List Int)(o0:Int)(v5:List UInt8)(v6:Int)(v47n:Nat)(v48 v49:Int)(o2:List Int)(o1':Int)(o1_1':List Int)(o0':Int):Tr:=re ((stepT O4 (L5 v0 v3 o1 o1_1 o0)).L.L.L.L.L.L.L.R) (AI 77 [(5,.dat zj v5),(6,.dat i64 v6),(47,.sl 2 1 0 v47n none),(48,.dat i64 v48),(49,.dat i64 v49)] [(2,.arr false 5 (ze zI) o2),(1,.box [.dat i64 o1',.dat (zf (ze zd)) o1_1']),(0,.box [.dat i64 o0',.nil])] 3)
theorem Gk(v0:List UInt8)(v3:Bool)(o1:Int)(o1_1:List Int)(o0:Int):stepT O4 (L5 v0 v3 o1 o1_1 o0)=let c':=zf (ze zd);let e':=(length v0:Int);let a':=take (toNat (Ei 18 e')) v0;let b':=take (zy (length a') 1) (drop 1 a');let d':=(↑(length a'):Int);let f':=decide (1≤length a')&&decide (length a'≤length a');let g':=(↑(zk (getD a' 0 (0:UInt8))):Int);let h':=decide (0<d');.ite (decide (e'>0)) (.ite (decide (0≤Ei 18 e')&&decide (0≤toNat (Ei 18 e'))&&decide (toNat (Ei 18 e')≤length v0)) (.ite h' (.ite (decide (d'<19)) (.ite h' (.ite (g'==45) (.ite f' (.ite (decide ((↑(length b'):Int)<1)) .fail (L7 v0 v3 o1 o1_1 o0 a' 0 (length b') ((↑(length b'):Int)) 0 (zP (fun b=>(↑(zk b):Int)) b') o1 o1_1 o0)) .fail) (.ite h' (.ite (g'==43) (.ite f' (.ite (decide ((↑(length b'):Int)<1)) .fail (L7 v0 v3 o1 o1_1 o0 a' 0 (length b') ((↑(length b'):Int)) 0 (zP (fun b=>(↑(zk b):Int)) b') o1 o1_1 o0)) .fail) (L7 v0 v3 o1 o1_1 o0 a' 0 (length a') (d') 0 (zP (fun b=>(↑(zk b):Int)) a') o1 o1_1 o0)) .fail)) .fail) (.ite false .fail .fail)) (.ite false .fail .fail)) .fail) (.ite v3 (.ite (De (o1,o1_1)) (.leaf (zp [.dat i64 (D6 (o1,o1_1)),.dat c' (D4 (o1,o1_1))]) ([(1,.box [.dat i64 o1,.dat c' o1_1]),(0,.box [.dat i64 (D6 (o1,o1_1)),.dat c' (D4 (o1,o1_1))])])) .fail) (.leaf (zp [.dat i64 o1,.dat c' o1_1]) ([(1,.box [.dat i64 o1,.dat c' o1_1]),(0,.box [.dat i64 o1,.dat c' o1_1])]))):=by kernel_rfl
theorem FN(v0:List UInt8)(v3:Bool)(o1:Int)(o1_1:List Int)(o0:Int)(v5:List UInt8)(v6:Int)(v47n:Nat)(v48 v49:Int)(o2:List Int)(o1':Int)(o1_1':List Int)(o0':Int):stepT O4 (L7 v0 v3 o1 o1_1 o0 v5 v6 v47n v48 v49 o2 o1' o1_1' o0')=let c':=Ei 18 (length v0:Int);let d':=(zc .i64 (0-v6),Dw (zc .i64 (0-v6)));let i':=getD o2 (toNat v49) 0-48;let a':=(S5 (10,Dw 10) c',Sz (10,Dw 10) c');let e':=decide (0≤Ei 18 (length v0:Int))&&true&&decide (toNat c'≤length v0)&&decide (length v0≤length v0);let f':=take (zy (length v0) (toNat c')) (drop (toNat c') v0);let g':=A8 (10,Dw 10)&&cU (zY (10,Dw 10)) c';let b':=(Ex (o1',o1_1') a',Ew (o1',o1_1') a');let h':=A8 (o1',o1_1')&&A8 a';.ite (decide (v49<v48)) (.ite (decide (0≤v49)&&decide (v49<(↑v47n:Int))) (.ite (decide (toNat v49<length o2)) (.ite (decide (zc .u8 i'>9)) .fail (L7 v0 v3 o1 o1_1 o0 v5 (zc .i64 (zc .i64 (v6*10)+zc .i64 (zc .u8 i'))) v47n v48 (zc .i64 (v49+1)) o2 o1' o1_1' o0')) .fail) .fail) (.ite (decide (0<(length v5:Int))) (.ite ((↑(zk (getD v5 0 (0:UInt8))):Int)==45) (.ite true (.ite g' (.ite h' (.ite true (.ite (A8 b'&&A8 d') (.ite e' (L5 f' v3 (H3 b' d') (HF b' d') o0') .fail) .fail) .fail) .fail) .fail) .fail) (.ite true (.ite g' (.ite h' (.ite true (.ite (A8 b'&&A8 (v6,Dw v6)) (.ite e' (L5 f' v3 (H3 b' (v6,Dw v6)) (HF b' (v6,Dw v6)) o0') .fail) .fail) .fail) .fail) .fail) .fail)) .fail):=by kernel_rfl
end T153
end
noncomputable section
open List Int Prod
namespace T211
def T(s t:List UInt8):Tr:=tree VR false 9 211 (Ah ([zj,zj]) (s,t))
def L1(s t v0:List UInt8)(v4:Int)(o0:List Bool):Tr:=re ((T s t).R.R.L.L.R) (AI 21 [(0,.dat zj v0),(2,.ptr 0 0),(4,.dat i64 v4)] [(0,.arr false 281 zi o0)] 1)
def L2(s t v0:List UInt8)(v4:Int)(o0:List Bool):Tr:=re ((T s t).R.R.R) (AI 21 [(0,.dat zj v0),(2,.ptr 0 0),(4,.dat i64 v4)] [(0,.arr false 281 zi o0)] 1)
theorem An(s t:List UInt8):T s t=let a':=decide (0<(length t:Int));let b':Tr:=.leaf (.dat zj s) [];.ite (s==[]) b' (.ite (t==[]) b' (.ite ((length t:Int)==1) (.ite a' (.ite (decide ((↑(zk (getD t 0 (0:UInt8))):Int)<128)) (.ite a' (.ite a' (.ite false (.ite false b' .fail) .fail) .fail) .fail) (L1 s t t 0 Sp.mZ)) .fail) (L2 s t t 0 Sp.mZ))):=by kernel_rfl
def L4(s t v0:List UInt8)(v4:Int)(o0:List Bool)(v0':List UInt8)(o1:List Bool)(o0':List Bool):Tr:=re ((stepT VR (L2 s t v0 v4 o0)).R.L.L.L.L) (AI 22 [(0,.dat zj v0'),(1,.ptr 1 0)] [(1,.arr false 281 zi o1),(0,.arr false 281 zi o0')] 2)
theorem A4(s t v0:List UInt8)(v4:Int)(o0:List Bool):stepT VR (L2 s t v0 v4 o0)=let a':=(↑(zk (getD v0 (toNat v4) (0:UInt8))):Int);let b':=decide (length o0=256);let c':=decide (v4<(length v0:Int));.ite (c') (.ite (decide (0≤v4)&&c') (.ite (decide (a'≥128)) (.ite b' (.ite b' (.ite (decide (256=256)) (.ite true (.ite false (.ite false (.leaf (.dat zj s) ([(1,.arr false 281 zi (Sp.Wt o0)),(0,.arr false 281 zi (Sp.Wt o0))])) .fail) .fail) .fail) .fail) .fail) .fail) (.ite (decide ((0:zX (ze zI))≤a')&&decide (a'<(↑256:Int))) (.ite (decide (toNat a'<length o0)) (L2 s t v0 (zc .i64 (v4+1)) (set o0 (toNat a') true)) .fail) .fail)) .fail) (.ite b' (.ite b' (.ite (decide (256=256)) (.ite true (L4 s t v0 v4 o0 s ((Sp.Wt o0)) ((Sp.Wt o0))) .fail) .fail) .fail) .fail):=by kernel_rfl
def L7(s t v0:List UInt8)(v4:Int)(o0:List Bool)(v0':List UInt8)(o1:List Bool)(o0':List Bool)(v0'':List UInt8)(o1':List Bool)(o0'':List Bool):Tr:=re ((stepT VR (L4 s t v0 v4 o0 v0' o1 o0')).L.L.L.L.L) (AI 16 [(0,.dat zj v0''),(1,.ptr 1 0)] [(1,.arr false 281 zi o1'),(0,.arr false 281 zi o0'')] 2)
def L8(s t v0:List UInt8)(v4:Int)(o0:List Bool)(v0':List UInt8)(o1:List Bool)(o0':List Bool)(v0'':List UInt8)(o1':List Bool)(o0'':List Bool):Tr:=re ((stepT VR (L4 s t v0 v4 o0 v0' o1 o0')).R) (AI 16 [(0,.dat zj v0''),(1,.ptr 1 0)] [(1,.arr false 281 zi o1'),(0,.arr false 281 zi o0'')] 2)
theorem Dp(s t v0:List UInt8)(v4:Int)(o0:List Bool)(v0':List UInt8)(o1:List Bool)(o0':List Bool):stepT VR (L4 s t v0 v4 o0 v0' o1 o0')=let b':=(↑(length v0'):Int);let c':=zc .i64 (b'-1);let d':=decide (0≤zc .i64 (b'-1));let a':=(↑(zk (getD v0' (toNat c') (0:UInt8))):Int);.ite (decide (b'>0)) (.ite (d'&&decide (zc .i64 (b'-1)<b')) (.ite (decide ((0:zX (ze zI))≤a')&&decide (a'<(↑256:Int))) (.ite (decide (toNat a'<length o1)) (.ite (!getD o1 (toNat a') false) (L7 s t v0 v4 o0 v0' o1 o0' v0' o1 o0') (.ite (d'&&decide (0≤toNat c')&&decide (toNat c'≤length v0')) (L4 s t v0 v4 o0 (take (toNat c') v0') o1 o0') .fail)) .fail) .fail) .fail) (L8 s t v0 v4 o0 v0' o1 o0' v0' o1 o0'):=by kernel_rfl
theorem FN(s t v0:List UInt8)(v4:Int)(o0:List Bool)(v0':List UInt8)(o1:List Bool)(o0':List Bool)(v0'':List UInt8)(o1':List Bool)(o0'':List Bool):stepT VR (L7 s t v0 v4 o0 v0' o1 o0' v0'' o1' o0'')=let a':=(↑(zk (getD v0'' 0 (0:UInt8))):Int);let b':Tr:=.leaf (.dat zj v0'') ([(1,.arr false 281 zi o1'),(0,.arr false 281 zi o0'')]);.ite (decide ((↑(length v0''):Int)>0)) (.ite (decide (0<(↑(length v0''):Int))) (.ite (decide ((0:zX (ze zI))≤a')&&decide (a'<(↑256:Int))) (.ite (decide (toNat a'<length o1')) (.ite (!getD o1' (toNat a') false) b' (.ite (decide (1≤length v0'')&&decide (length v0''≤length v0'')) (L7 s t v0 v4 o0 v0' o1 o0' (take (zy (length v0'') 1) (drop 1 v0'')) o1' o0'') .fail)) .fail) .fail) .fail) b':=by kernel_rfl
theorem I2(s t v0:List UInt8)(v4:Int)(o0:List Bool)(v0':List UInt8)(o1:List Bool)(o0':List Bool)(v0'':List UInt8)(o1':List Bool)(o0'':List Bool):stepT VR (L8 s t v0 v4 o0 v0' o1 o0' v0'' o1' o0'')=let a':=(↑(zk (getD v0'' 0 (0:UInt8))):Int);let b':Tr:=.leaf (.dat zj v0'') ([(1,.arr false 281 zi o1'),(0,.arr false 281 zi o0'')]);.ite (decide ((↑(length v0''):Int)>0)) (.ite (decide (0<(↑(length v0''):Int))) (.ite (decide ((0:zX (ze zI))≤a')&&decide (a'<(↑256:Int))) (.ite (decide (toNat a'<length o1')) (.ite (!getD o1' (toNat a') false) b' (.ite (decide (1≤length v0'')&&decide (length v0''≤length v0'')) (L8 s t v0 v4 o0 v0' o1 o0' (take (zy (length v0'') 1) (drop 1 v0'')) o1' o0'') .fail)) .fail) .fail) .fail) b':=by kernel_rfl
end T211
end
noncomputable section
open List Int Prod
namespace T151
def T(s:List UInt8):Tr:=tree wH false 9 151 (Ah ([zj]) s)
theorem An(s:List UInt8):T s=.ite (!s==[]) (.ite (Sp.nM s [(48:UInt8),(49:UInt8),(50:UInt8),(51:UInt8),(52:UInt8),(53:UInt8),(54:UInt8),(55:UInt8),(56:UInt8),(57:UInt8)]) (.ite (Sp.N7 s==[]) (.ite (decide (0<(length s:Int))) (.ite ((↑(zk (getD s 0 (0:UInt8))):Int) !=48) (.leaf (.bl true) []) (.leaf (.dat zi (s==[(48:UInt8)])) [])) .fail) (.leaf (.bl false) [])) .fail) (.leaf (.bl false) []):=by kernel_rfl
end T151
namespace T149
def T(s t:List UInt8):Tr:=tree IU false 9 149 (Ah ([zj,zj]) (s,t))
theorem An(s t:List UInt8):T s t=let a':=(length t:Int);let b':Tr:=.leaf (.tup [.dat zj s,.bl false]) [];let c':=decide (toNat a'≤length s);.ite (decide ((length s:Int)≥a')) (.ite (decide (0≤a')&&decide (0≤toNat a')&&c') (.ite (!take (toNat a') s==t) b' (.ite (decide (0≤a')&&true&&c'&&decide (length s≤length s)) (.leaf (.tup [.dat zj (take (zy (length s) (toNat a')) (drop (toNat a') s)),.bl true]) []) .fail)) .fail) b':=by kernel_rfl
end T149
end
noncomputable section
open List Int Prod
namespace T150
def T(s t:List UInt8):Tr:=tree vY false 9 150 (Ah ([zj,zj]) (s,t))
theorem An(s t:List UInt8):T s t=let b':=(↑(zk (getD t 0 (0:UInt8))):Int);let c':=(length t:Int);let d':Tr:=.leaf (.tup [.dat zj s,.dat zj [],.bl false]) [];let g':=decide (length s≤length s);let i':=Bz [ze zI];let e':=zc .i64 (Sp.No s b'+c');let f':=zc .i64 ((-1)+c');let h':=zc .i64 (0+c');let j':=Sp.No s b';let a':Tr:=.ite true (.ite (decide (0≤length s)) (.ite (decide (0≤zc .i64 (0+c'))&&true&&decide (toNat h'≤length s)&&g') (.leaf (.tup [.dat zj (take 0 s),.dat zj (take (zy (length s) (toNat h')) (drop (toNat h') s)),.bl true]) []) .fail) .fail) d';.ite (c'==0) a' (.ite (t==s) a' (.ite (c'==1) (.ite (decide (0<c')) (.ite (decide ((0:zX i')≤b')&&decide (b'<(256:zX i'))) (.ite (decide (Sp.No s b'≥0)) (.ite (decide (0≤Sp.No s b')&&decide (0≤toNat j')&&decide (toNat j'≤length s)) (.ite (decide (0≤zc .i64 (Sp.No s b'+c'))&&true&&decide (toNat e'≤length s)&&g') (.leaf (.tup [.dat zj (take (toNat j') s),.dat zj (take (zy (length s) (toNat e')) (drop (toNat e') s)),.bl true]) []) .fail) .fail) d') .fail) .fail) (.ite (decide (c'≥(length s:Int))) (.ite false (.ite (false&&decide (0≤length s)) (.ite (decide (0≤zc .i64 ((-1)+c'))&&true&&decide (toNat f'≤length s)&&g') (.leaf (.tup [.dat zj (take 0 s),.dat zj (take (zy (length s) (toNat f')) (drop (toNat f') s)),.bl true]) []) .fail) .fail) d') .fail))):=by kernel_rfl
end T150
end
end Go.Pe
end
section
namespace Go.Pe
open Sp
open Go.Det
noncomputable section
open List Int Prod
namespace T227
def T(w:List Int):Tr:=tree XX false 9 227 (Ah ([zg i64]) w)
def L1(v0:List Int):Tr:=re ((T [])) (AI 21 [(0,.dat (zg i64) v0)] [] 0)
theorem An(w:List Int):T w=L1 w:=by kernel_rfl
theorem Au(v0:List Int):stepT XX (L1 v0)=let b':=(length v0:Int);let d':Tr:=.leaf (.dat (zg i64) v0) [];let a':=zc .i64 (b'-1);let c':=decide (0≤zc .i64 (b'-1));.ite (decide (b'>0)) (.ite (c'&&decide (zc .i64 (b'-1)<b')) (.ite (getD v0 (toNat a') 0==0) (.ite (c'&&decide (0≤toNat a')&&decide (toNat a'≤length v0)) (L1 (take (toNat a') v0)) .fail) d') .fail) d':=by kernel_rfl
end T227
namespace T168
def T(n:Bool)(w:List Int):Tr:=tree Ug false 9 168 (Ah ([zi,zg i64]) (n,w))
theorem An(n:Bool)(w:List Int):T n w=let a':=decide ((↑(length (Ar w)):Int)>0);.ite (decide (length w≤20000)) (.ite n (.leaf (zp [.dat zi a',.dat (zg i64) (Ar w)]) ([(0,.box [.dat zi a',.dat (zg i64) (Ar w)])])) (.leaf (zp [.bl false,.dat (zg i64) (Ar w)]) ([(0,.box [.bl false,.dat (zg i64) (Ar w)])]))) .fail:=by kernel_rfl
end T168
namespace T170
def T(a b:List Int):Tr:=tree XX false 9 170 (Ah ([zg i64,zg i64]) (a,b))
def L1(v0 v1:List Int)(v5:Int):Tr:=re ((T [] []).R) (AI 41 [(0,.dat (zg i64) v0),(1,.dat (zg i64) v1),(5,.dat i64 v5)] [] 0)
theorem An(a b:List Int):T a b=let a':=(length a:Int);.ite (a' !=(length b:Int)) (.ite (decide (a'<(length b:Int))) (.leaf (.dat i64 (-1:Int)) []) (.leaf (.dat i64 (1:Int)) [])) (L1 a b (zc .i64 (a'-1))):=by kernel_rfl
theorem Au(v0 v1:List Int)(v5:Int):stepT XX (L1 v0 v1 v5)=let a':=decide (0≤v5)&&decide (v5<(length v0:Int));let b':=decide (0≤v5)&&decide (v5<(length v1:Int));.ite (decide (v5≥0)) (.ite a' (.ite b' (.ite (decide (getD v0 (toNat v5) 0<getD v1 (toNat v5) 0)) (.leaf (.dat i64 (-1:Int)) []) (.ite a' (.ite b' (.ite (decide (getD v0 (toNat v5) 0>getD v1 (toNat v5) 0)) (.leaf (.dat i64 (1:Int)) []) (L1 v0 v1 (zc .i64 (v5-1)))) .fail) .fail)) .fail) .fail) (.leaf (.dat i64 (0:Int)) []):=by kernel_rfl
end T170
namespace T172
def T(a b:List Int):Tr:=tree Ug false 9 172 (Ah ([zg i64,zg i64]) (a,b))
def L1(v0 v1:List Int)(v5n:Nat)(v6:Int)(o0:List Int):Tr:=re ((T [] []).L) (AI 72 [(0,.dat (zg i64) v0),(1,.dat (zg i64) v1),(5,.sl 0 1 0 v5n none),(6,.dat i64 v6)] [(0,.arr false 3 i64 o0)] 1)
theorem An(a b:List Int):T a b=let a':=(length a:Int)+(length b:Int);let b':=zc .i64 a';.ite (decide (0≤zc .i64 a')&&decide (zc .i64 a'=zc .i64 a')&&decide (8*toNat b'≤281474976710656)&&decide (zc .i64 a'<9223372036854775808)) (L1 a b (toNat b') 0 (replicate (toNat b') 0)) .fail:=by kernel_rfl
def L2(v0 v1:List Int)(v5n:Nat)(v6 v7 v8:Int)(o0:List Int):Tr:=re ((stepT Ug (L1 [] [] 0 0 [])).L) (AI 72 [(0,.dat (zg i64) v0),(1,.dat (zg i64) v1),(5,.sl 0 1 0 v5n none),(6,.dat i64 v6),(7,.dat i64 v7),(8,.dat i64 v8)] [(0,.arr false 3 i64 o0)] 1)
theorem Au(v0 v1:List Int)(v5n:Nat)(v6:Int)(o0:List Int):stepT Ug (L1 v0 v1 v5n v6 o0)=.ite (decide (v6<(length v0:Int))) (L2 v0 v1 v5n v6 0 0 o0) (.ite (decide (0+v5n≤length o0)&&true&&decide (length (take v5n o0)≤20000)) (.leaf (.dat (zg i64) (Ar (take v5n o0))) ([(0,.arr true 3 i64 o0)])) .fail):=by kernel_rfl
theorem A4(v0 v1:List Int)(v5n:Nat)(v6 v7 v8:Int)(o0:List Int):stepT Ug (L2 v0 v1 v5n v6 v7 v8 o0)=let c':=decide (0≤zc .i64 (v6+v8))&&decide (zc .i64 (v6+v8)<(↑v5n:Int));let d':=zc .i64 (v6+v8);let i':=(length v1:Int);let a':=zc .i64 (zc .i64 (getD o0 (toNat d') 0+zc .i64 (getD v0 (toNat v6) 0*getD v1 (toNat v8) 0))+v7);let b':=v6+i';let g':=decide (toNat d'<length o0);let e':=decide (0≤zc .i64 b')&&decide (zc .i64 b'<(↑v5n:Int));let f':=zc .i64 b';let h':=decide (toNat f'<length o0);.ite (decide (v8<i')) (.ite c' (.ite g' (.ite (decide (0≤v6)&&decide (v6<(length v0:Int))) (.ite (decide (0≤v8)&&decide (v8<i')) (.ite true (.ite c' (.ite g' (.ite true (L2 v0 v1 v5n v6 (zc .i64 (zO a' 1000000000)) (zc .i64 (v8+1)) (set o0 (toNat d') (zB a' 1000000000))) .fail) .fail) .fail) .fail) .fail) .fail) .fail) .fail) (.ite e' (.ite h' (.ite e' (.ite h' (L1 v0 v1 v5n (zc .i64 (v6+1)) (set o0 (toNat f') (zc .i64 (getD o0 (toNat f') 0+v7)))) .fail) .fail) .fail) .fail):=by kernel_rfl
end T172
namespace T226
def T(a:List Int)(d:Int):Tr:=tree Ug false 9 226 (Ah ([zg i64,ze zN]) (a,d))
def L1(v0:List Int)(v1:Int)(v6n:Nat)(v7 v8:Int)(o0:List Int):Tr:=re ((T [] 0).L) (AI 39 [(0,.dat (zg i64) v0),(1,.dat i64 v1),(6,.sl 0 1 0 v6n none),(7,.dat i64 v7),(8,.dat i64 v8)] [(0,.arr false 3 i64 o0)] 1)
theorem An(a:List Int)(d:Int):T a d=let a':=(length a:Int);.ite (decide (0≤a')&&decide (a'=a')&&decide (8*toNat a'≤281474976710656)&&decide (a'<9223372036854775808)) (L1 a d (toNat a') 0 (zc .i64 (a'-1)) (replicate (toNat a') 0)) .fail:=by kernel_rfl
theorem Au(v0:List Int)(v1:Int)(v6n:Nat)(v7 v8:Int)(o0:List Int):stepT Ug (L1 v0 v1 v6n v7 v8 o0)=let a':=zc .i64 (zc .i64 (v7*1000000000)+getD v0 (toNat v8) 0);.ite (decide (v8≥0)) (.ite (decide (0≤v8)&&decide (v8<(length v0:Int))) (.ite (decide (v1≠0)) (.ite (decide (0≤v8)&&decide (v8<(↑v6n:Int))) (.ite (decide (toNat v8<length o0)) (.ite (decide (v1≠0)) (L1 v0 v1 v6n (zB a' v1) (zc .i64 (v8-1)) (set o0 (toNat v8) (zc .i64 (zO a' v1)))) .fail) .fail) .fail) .fail) .fail) (.ite (decide (0+v6n≤length o0)&&true&&decide (length (take v6n o0)≤20000)) (.leaf (.tup [.dat (zg i64) (Ar (take v6n o0)),.dat i64 v7]) ([(0,.arr true 3 i64 o0)])) .fail):=by kernel_rfl
end T226
namespace T164
def T(a b:List Int):Tr:=tree KQ false 9 164 (Ah ([zg i64,zg i64]) (a,b))
def L1(v0:List Int)(v8n:Nat)(v9:List Int)(v10:Int)(v11n:Nat)(o1 o0:List Int):Tr:=re ((T [] []).L.R.R.L.L.L.L.L) (AI 206 [(0,.dat (zg i64) v0),(8,.sl 0 1 0 v8n none),(9,.dat (zg i64) v9),(10,.dat i64 v10),(11,.sl 1 1 0 v11n none)] [(1,.arr false 3 i64 o1),(0,.arr true 3 i64 o0)] 2)
theorem An(a b:List Int):T a b=let c':=(length b:Int);let e':=getD b (toNat (zc .i64 (c'-1))) 0+1;let a':=zO 1000000000 (zc .i64 e');let b':=Aq a*Aq [zc .i64 a'];let d':=BM (Aq b*Aq [zc .i64 a']);.ite (A3 a&&A3 b) (.ite (decide (BW (Aq a) (Aq b)<0)) (.leaf (.tup [.nil,.dat (zg i64) a]) []) (.ite (c'==1) (.ite (decide (0<c')) (.ite (Jc a&&decide (0<getD b 0 0)&&decide (getD b 0 0<1000000000)) (.ite (decide (1≤1)&&true&&decide (1≤20000)) (.leaf (.tup [.dat (zg i64) (BM (Aq a/getD b 0 0)),.dat (zg i64) (Ar [Aq a % getD b 0 0])]) ([(0,.arr true 3 i64 [Aq a % getD b 0 0])])) .fail) .fail) .fail) (.ite (decide (0≤zc .i64 (c'-1))&&decide (zc .i64 (c'-1)<c')) (.ite (decide (zc .i64 e'≠0)) (.ite (decide (1≤1)&&true&&(Sp.hR b&&Sp.hR [zc .i64 a'])) (.ite (decide (1≤1)&&true&&(Sp.hR a&&Sp.hR [zc .i64 a'])) (.ite (decide ((2*(0+length (BM b'))+1000)*8≤281474976710656)) (L1 a 1 d' ((↑(length d'):Int)) (zh 0 (length (BM b'))) ([]++BM b') ([zc .i64 a'])) .fail) .fail) .fail) .fail) .fail))) .fail:=by kernel_rfl
def L2(v8n:Nat)(v9:List Int)(v10:Int)(v11n v12n:Nat)(v13:Int)(o2 o1 o0:List Int):Tr:=re ((stepT KQ (L1 [] 0 [] 0 0 [] [])).R.L) (AI 206 [(8,.sl 0 1 0 v8n none),(9,.dat (zg i64) v9),(10,.dat i64 v10),(11,.sl 1 1 0 v11n none),(12,.sl 2 1 0 v12n none),(13,.dat i64 v13)] [(2,.arr false 3 i64 o2),(1,.arr false 3 i64 o1),(0,.arr true 3 i64 o0)] 3)
theorem Au(v0:List Int)(v8n:Nat)(v9:List Int)(v10:Int)(v11n:Nat)(o1 o0:List Int):stepT KQ (L1 v0 v8n v9 v10 v11n o1 o0)=let a':=(↑v11n:Int)-v10;let b':=zc .i64 a';.ite (decide ((↑v11n:Int)<zc .i64 ((length v0:Int)+1))) (.ite (decide (v11n=length o1)&&decide ((2*(v11n+1)+1000)*8≤281474976710656)) (L1 v0 v8n v9 v10 (zh v11n 1) (o1++[0]) o0) .fail) (.ite (decide (0≤zc .i64 a')&&decide (zc .i64 a'=zc .i64 a')&&decide (8*toNat b'≤281474976710656)&&decide (zc .i64 a'<9223372036854775808)) (L2 v8n v9 v10 v11n (toNat b') (zc .i64 (zc .i64 a'-1)) (replicate (toNat b') 0) o1 o0) .fail):=by kernel_rfl
def L3(v8n:Nat)(v9:List Int)(v10:Int)(v11n v12n:Nat)(v13:Int)(o2 o1 o0:List Int)(v0n:Nat)(v1:List Int)(v2 v7:Int)(v9':Int)(v10':Int)(o2':List Int)(o1':List Int)(o0':List Int):Tr:=re ((stepT KQ (L2 v8n v9 v10 v11n v12n v13 o2 o1 o0)).L.L.L.L.L.L.L.L.L) (AI 77 [(0,.sl 1 1 0 v0n none),(1,.dat (zg i64) v1),(2,.dat i64 v2),(7,.dat i64 v7),(9,.dat i64 v9'),(10,.dat i64 v10')] [(2,.arr false 3 i64 o2'),(1,.arr false 3 i64 o1'),(0,.arr true 3 i64 o0')] 3)
theorem A4(v8n:Nat)(v9:List Int)(v10:Int)(v11n v12n:Nat)(v13:Int)(o2 o1 o0:List Int):stepT KQ (L2 v8n v9 v10 v11n v12n v13 o2 o1 o0)=let a':=(length v9:Int);let f':=take (toNat v10) o1;let c':=toNat (zc .i64 (a'-1));let d':=zc .i64 (v13+a')-1;let e':=decide (0≤zc .i64 (a'-1))&&decide (zc .i64 (a'-1)<a');let g':=zc .i64 (v13+a');let b':=zc .i64 (zc .i64 (getD o1 (toNat g') 0*1000000000)+getD o1 (toNat (zc .i64 d')) 0);let h':=decide (getD v9 c' 0≠0);.ite (decide (v13≥0)) (.ite (decide (0≤zc .i64 (v13+a'))&&decide (zc .i64 (v13+a')<(↑v11n:Int))) (.ite (decide (toNat g'<length o1)) (.ite (decide (0≤zc .i64 d')&&decide (zc .i64 d'<(↑v11n:Int))) (.ite (decide (toNat (zc .i64 d')<length o1)) (.ite e' (.ite h' (.ite e' (.ite h' (L3 v8n v9 v10 v11n v12n v13 o2 o1 o0 v11n v9 v13 (a') (zc .i64 (zO b' (getD v9 c' 0))) (zB b' (getD v9 c' 0)) o2 o1 o0) .fail) .fail) .fail) .fail) .fail) .fail) .fail) .fail) (.ite (decide (0≤v10)&&true&&decide (0≤toNat v10)&&decide (toNat v10≤zA none v11n)&&decide (zA none v11n≤zA none v11n)&&true) (.ite (decide (0<(↑v8n:Int))) (.ite (decide (0<length o0)) (.ite (decide (0+toNat v10≤length o1)&&true&&decide (length f'≤20000)) (.ite (Jc (Ar f')&&decide (0<getD o0 0 0)&&decide (getD o0 0 0<1000000000)) (.ite (decide (0+v12n≤length o2)&&true&&decide (length (take v12n o2)≤20000)) (.leaf (.tup [.dat (zg i64) (Ar (take v12n o2)),.dat (zg i64) (BM (Aq (Ar f')/getD o0 0 0))]) ([(2,.arr true 3 i64 o2),(1,.arr true 3 i64 o1),(0,.arr true 3 i64 o0)])) .fail) .fail) .fail) .fail) .fail) .fail):=by kernel_rfl
def L4(v8n:Nat)(v9:List Int)(v10:Int)(v11n v12n:Nat)(v13 v14 v15 v16:Int)(o2 o1 o0:List Int):Tr:=re ((stepT KQ (L3 0 [] 0 0 0 0 [] [] [] 0 [] 0 0 0 0 [] [] [])).L.L.L) (AI 206 [(8,.sl 0 1 0 v8n none),(9,.dat (zg i64) v9),(10,.dat i64 v10),(11,.sl 1 1 0 v11n none),(12,.sl 2 1 0 v12n none),(13,.dat i64 v13),(14,.dat i64 v14),(15,.dat i64 v15),(16,.dat i64 v16)] [(2,.arr false 3 i64 o2),(1,.arr false 3 i64 o1),(0,.arr true 3 i64 o0)] 3)
theorem C9(v8n:Nat)(v9:List Int)(v10:Int)(v11n v12n:Nat)(v13:Int)(o2 o1 o0:List Int)(v0n:Nat)(v1:List Int)(v2 v7:Int)(v9':Int)(v10':Int)(o2':List Int)(o1':List Int)(o0':List Int):stepT KQ (L3 v8n v9 v10 v11n v12n v13 o2 o1 o0 v0n v1 v2 v7 v9' v10' o2' o1' o0')=let b':=zc .i64 (v2+v7)-2;let c':=v10'+getD v1 (toNat (zc .i64 (v7-1))) 0;let d':=zc .i64 (v9'-1);let a':Tr:=.ite (decide (0≤zc .i64 (v7-1))&&decide (zc .i64 (v7-1)<(length v1:Int))) (.ite (decide (zc .i64 c'≥1000000000)) (L4 v8n v9 v10 v11n v12n v13 d' 0 0 o2' o1' o0') (L3 v8n v9 v10 v11n v12n v13 o2 o1 o0 v0n v1 v2 v7 d' (zc .i64 c') o2' o1' o0')) .fail;.ite (decide (v9'≥1000000000)) a' (.ite (decide (0≤zc .i64 (v7-2))&&decide (zc .i64 (v7-2)<(length v1:Int))) (.ite (decide (0≤zc .i64 b')&&decide (zc .i64 b'<(↑v0n:Int))) (.ite (decide (toNat (zc .i64 b')<length o1')) (.ite (decide (zc .i64 (v9'*getD v1 (toNat (zc .i64 (v7-2))) 0)>zc .i64 (zc .i64 (v10'*1000000000)+getD o1' (toNat (zc .i64 b')) 0))) a' (L4 v8n v9 v10 v11n v12n v13 v9' 0 0 o2' o1' o0')) .fail) .fail) .fail):=by kernel_rfl
def L5(v8n:Nat)(v9:List Int)(v10:Int)(v11n v12n:Nat)(v13 v14 v19 v20:Int)(o2 o1 o0:List Int):Tr:=re ((stepT KQ (L4 0 [] 0 0 0 0 0 0 0 [] [] [])).R.L.L.L.L.L.L.L) (AI 206 [(8,.sl 0 1 0 v8n none),(9,.dat (zg i64) v9),(10,.dat i64 v10),(11,.sl 1 1 0 v11n none),(12,.sl 2 1 0 v12n none),(13,.dat i64 v13),(14,.dat i64 v14),(19,.dat i64 v19),(20,.dat i64 v20)] [(2,.arr false 3 i64 o2),(1,.arr false 3 i64 o1),(0,.arr true 3 i64 o0)] 3)
theorem Dp(v8n:Nat)(v9:List Int)(v10:Int)(v11n v12n:Nat)(v13 v14 v15 v16:Int)(o2 o1 o0:List Int):stepT KQ (L4 v8n v9 v10 v11n v12n v13 v14 v15 v16 o2 o1 o0)=let c':=decide (0≤zc .i64 (v16+v13))&&decide (zc .i64 (v16+v13)<(↑v11n:Int));let d':=decide (0≤zc .i64 (v13+v10))&&decide (zc .i64 (v13+v10)<(↑v11n:Int));let e':=zc .i64 (zc .i64 (v14*getD v9 (toNat v16) 0)+v15);let f':=zc .i64 (v16+v13);let g':=zc .i64 (v13+v10);let j':=zc .i64 (v16+1);let a':=set o1 (toNat g') (zc .i64 (getD o1 (toNat g') 0-v15));let b':=getD o1 (toNat f') 0-zB e' 1000000000;let h':=decide (toNat f'<length o1);let i':=decide (toNat g'<length o1);let k':=zO e' 1000000000;.ite (decide (v16<v10)) (.ite (decide (0≤v16)&&decide (v16<(length v9:Int))) (.ite c' (.ite h' (.ite true (.ite true (.ite (decide (zc .i64 b'<0)) (.ite c' (.ite h' (L4 v8n v9 v10 v11n v12n v13 v14 (zc .i64 (zc .i64 k'+1)) j' o2 (set o1 (toNat f') (zc .i64 (zc .i64 b'+1000000000))) o0) .fail) .fail) (.ite c' (.ite h' (L4 v8n v9 v10 v11n v12n v13 v14 (zc .i64 k') j' o2 (set o1 (toNat f') (zc .i64 b')) o0) .fail) .fail)) .fail) .fail) .fail) .fail) .fail) (.ite d' (.ite i' (.ite d' (.ite i' (.ite d' (.ite (decide (toNat g'<length a')) (.ite (decide (getD a' (toNat g') 0<0)) (L5 v8n v9 v10 v11n v12n v13 (zc .i64 (v14-1)) 0 0 o2 a' o0) (.ite (decide (0≤v13)&&decide (v13<(↑v12n:Int))) (.ite (decide (toNat v13<length o2)) (L2 v8n v9 v10 v11n v12n (zc .i64 (v13-1)) (set o2 (toNat v13) v14) a' o0) .fail) .fail)) .fail) .fail) .fail) .fail) .fail) .fail):=by kernel_rfl
theorem Gk(v8n:Nat)(v9:List Int)(v10:Int)(v11n v12n:Nat)(v13 v14 v19 v20:Int)(o2 o1 o0:List Int):stepT KQ (L5 v8n v9 v10 v11n v12n v13 v14 v19 v20 o2 o1 o0)=let b':=decide (0≤zc .i64 (v20+v13))&&decide (zc .i64 (v20+v13)<(↑v11n:Int));let c':=decide (0≤zc .i64 (v13+v10))&&decide (zc .i64 (v13+v10)<(↑v11n:Int));let d':=zc .i64 (v20+v13);let e':=zc .i64 (v13+v10);let a':=zc .i64 (zc .i64 (getD o1 (toNat d') 0+getD v9 (toNat v20) 0)+v19);let f':=decide (toNat d'<length o1);let g':=decide (toNat e'<length o1);.ite (decide (v20<v10)) (.ite b' (.ite f' (.ite (decide (0≤v20)&&decide (v20<(length v9:Int))) (.ite true (.ite b' (.ite f' (.ite true (L5 v8n v9 v10 v11n v12n v13 v14 (zc .i64 (zO a' 1000000000)) (zc .i64 (v20+1)) o2 (set o1 (toNat d') (zB a' 1000000000)) o0) .fail) .fail) .fail) .fail) .fail) .fail) .fail) (.ite c' (.ite g' (.ite c' (.ite g' (.ite (decide (0≤v13)&&decide (v13<(↑v12n:Int))) (.ite (decide (toNat v13<length o2)) (L2 v8n v9 v10 v11n v12n (zc .i64 (v13-1)) (set o2 (toNat v13) v14) (set o1 (toNat e') (zc .i64 (getD o1 (toNat e') 0+v19))) o0) .fail) .fail) .fail) .fail) .fail) .fail):=by kernel_rfl
end T164
namespace T92
def T(a b:List Int):Tr:=tree rG false 9 92 (Ah ([zg i64,zg i64]) (a,b))
def L1(v0 v1:List Int):Tr:=re ((T [] [])) (AI 19 [(0,.dat (zg i64) v0),(1,.dat (zg i64) v1)] [] 0)
theorem An(a b:List Int):T a b=L1 a b:=by kernel_rfl
theorem Au(v0 v1:List Int):stepT rG (L1 v0 v1)=.ite (decide ((length v1:Int)>0)) (.ite (A3 v0&&A3 v1&&decide (length v0≤9000)&&decide (length v1≤9000)&&decide (0<Aq v1)) (L1 v1 (BM (Aq v0 % Aq v1))) .fail) (.leaf (.dat (zg i64) v0) []):=by kernel_rfl
end T92
namespace T165
def T(s:List UInt8):Tr:=tree XX false 9 165 (Ah ([zj]) s)
def L1(v0:List UInt8)(v3 v4:Int):Tr:=re ((T [])) (AI 20 [(0,.dat zj v0),(3,.dat i64 v3),(4,.dat i64 v4)] [] 0)
theorem An(s:List UInt8):T s=L1 s 0 0:=by kernel_rfl
theorem Au(v0:List UInt8)(v3 v4:Int):stepT XX (L1 v0 v3 v4)=let a':=decide (v4<(length v0:Int));.ite (a') (.ite (decide (0≤v4)&&a') (L1 v0 (zc .i64 (zc .i64 (zc .i64 (10*v3)+zc .i64 (↑(zk (getD v0 (toNat v4) (0:UInt8))):Int))-48)) (zc .i64 (v4+1))) .fail) (.leaf (.dat i64 v3) []):=by kernel_rfl
end T165
namespace T163
def T(s:List UInt8):Tr:=tree XQ false 9 163 (Ah ([zj]) s)
def L1(v0:List UInt8)(v3:Bool):Tr:=re ((T []).L.L.L.L) (AI 40 [(0,.dat zj v0),(2,.ptr 0 0),(3,.dat zi v3),(4,.nil)] [(0,.box [.bl false,.nil])] 1)
def L2(v0:List UInt8):Tr:=re ((T []).R) (AI 40 [(0,.dat zj v0),(2,.ptr 0 0),(3,.bl false),(4,.nil)] [(0,.box [.bl false,.nil])] 1)
theorem An(s:List UInt8):T s=let a':=(↑(zk (getD s 0 (0:UInt8))):Int)==45;.ite (decide ((length s:Int)>0)) (.ite (decide (0<(length s:Int))) (.ite a' (.ite (decide (1≤length s)&&decide (length s≤length s)) (L1 (take (zy (length s) 1) (drop 1 s)) a') .fail) (L1 s a')) .fail) (L2 s):=by kernel_rfl
def L3(v0:List UInt8)(v3:Bool)(v4n:Nat)(o1:List Int):Tr:=re ((stepT XQ (L1 [] false)).L.L.L.L.L) (AI 40 [(0,.dat zj v0),(2,.ptr 0 0),(3,.dat zi v3),(4,.sl 1 1 0 v4n none)] [(1,.arr false 3 i64 o1),(0,.box [.bl false,.nil])] 2)
theorem Au(v0:List UInt8)(v3:Bool):stepT XQ (L1 v0 v3)=let b':=decide (1≤1)&&decide (0<1)&&decide ((2*1+1000)*8≤281474976710656);let e':=(length v0:Int);let g':=B5 v3 [Bu v0];let h':=Ar [Bu v0];let a':=zc .i64 (e'-9);let d':=decide (0≤zc .i64 (e'-9));let c':=take (zy (length v0) (toNat a')) (drop (toNat a') v0);let f':=decide (toNat a'≤length v0);.ite (decide (e'>9)) (.ite (d'&&true&&f'&&decide (length v0≤length v0)) (.ite (Dz c') (.ite b' (.ite (d'&&decide (0≤toNat a')&&f') (L3 (take (toNat a') v0) v3 1 ([Bu c'])) .fail) .fail) .fail) .fail) (.ite (Dz v0) (.ite b' (.ite (decide (0+1≤1)&&true&&decide (1≤20000)) (.leaf (zp [.dat zi g',.dat (zg i64) h']) ([(zh 1 1,.arr true 3 i64 [Bu v0]),(1,.arr false 3 i64 [Bu v0]),(0,.box [.dat zi g',.dat (zg i64) h'])])) .fail) .fail) .fail):=by kernel_rfl
def L4(v0:List UInt8)(v4n:Nat)(o1:List Int):Tr:=re ((stepT XQ (L2 [])).L.L.L.L.L) (AI 40 [(0,.dat zj v0),(2,.ptr 0 0),(3,.bl false),(4,.sl 1 1 0 v4n none)] [(1,.arr false 3 i64 o1),(0,.box [.bl false,.nil])] 2)
theorem A4(v0:List UInt8):stepT XQ (L2 v0)=let b':=decide (1≤1)&&decide (0<1)&&decide ((2*1+1000)*8≤281474976710656);let e':=B5 false [Bu v0];let f':=(length v0:Int);let h':=Ar [Bu v0];let a':=zc .i64 (f'-9);let d':=decide (0≤zc .i64 (f'-9));let c':=take (zy (length v0) (toNat a')) (drop (toNat a') v0);let g':=decide (toNat a'≤length v0);.ite (decide (f'>9)) (.ite (d'&&true&&g'&&decide (length v0≤length v0)) (.ite (Dz c') (.ite b' (.ite (d'&&decide (0≤toNat a')&&g') (L4 (take (toNat a') v0) 1 ([Bu c'])) .fail) .fail) .fail) .fail) (.ite (Dz v0) (.ite b' (.ite (decide (0+1≤1)&&true&&decide (1≤20000)) (.leaf (zp [.dat zi e',.dat (zg i64) h']) ([(zh 1 1,.arr true 3 i64 [Bu v0]),(1,.arr false 3 i64 [Bu v0]),(0,.box [.dat zi e',.dat (zg i64) h'])])) .fail) .fail) .fail):=by kernel_rfl
theorem C9(v0:List UInt8)(v3:Bool)(v4n:Nat)(o1:List Int):stepT XQ (L3 v0 v3 v4n o1)=let c':=decide (1≤1)&&true&&decide (v4n=length o1)&&decide ((2*(v4n+1)+1000)*8≤281474976710656);let f':=o1++[Bu v0];let g':=(length v0:Int);let a':=zc .i64 (g'-9);let b':=take (zh v4n 1) f';let e':=decide (0≤zc .i64 (g'-9));let d':=take (zy (length v0) (toNat a')) (drop (toNat a') v0);let h':=decide (toNat a'≤length v0);.ite (decide (g'>9)) (.ite (e'&&true&&h'&&decide (length v0≤length v0)) (.ite (Dz d') (.ite c' (.ite (e'&&decide (0≤toNat a')&&h') (L3 (take (toNat a') v0) v3 (zh v4n 1) (o1++[Bu d'])) .fail) .fail) .fail) .fail) (.ite (Dz v0) (.ite c' (.ite (decide (0+zh v4n 1≤length f')&&true&&decide (length b'≤20000)) (.leaf (zp [.dat zi (B5 v3 b'),.dat (zg i64) (Ar b')]) ([(zh 2 1,.arr true 3 i64 f'),(2,.arr false 3 i64 [Bu v0]),(0,.box [.dat zi (B5 v3 b'),.dat (zg i64) (Ar b')])])) .fail) .fail) .fail):=by kernel_rfl
theorem Dp(v0:List UInt8)(v4n:Nat)(o1:List Int):stepT XQ (L4 v0 v4n o1)=let c':=decide (1≤1)&&true&&decide (v4n=length o1)&&decide ((2*(v4n+1)+1000)*8≤281474976710656);let f':=o1++[Bu v0];let g':=(length v0:Int);let a':=zc .i64 (g'-9);let b':=take (zh v4n 1) f';let e':=decide (0≤zc .i64 (g'-9));let d':=take (zy (length v0) (toNat a')) (drop (toNat a') v0);let h':=decide (toNat a'≤length v0);.ite (decide (g'>9)) (.ite (e'&&true&&h'&&decide (length v0≤length v0)) (.ite (Dz d') (.ite c' (.ite (e'&&decide (0≤toNat a')&&h') (L4 (take (toNat a') v0) (zh v4n 1) (o1++[Bu d'])) .fail) .fail) .fail) .fail) (.ite (Dz v0) (.ite c' (.ite (decide (0+zh v4n 1≤length f')&&true&&decide (length b'≤20000)) (.leaf (zp [.dat zi (B5 false b'),.dat (zg i64) (Ar b')]) ([(zh 2 1,.arr true 3 i64 f'),(2,.arr false 3 i64 [Bu v0]),(0,.box [.dat zi (B5 false b'),.dat (zg i64) (Ar b')])])) .fail) .fail) .fail):=by kernel_rfl
end T163
end
end Go.Pe
end
section
namespace Go.Pe
open Sp
open Go.Det
noncomputable section
open List Int Prod
namespace T105n
def T(n:Int):Tr:=tree vP false 9 105 (Ah ([ze zN]) n)
theorem An(n:Int):T n=.leaf (zp [.dat i64 n,.nil]) ([(0,.box [.dat i64 n,.nil])]):=by kernel_rfl
end T105n
namespace T176
def T(a b:Int×List Int):Tr:=tree qH false 9 176 (Ah ([zl i64 (zf (ze zd)),zl i64 (zf (ze zd))]) (a,b))
def L1(v8:Bool)(v12 v13:List Int)(o2 o1 o0:Int)(o0_1:List Int):Tr:=re ((T (0,[]) (0,[])).L.L.R.L.L.L) (AI 84 [(3,.ptr 0 0),(4,.ptr 1 0),(5,.ptr 2 0),(8,.dat zi v8),(12,.dat (zg (ze zd)) v12),(13,.dat (zg (ze zd)) v13)] [(2,.box [.dat i64 o2,.nil]),(1,.box [.dat i64 o1,.nil]),(0,.box [.dat i64 o0,.dat (zf (ze zd)) o0_1])] 3)
theorem An(a b:Int×List Int):T a b=let b':=zf (ze zd);let c':=Bp (Ag (zY (fst a,snd a)));let d':=Bp (Ag (zY (fst b,snd b)));let e':=zO (fst a) (fst b);let f':=zc .i64 (zB (fst a) (fst b)+fst b);let h':=zB (fst a) (fst b);let i':=zh (zh 0 1) 1;let a':Tr:=.ite (De (fst a,snd a)) (.ite (De (fst b,snd b)) (.ite (QN c' d') (L1 (decide (zY (fst a,snd a)<0)) (Bp (Al c'/Al d')) (Bp (Al c' % Al d')) 0 0 (fst b) (snd b)) .fail) .fail) .fail;let g':=zc .i64 (zc .i64 e'-1);.ite (!decide (0<length (snd a))) (.ite (!decide (0<length (snd b))) (.ite (fst a !=(-9223372036854775808)) (.ite (decide (fst b≠0)) (.ite (decide (fst b≠0)) (.ite (decide (zB (fst a) (fst b)<0)) (.leaf (.tup [zp [.dat i64 g',.nil],zp [.dat i64 f',.nil]]) ([(zh i' 1,.box [.dat i64 f',.nil]),(zh (zh 0 1) 1,.box [.dat i64 g',.nil]),(zh 0 1,.box [.dat i64 (fst b),.dat b' (snd b)]),(0,.box [.dat i64 (fst a),.dat b' (snd a)])])) (.leaf (.tup [zp [.dat i64 (zc .i64 e'),.nil],zp [.dat i64 h',.nil]]) ([(zh i' 1,.box [.dat i64 h',.nil]),(zh (zh 0 1) 1,.box [.dat i64 (zc .i64 e'),.nil]),(zh 0 1,.box [.dat i64 (fst b),.dat b' (snd b)]),(0,.box [.dat i64 (fst a),.dat b' (snd a)])]))) .fail) .fail) a') a') a':=by kernel_rfl
def L2(o4:Int)(o4_1:List Int)(o3:Int)(o3_1:List Int)(o2 o1 o0:Int)(o0_1:List Int):Tr:=re ((stepT qH (L1 false [] [] 0 0 0 [])).L.L) (AI 84 [(3,.ptr 0 0),(4,.ptr 1 0),(5,.ptr 2 0),(14,.ptr 3 0),(15,.ptr 4 0)] [(4,.box [.dat i64 o4,.dat (zf (ze zd)) o4_1]),(3,.box [.dat i64 o3,.dat (zf (ze zd)) o3_1]),(2,.box [.dat i64 o2,.nil]),(1,.box [.dat i64 o1,.nil]),(0,.box [.dat i64 o0,.dat (zf (ze zd)) o0_1])] 5)
theorem Au(v8:Bool)(v12 v13:List Int)(o2 o1 o0:Int)(o0_1:List Int):stepT qH (L1 v8 v12 v13 o2 o1 o0 o0_1)=let a':=Sp.sg v8 (Al v13);let b':=Sp.sg v8 (Al v12);.ite (B1 v12) (.ite (B1 v13) (L2 (Cn a') (Cm a') (Cn b') (Cm b') o2 o1 o0 o0_1) .fail) .fail:=by kernel_rfl
theorem A4(o4:Int)(o4_1:List Int)(o3:Int)(o3_1:List Int)(o2 o1 o0:Int)(o0_1:List Int):stepT qH (L2 o4 o4_1 o3 o3_1 o2 o1 o0 o0_1)=let a':=zf (ze zd);let b':=dG (o3,o3_1) (1,Dw 1);let c':=Z9 (o3,o3_1) (1,Dw 1);let d':=H3 (o4,o4_1) (o0,o0_1);let e':=HF (o4,o4_1) (o0,o0_1);.ite (De (o4,o4_1)) (.ite (decide (Hf (o4,o4_1)<0)) (.ite true (.ite (A8 (o3,o3_1)&&A8 (1,Dw 1)) (.ite (A8 (o4,o4_1)&&A8 (o0,o0_1)) (.leaf (.tup [zp [.dat i64 b',.dat a' c'],zp [.dat i64 d',.dat a' e']]) ([(4,.box [.dat i64 d',.dat a' e']),(3,.box [.dat i64 b',.dat a' c']),(2,.box [.dat i64 d',.dat a' e']),(1,.box [.dat i64 b',.dat a' c']),(0,.box [.dat i64 o0,.dat a' o0_1])])) .fail) .fail) .fail) (.leaf (.tup [zp [.dat i64 o3,.dat a' o3_1],zp [.dat i64 o4,.dat a' o4_1]]) ([(4,.box [.dat i64 o4,.dat a' o4_1]),(3,.box [.dat i64 o3,.dat a' o3_1]),(2,.box [.dat i64 o4,.dat a' o4_1]),(1,.box [.dat i64 o3,.dat a' o3_1]),(0,.box [.dat i64 o0,.dat a' o0_1])]))) .fail:=by kernel_rfl
end T176
namespace T152
def T(a b:Int×List Int):Tr:=tree rI false 9 152 (Ah ([zl i64 (zf (ze zd)),zl i64 (zf (ze zd))]) (a,b))
def L1(o2 o1:Int)(o1_1:List Int)(o0:Int)(o0_1:List Int):Tr:=re ((T (0,[]) (0,[])).L.L) (AI 23 [(2,.ptr 0 0),(3,.ptr 1 0),(4,.ptr 2 0)] [(2,.box [.dat i64 o2,.nil]),(1,.box [.dat i64 o1,.dat (zf (ze zd)) o1_1]),(0,.box [.dat i64 o0,.dat (zf (ze zd)) o0_1])] 3)
theorem An(a b:Int×List Int):T a b=.ite (De (fst a,snd a)) (.ite (De (fst b,snd b)) (L1 0 (OS (fst b,snd b)) (NM (fst b,snd b)) (OS (fst a,snd a)) (NM (fst a,snd a))) .fail) .fail:=by kernel_rfl
theorem Au(o2 o1:Int)(o1_1:List Int)(o0:Int)(o0_1:List Int):stepT rI (L1 o2 o1 o1_1 o0 o0_1)=let a':=zf (ze zd);.ite (De (o1,o1_1)) (.ite (Hf (o1,o1_1) !=0) (.ite (A8 (o0,o0_1)&&A8 (o1,o1_1)&&decide (0<zY (o1,o1_1))) (L1 o2 (Td (o0,o0_1) (o1,o1_1)) (SW (o0,o0_1) (o1,o1_1)) o1 o1_1) .fail) (.leaf (zp [.dat i64 o0,.dat a' o0_1]) ([(2,.box [.dat i64 o0,.dat a' o0_1]),(1,.box [.dat i64 o1,.dat a' o1_1]),(0,.box [.dat i64 o0,.dat a' o0_1])]))) .fail:=by kernel_rfl
end T152
namespace T216
def T(a:Int×List Int)(k:Int):Tr:=tree pJ false 9 216 (Ah ([zl i64 (zf (ze zd)),ze zN]) (a,k))
def L1(v1 o2:Int)(o2_1:List Int)(o1 o0:Int)(o0_1:List Int):Tr:=re ((T (0,[]) 0).L) (AI 23 [(1,.dat i64 v1),(2,.ptr 0 0),(4,.ptr 1 0),(5,.ptr 2 0)] [(2,.box [.dat i64 o2,.dat (zf (ze zd)) o2_1]),(1,.box [.dat i64 o1,.nil]),(0,.box [.dat i64 o0,.dat (zf (ze zd)) o0_1])] 3)
theorem An(a:Int×List Int)(k:Int):T a k=.ite true (L1 k 1 (Dw 1) 0 (fst a) (snd a)) .fail:=by kernel_rfl
theorem Au(v1 o2:Int)(o2_1:List Int)(o1 o0:Int)(o0_1:List Int):stepT pJ (L1 v1 o2 o2_1 o1 o0 o0_1)=let a':=zf (ze zd);let b':=Int.fdiv v1 (2^1);let c':=A8 (o0,o0_1)&&A8 (o0,o0_1);let d':=Ex (o2,o2_1) (o0,o0_1);let e':=Ew (o2,o2_1) (o0,o0_1);let f':=Ex (o0,o0_1) (o0,o0_1);let g':=Ew (o0,o0_1) (o0,o0_1);.ite (decide (v1>0)) (.ite (G5 zN v1 1==1) (.ite (A8 (o2,o2_1)&&A8 (o0,o0_1)) (.ite (decide (v1>1)) (.ite c' (.ite true (L1 b' d' e' o1 f' g') .fail) .fail) (.ite true (L1 b' d' e' o1 o0 o0_1) .fail)) .fail) (.ite (decide (v1>1)) (.ite c' (.ite true (L1 b' o2 o2_1 o1 f' g') .fail) .fail) (.ite true (L1 b' o2 o2_1 o1 o0 o0_1) .fail))) (.leaf (zp [.dat i64 o2,.dat a' o2_1]) ([(2,.box [.dat i64 o2,.dat a' o2_1]),(1,.box [.dat i64 o2,.dat a' o2_1]),(0,.box [.dat i64 o0,.dat a' o0_1])])):=by kernel_rfl
end T216
end
end Go.Pe
end
section
namespace Go.Pe
open Sp
open Go.Det
noncomputable section
open List Int Prod
namespace T230
def T(a b:List Int):Tr:=tree Ic false 9 230 (Ah ([zg (ze zd),zg (ze zd)]) (a,b))
def L1(v0 v1:List Int)(v6n:Nat)(v7 v8:Int)(o0:List Int):Tr:=re ((T [] []).L.R.L.L) (AI 137 [(0,.dat (zg (ze zd)) v0),(1,.dat (zg (ze zd)) v1),(6,.sl 0 1 0 v6n none),(7,.dat (ze zd) v7),(8,.dat i64 v8)] [(0,.arr false 130 (ze zd) o0)] 1)
def L2(a b:List Int)(v1:Int)(v5n:Nat)(v12:List Int)(v13 v14:Int)(o0:List Int):Tr:=re ((T a b).L.R.R.L.L.L) (AI 40 [(1,.dat i64 v1),(5,.sl 0 1 0 v5n none),(12,.dat (zg (ze zd)) v12),(13,.dat i64 v13),(14,.dat i64 v14)] [(0,.arr false 130 (ze zd) o0)] 1)
theorem An(a b:List Int):T a b=let a':=(length b:Int);let b':=(length a:Int);let c':=zc .i64 (a'+1);let d':=getD b (toNat (zc .i64 (a'-1))) 0;.ite (B1 a&&B1 b) (.ite (decide (BW (Al a) (Al b)<0)) (.leaf (.tup [.nil,.dat (zg (ze zd)) a]) []) (.ite (a'==1) (.ite (decide (0≤b')&&decide (b'=b')&&decide (8*toNat b'≤281474976710656)&&decide (b'<9223372036854775808)) (L1 a b (toNat b') 0 (zc .i64 (b'-1)) (replicate (toNat b') 0)) .fail) (.ite (decide (0≤zc .i64 (a'-1))&&decide (zc .i64 (a'-1)<a')) (.ite (zu d') (.ite (decide (0≤zc .i64 (a'+1))&&decide (zc .i64 (a'+1)=zc .i64 (a'+1))&&decide (8*toNat c'≤281474976710656)&&decide (zc .i64 (a'+1)<9223372036854775808)) (L2 a b (Sp.lz d') (toNat c') b (a') 0 (replicate (toNat c') 0)) .fail) .fail) .fail))) .fail:=by kernel_rfl
theorem Au(v0 v1:List Int)(v6n:Nat)(v7 v8:Int)(o0:List Int):stepT Ic (L1 v0 v1 v6n v7 v8 o0)=let a':=ze zd;let b':=getD v0 (toNat v8) 0;.ite (decide (v8≥0)) (.ite (decide (0≤v8)&&decide (v8<(length v0:Int))) (.ite (decide (0<(length v1:Int))) (.ite (zu v7&&zu b'&&zu (getD v1 0 0)&&decide (v7<getD v1 0 0)) (.ite (decide (0≤v8)&&decide (v8<(↑v6n:Int))) (.ite (decide (toNat v8<length o0)) (L1 v0 v1 v6n (Sp.dr v7 b' (getD v1 0 0)) (zc .i64 (v8-1)) (set o0 (toNat v8) (Sp.dq v7 b' (getD v1 0 0)))) .fail) .fail) .fail) .fail) .fail) (.ite (decide (0+v6n≤length o0)&&true&&Cv (take v6n o0)) (.ite (decide (1≤1)&&true&&Cv [v7]) (.leaf (.tup [.dat (zg a') (Ar (take v6n o0)),.dat (zg a') (Ar [v7])]) ([(1,.arr true 130 a' [v7]),(0,.arr true 130 a' o0)])) .fail) .fail):=by kernel_rfl
def L3(a b:List Int)(v1:Int)(v5n:Nat)(v12:List Int)(v13 v14:Int)(o0:List Int)(v1':Int)(v5n':Nat)(v12':List Int)(v13':Int)(v14':Int)(o1:List Int)(o0':List Int):Tr:=re ((stepT Ic (L2 a b v1 v5n v12 v13 v14 o0)).R.L.L) (AI 40 [(1,.dat i64 v1'),(5,.sl 1 1 0 v5n' none),(12,.dat (zg (ze zd)) v12'),(13,.dat i64 v13'),(14,.dat i64 v14')] [(1,.arr false 130 (ze zd) o1),(0,.arr true 130 (ze zd) o0')] 2)
theorem A4(a b:List Int)(v1:Int)(v5n:Nat)(v12:List Int)(v13 v14:Int)(o0:List Int):stepT Ic (L2 a b v1 v5n v12 v13 v14 o0)=let a':=set o0 (toNat v14) (XW zd (getD o0 (toNat v14) 0) (zc .u64 (getD v12 (toNat v14) 0*2^zU (toNat v1) 64)));let b':=(length a:Int)+1;let c':=zc .i64 (v14+1);let e':=decide (0≤v14)&&decide (v14<(↑v5n:Int));let f':=decide (toNat v14<length o0);let d':=zc .i64 b';.ite (decide (v14<v13)) (.ite (decide (0≤v14)&&decide (v14<(length v12:Int))) (.ite e' (.ite f' (.ite (decide (0≤v1)) (.ite e' (.ite f' (.ite (decide (v1>0)) (.ite (decide (0≤zc .i64 (64-v1))) (.ite (decide (0≤zc .i64 (v14+1))&&decide (zc .i64 (v14+1)<(↑v5n:Int))) (.ite (decide (toNat c'<length a')) (L2 a b v1 v5n v12 v13 c' (set a' (toNat c') (Int.fdiv (getD v12 (toNat v14) 0) (2^zU (toNat (zc .i64 (64-v1))) 64)))) .fail) .fail) .fail) (L2 a b v1 v5n v12 v13 c' a')) .fail) .fail) .fail) .fail) .fail) .fail) (.ite (decide (0+v5n≤length o0)&&true&&Cv (take v5n o0)) (.ite (decide (0≤zc .i64 b')&&decide (zc .i64 b'=zc .i64 b')&&decide (8*toNat d'≤281474976710656)&&decide (zc .i64 b'<9223372036854775808)) (L3 a b v1 v5n v12 v13 v14 o0 (Sp.lz (getD b (toNat (zc .i64 ((length b:Int)-1))) 0)) (toNat d') a ((length a:Int)) 0 (replicate (toNat d') 0) o0) .fail) .fail):=by kernel_rfl
def L4(v9:Int)(v10:List Int)(v11n:Nat)(v12:Int)(v13n:Nat)(v14:Int)(o1 o0:List Int):Tr:=re ((stepT Ic (L3 [] [] 0 0 [] 0 0 [] 0 0 [] 0 0 [] [])).R.L) (AI 137 [(9,.dat i64 v9),(10,.dat (zg (ze zd)) v10),(11,.sl 0 1 0 v11n none),(12,.dat i64 v12),(13,.sl 1 1 0 v13n none),(14,.dat i64 v14)] [(1,.arr false 130 (ze zd) o1),(0,.arr false 130 (ze zd) o0)] 2)
theorem C9(a b:List Int)(v1:Int)(v5n:Nat)(v12:List Int)(v13 v14:Int)(o0:List Int)(v1':Int)(v5n':Nat)(v12':List Int)(v13':Int)(v14':Int)(o1:List Int)(o0':List Int):stepT Ic (L3 a b v1 v5n v12 v13 v14 o0 v1' v5n' v12' v13' v14' o1 o0')=let b':=set o1 (toNat v14') (XW zd (getD o1 (toNat v14') 0) (zc .u64 (getD v12' (toNat v14') 0*2^zU (toNat v1') 64)));let c':=zc .i64 (v14'+1);let e':=decide (0≤v14')&&decide (v14'<(↑v5n':Int));let g':=decide (toNat v14'<length o1);let h':=Ar (take v5n o0);let d':=(↑(length h'):Int);let a':=zc .i64 ((length a:Int)-d')+1;let f':=zc .i64 a';.ite (decide (v14'<v13')) (.ite (decide (0≤v14')&&decide (v14'<(↑(length v12'):Int))) (.ite e' (.ite g' (.ite (decide (0≤v1')) (.ite e' (.ite g' (.ite (decide (v1'>0)) (.ite (decide (0≤zc .i64 (64-v1'))) (.ite (decide (0≤zc .i64 (v14'+1))&&decide (zc .i64 (v14'+1)<(↑v5n':Int))) (.ite (decide (toNat c'<length b')) (L3 a b v1 v5n v12 v13 v14 o0 v1' v5n' v12' v13' c' (set b' (toNat c') (Int.fdiv (getD v12' (toNat v14') 0) (2^zU (toNat (zc .i64 (64-v1'))) 64))) o0') .fail) .fail) .fail) (L3 a b v1 v5n v12 v13 v14 o0 v1' v5n' v12' v13' c' b' o0')) .fail) .fail) .fail) .fail) .fail) .fail) (.ite (decide (0≤zc .i64 a')&&decide (zc .i64 a'=zc .i64 a')&&decide (8*toNat f'≤281474976710656)&&decide (zc .i64 a'<9223372036854775808)) (L4 (Sp.lz (getD b (toNat (zc .i64 ((length b:Int)-1))) 0)) h' v5n' (d') (toNat f') (zc .i64 ((length a:Int)-d')) (replicate (toNat f') 0) o1) .fail):=by kernel_rfl
def L5(v9:Int)(v10:List Int)(v11n:Nat)(v12:Int)(v13n:Nat)(v14:Int)(o1 o0:List Int)(v0o v0n v0c:Nat)(v1:List Int)(v5 v6 v7 v8:Int)(o1':List Int)(o0':List Int):Tr:=re ((stepT Ic (L4 v9 v10 v11n v12 v13n v14 o1 o0)).L.L.L.L.L.L.L.L.L.L) (AI 186 [(0,.sl 0 1 v0o v0n (Option.some v0c)),(1,.dat (zg (ze zd)) v1),(5,.dat i64 v5),(6,.dat (ze zd) v6),(7,.dat (ze zd) v7),(8,.dat (ze zd) v8)] [(1,.arr false 130 (ze zd) o1'),(0,.arr false 130 (ze zd) o0')] 2)
def L6(v9:Int)(v11n:Nat)(v12:Int)(v13n:Nat)(v96 v97:Int)(o1 o0:List Int):Tr:=re ((stepT Ic (L4 0 [] 0 0 0 0 [] [])).R) (AI 137 [(9,.dat i64 v9),(11,.sl 0 1 0 v11n none),(12,.dat i64 v12),(13,.sl 1 1 0 v13n none),(96,.dat i64 v96),(97,.dat i64 v97)] [(1,.arr false 130 (ze zd) o1),(0,.arr false 130 (ze zd) o0)] 2)
theorem Dp(v9:Int)(v10:List Int)(v11n:Nat)(v12:Int)(v13n:Nat)(v14:Int)(o1 o0:List Int):stepT Ic (L4 v9 v10 v11n v12 v13n v14 o1 o0)=let c':=(length v10:Int);let d':=zh 0 (toNat v14);let k':=zy (zA none v11n) (toNat v14);let p':=zc .i64 (v14+v12)+1;let a':=toNat (zc .i64 (c'-1));let g':=zc .i64 p';let h':=zh (toNat c') d';let l':=decide (zh (toNat c') d'<length o0);let n':=decide (0≤zc .i64 (c'-1));let b':=zy (toNat g') (toNat v14);let e':=n'&&decide (zc .i64 (c'-1)<c');let f':=getD o0 (zh a' d') 0;let j':=getD v10 a' 0;let o':=decide (zh a' d'<length o0);let q':=getD o0 h' 0;let i':=n'&&decide (zc .i64 (c'-1)<(↑b':Int));let m':=decide (0≤c')&&decide (c'<(↑b':Int));.ite (decide (v14≥0)) (.ite (decide (0≤v14)&&decide (0≤zc .i64 p')&&true&&decide (toNat v14≤toNat g')&&decide (toNat g'≤zA none v11n)&&decide (zA none v11n≤zA none v11n)&&true) (.ite m' (.ite l' (.ite e' (.ite (decide (getD o0 h' 0≥getD v10 a' 0)) (.ite i' (.ite o' (.ite e' (.ite (zu f'&&zu j'&&decide ((0:zX (Bz [u64]))≤0)&&decide (0≤(1:zX (Bz [u64])))) (L5 v9 v10 v11n v12 v13n v14 o1 o0 d' b' k' v10 (c') 18446744073709551615 (Hg f' j' 0) (ND f' j' 0) o1 o0) .fail) .fail) .fail) .fail) (.ite m' (.ite l' (.ite i' (.ite o' (.ite e' (.ite (zu q'&&zu f'&&zu j'&&decide (getD o0 h' 0<getD v10 a' 0)) (L5 v9 v10 v11n v12 v13n v14 o1 o0 d' b' k' v10 (c') (Sp.dq q' f' j') (Sp.dr q' f' j') 0 o1 o0) .fail) .fail) .fail) .fail) .fail) .fail)) .fail) .fail) .fail) .fail) (L6 v9 v11n v12 v13n v12 0 o1 o0):=by kernel_rfl
def L7(v9:Int)(v10:List Int)(v11n:Nat)(v12:Int)(v13n:Nat)(v14:Int)(o1 o0:List Int)(v0o v0n v0c:Nat)(v1:List Int)(v5 v6 v11:Int)(v12':Int)(v104 v105:Int)(o1':List Int)(o0':List Int):Tr:=re ((stepT Ic (L5 v9 v10 v11n v12 v13n v14 o1 o0 0 0 0 [] 0 0 0 0 [] [])).L.L.L.L) (AI 186 [(0,.sl 0 1 v0o v0n (Option.some v0c)),(1,.dat (zg (ze zd)) v1),(5,.dat i64 v5),(6,.dat (ze zd) v6),(11,.dat (ze zd) v11),(12,.dat (ze zd) v12'),(104,.dat i64 v104),(105,.dat i64 v105)] [(1,.arr false 130 (ze zd) o1'),(0,.arr false 130 (ze zd) o0')] 2)
theorem Gk(v9:Int)(v10:List Int)(v11n:Nat)(v12:Int)(v13n:Nat)(v14:Int)(o1 o0:List Int)(v0o v0n v0c:Nat)(v1:List Int)(v5 v6 v7 v8:Int)(o1':List Int)(o0':List Int):stepT Ic (L5 v9 v10 v11n v12 v13n v14 o1 o0 v0o v0n v0c v1 v5 v6 v7 v8 o1' o0')=let b':=toNat (zc .i64 (v5-2));let c':=L7 v9 v10 v11n v12 v13n v14 o1 o0 v0o v0n v0c v1 v5 v6 0 0 v5 0 o1' o0';let d':=getD v1 (toNat (zc .i64 (v5-1))) 0;let f':=decide (0≤zc .i64 (v5-2));let a':Tr:=.ite (decide (0≤zc .i64 (v5-1))&&decide (zc .i64 (v5-1)<(length v1:Int))) (.ite (zu v7&&zu d'&&decide ((0:zX (Bz [u64]))≤0)&&decide (0≤(1:zX (Bz [u64])))) (L5 v9 v10 v11n v12 v13n v14 o1 o0 v0o v0n v0c v1 v5 (zc .u64 (v6-1)) (Hg v7 d' 0) (ND v7 d' 0) o1' o0') .fail) .fail;let e':=getD v1 b' 0;.ite (v8==0) (.ite (f'&&decide (zc .i64 (v5-2)<(length v1:Int))) (.ite (zu v6&&zu e') (.ite (decide (PQ v6 e'<v7)) c' (.ite (PQ v6 e'==v7) (.ite (f'&&decide (zc .i64 (v5-2)<(↑v0n:Int))) (.ite (decide (zh b' v0o<length o0')) (.ite (decide (Hu v6 e'≤getD o0' (zh b' v0o) 0)) c' a') .fail) .fail) a')) .fail) .fail) c':=by kernel_rfl
theorem Hl(v9:Int)(v11n:Nat)(v12:Int)(v13n:Nat)(v96 v97:Int)(o1 o0:List Int):stepT Ic (L6 v9 v11n v12 v13n v96 v97 o1 o0)=let a':=set o0 (toNat v97) (Int.fdiv (getD o0 (toNat v97) 0) (2^zU (toNat v9) 64));let b':=decide (0≤v97)&&decide (v97<(↑v11n:Int));let c':=zc .i64 (v97+1);let d':=ze zd;let e':=decide (zc .i64 (v97+1)<(↑v11n:Int));let g':=decide (toNat v97<length o0);let f':=L6 v9 v11n v12 v13n v96 c' o1 a';let h':=decide (toNat v97<length a');.ite (decide (v97<v96)) (.ite b' (.ite g' (.ite (decide (0≤v9)) (.ite b' (.ite g' (.ite (decide (v9>0)) (.ite (e') (.ite b' (.ite h' (.ite (decide (0≤zc .i64 (v97+1))&&e') (.ite (decide (toNat c'<length a')) (.ite (decide (0≤zc .i64 (64-v9))) (.ite b' (.ite h' (L6 v9 v11n v12 v13n v96 c' o1 (set a' (toNat v97) (XW zd (getD a' (toNat v97) 0) (zc .u64 (getD a' (toNat c') 0*2^zU (toNat (zc .i64 (64-v9))) 64))))) .fail) .fail) .fail) .fail) .fail) .fail) .fail) f') f') .fail) .fail) .fail) .fail) .fail) (.ite (decide (0≤v12)&&true&&decide (0≤toNat v12)&&decide (toNat v12≤zA none v11n)&&decide (zA none v11n≤zA none v11n)&&true) (.ite (decide (0+v13n≤length o1)&&true&&Cv (take v13n o1)) (.ite (decide (0+toNat v12≤length o0)&&true&&Cv (take (toNat v12) o0)) (.leaf (.tup [.dat (zg d') (Ar (take v13n o1)),.dat (zg d') (Ar (take (toNat v12) o0))]) ([(1,.arr true 130 d' o1),(0,.arr true 130 d' o0)])) .fail) .fail) .fail):=by kernel_rfl
def L8(v9:Int)(v10:List Int)(v11n:Nat)(v12:Int)(v13n:Nat)(v14:Int)(o1 o0:List Int)(v0o v0n v0c:Nat)(v1:List Int)(v5 v6 v17 v156 v157:Int)(o1':List Int)(o0':List Int):Tr:=re ((stepT Ic (L7 v9 v10 v11n v12 v13n v14 o1 o0 0 0 0 [] 0 0 0 0 0 0 [] [])).R.L.L.L.L.L.R) (AI 186 [(0,.sl 0 1 v0o v0n (Option.some v0c)),(1,.dat (zg (ze zd)) v1),(5,.dat i64 v5),(6,.dat (ze zd) v6),(17,.dat (ze zd) v17),(156,.dat i64 v156),(157,.dat i64 v157)] [(1,.arr false 130 (ze zd) o1'),(0,.arr false 130 (ze zd) o0')] 2)
theorem FN(v9:Int)(v10:List Int)(v11n:Nat)(v12:Int)(v13n:Nat)(v14:Int)(o1 o0:List Int)(v0o v0n v0c:Nat)(v1:List Int)(v5 v6 v11:Int)(v12':Int)(v104 v105:Int)(o1':List Int)(o0':List Int):stepT Ic (L7 v9 v10 v11n v12 v13n v14 o1 o0 v0o v0n v0c v1 v5 v6 v11 v12' v104 v105 o1' o0')=let b':=zh (toNat v5) v0o;let d':=getD v1 (toNat v105) 0;let e':=decide (zh (toNat v105) v0o<length o0');let g':=decide (zh (toNat v5) v0o<length o0');let h':=decide (0≤v105)&&decide (v105<(↑v0n:Int));let i':=(0:zX (Bz [u64]));let j':=(1:zX (Bz [u64]));let k':=decide (0≤v5)&&decide (v5<(↑v0n:Int));let n':=zh (toNat v105) v0o;let a':=Hu v6 d';let c':=getD o0' n' 0;let m':=getD o0' b' 0;let f':=set o0' b' (RY m' v12' v11);let l':=Hg a' v12' 0;.ite (decide (v105<v104)) (.ite (decide (0≤v105)&&decide (v105<(length v1:Int))) (.ite (zu v6&&zu d') (.ite (zu a'&&zu v12'&&decide (i'≤0)&&decide (0≤j')) (.ite h' (.ite e' (.ite (zu c'&&zu l'&&decide (i'≤v11)&&decide (v11≤j')) (.ite h' (.ite e' (L7 v9 v10 v11n v12 v13n v14 o1 o0 v0o v0n v0c v1 v5 v6 (O3 c' l' v11) (zc .u64 (PQ v6 d'+ND a' v12' 0)) v104 (zc .i64 (v105+1)) o1' (set o0' n' (RY c' l' v11))) .fail) .fail) .fail) .fail) .fail) .fail) .fail) .fail) (.ite k' (.ite g' (.ite (zu m'&&zu v12'&&decide (i'≤v11)&&decide (v11≤j')) (.ite k' (.ite g' (.ite (O3 m' v12' v11==0) (.ite (decide (0≤v14)&&decide (v14<(↑v13n:Int))) (.ite (decide (toNat v14<length o1')) (L4 v9 v10 v11n v12 v13n (zc .i64 (v14-1)) (set o1' (toNat v14) v6) f') .fail) .fail) (L8 v9 v10 v11n v12 v13n v14 o1 o0 v0o v0n v0c v1 v5 v6 0 v5 0 o1' f')) .fail) .fail) .fail) .fail) .fail):=by kernel_rfl
theorem I2(v9:Int)(v10:List Int)(v11n:Nat)(v12:Int)(v13n:Nat)(v14:Int)(o1 o0:List Int)(v0o v0n v0c:Nat)(v1:List Int)(v5 v6 v17 v156 v157:Int)(o1':List Int)(o0':List Int):stepT Ic (L8 v9 v10 v11n v12 v13n v14 o1 o0 v0o v0n v0c v1 v5 v6 v17 v156 v157 o1' o0')=let b':=decide (zh (toNat v157) v0o<length o0');let c':=getD v1 (toNat v157) 0;let d':=decide (zh (toNat v5) v0o<length o0');let e':=decide (0≤v157)&&decide (v157<(↑v0n:Int));let f':=decide (0≤v5)&&decide (v5<(↑v0n:Int));let g':=zh (toNat v157) v0o;let h':=zh (toNat v5) v0o;let a':=getD o0' g' 0;.ite (decide (v157<v156)) (.ite e' (.ite b' (.ite (decide (0≤v157)&&decide (v157<(length v1:Int))) (.ite (zu a'&&zu c'&&decide ((0:zX (Bz [u64]))≤v17)&&decide (v17≤(1:zX (Bz [u64])))) (.ite e' (.ite b' (L8 v9 v10 v11n v12 v13n v14 o1 o0 v0o v0n v0c v1 v5 v6 (ND a' c' v17) v156 (zc .i64 (v157+1)) o1' (set o0' g' (Hg a' c' v17))) .fail) .fail) .fail) .fail) .fail) .fail) (.ite f' (.ite d' (.ite f' (.ite d' (.ite (decide (0≤v14)&&decide (v14<(↑v13n:Int))) (.ite (decide (toNat v14<length o1')) (L4 v9 v10 v11n v12 v13n (zc .i64 (v14-1)) (set o1' (toNat v14) (zc .u64 (v6-1))) (set o0' h' (zc .u64 (getD o0' h' 0+v17)))) .fail) .fail) .fail) .fail) .fail) .fail):=by kernel_rfl
end T230
end
end Go.Pe
end
section
namespace Go.Pe
open Sp
open Go.Det
namespace T230
variable {Q:PV→Ob→Prop}
theorem wP{r x d:Int}(hd:0<d)(hr:0≤r∧r<d)(hx:0≤x∧x<18446744073709551616):Sp.dq r x d*d+Sp.dr r x d=r*18446744073709551616+x∧0≤Sp.dq r x d∧Sp.dq r x d<18446744073709551616∧0≤Sp.dr r x d∧Sp.dr r x d<d:=by
 unfold Sp.dq Sp.dr;have h:=zM (r*18446744073709551616+x) d;rw[zq]at h;refine⟨h,Int.ediv_nonneg (by omega) (by omega),Int.ediv_lt_of_lt_mul hd (by omega),Int.emod_nonneg _ (by omega),Int.emod_lt_of_pos _ hd⟩
theorem Am(a:List Int)(d:Int)(ha:At Aj a)(hd:0<d∧d<18446744073709551616)(hm:a.length≤20000)(hq:∀q r ob,At Aj q→(0≤r∧r<d)→Al a=Al q*d+r→Q (.tup [.dat CW (Ar q),.dat CW (Ar [r])]) ob):∀(i:Nat) (q:List Int) (r:Int),i+q.length=a.length→At Aj q→(0≤r∧r<d)→zr Aj (a.drop i)=zr Aj q*d+r→
  Ends Ic (L1 a [d] a.length r ((i:Int)-1) (zJ i 0++q)) Q
 |0,q,r,hl,hdq,hr,he=>by
  have ht:((zJ 0 0++q).take a.length)=q:=by
   rw[List.replicate_zero,List.nil_append];exact zL (by omega)
  refine Ends.As (Au ..) (Ends.ff (by simp) ?_);rw[ht];refine zo (Ac (by simp;omega) (DZ (by omega) hdq)) (zo (Ac rfl (DZ (by simp) (fun x hx=>by rw[List.mem_singleton]at hx;subst hx;exact⟨hr.1,by show x<18446744073709551616;omega⟩))) (Ends.leaf (hq q r _ hdq hr he)))
 |i+1,q,r,hl,hdq,hr,he=>by
  have e1:(((i+1:Nat):Int)-1)=(i:Int):=by omega
  have gx:=AP ha i;obtain⟨d1,d2,d3,d4,d5⟩:=wP hd.1 hr (zZ gx);have da:a.drop i=a.getD i 0::a.drop (i+1):=by
   rw[zt,zG (by omega)];exact zR (by omega)
  have es:∀x,(zJ (i+1) (0:Int)++q).set i x=zJ i 0++(x::q):=by
   intro x;rw[List.replicate_succ',zK];exact C6 _ _ _ _ (by simp)
  rw[e1];refine Ends.As (Au ..) (zo (by simp) ?_);rw[zz,es,wr ((i:Int)-1) (by omega) (by omega)];refine zo (by simp;omega) (zo (by simp) (zo ?_ (zo (by simp;omega) (zo (by simp;omega) ?_))))
  ·exact Ac (Ac (Ac (Cu hr.1 (by omega)) gx) (Cu (by show 0≤d;omega) hd.2)) (decide_eq_true hr.2)
  ·refine Am a d ha hd hm hq i _ _ (by simp;omega) (fun x hx=>?_) ⟨d4,d5⟩ ?_
   ·rcases List.mem_cons.1 hx with rfl|hx
    ·exact⟨d2,d3⟩
    ·exact hdq x hx
   ·rw[da];show a.getD i 0+(18446744073709551616:Int)*zr Aj (a.drop (i+1))=(Sp.dq r (a.getD i 0) d+(18446744073709551616:Int)*zr Aj q)*d+Sp.dr r (a.getD i 0) d;rw[he,zw,zx,zn];omega
end T230
end Go.Pe
end
section
namespace Go.Sp
theorem SF{B P u0 u1 u2 u' v1 v2 v' q r:Int}(hP:0<P)(hv:0≤v')(hu:u'<P)(hq:0≤q)(he:q*v1+r=u0*B+u1)(h:r*B+u2<q*v2):
  ((u0*B+u1)*B+u2)*P+u'<q*((v1*B+v2)*P+v'):=by
 have e:q*(v1*B+v2)=q*v1*B+q*v2:=by rw[zx,zn]
 have e2:(u0*B+u1)*B=q*v1*B+r*B:=by rw[←he,zw]
 have h1:(u0*B+u1)*B+u2+1≤q*(v1*B+v2):=by rw[e,e2];omega
 have h2:=zm h1 (zE hP);have h3:0≤q*v':=zF hq hv;rw[zx q, ←zn];rw[zw,zC]at h2;omega
theorem TR{B P u0 u1 u2 u' v1 v2 v' q r:Int}(hP:0<P)(hv:0≤v'∧v'<P)(hu:0≤u')(hq:0≤q∧q<B)(hv1:1≤v1)(hv2:0≤v2)(he:q*v1+r=u0*B+u1)(h:q*v2≤r*B+u2):
  q*((v1*B+v2)*P+v')<((u0*B+u1)*B+u2)*P+u'+((v1*B+v2)*P+v'):=by
 have e:q*(v1*B+v2)=q*v1*B+q*v2:=by rw[zx,zn]
 have e2:(u0*B+u1)*B=q*v1*B+r*B:=by rw[←he,zw]
 have h1:q*(v1*B+v2)≤(u0*B+u1)*B+u2:=by rw[e,e2];omega
 have h2:=zm h1 (zE hP);have h3:q*v'≤(B-1)*P:=Int.le_trans (zD (zE hv.2) hq.1) (zm (by omega) (zE hP));have h4:B≤v1*B+v2:=by
  have:=zm hv1 (show 0≤B by omega);omega
 have h5:=zm h4 (zE hP);rw[Int.sub_mul,zC]at h3;rw[zx q, ←zn];omega
end Go.Sp
end
section
namespace Go.Sp
theorem GJ(b:Int):∀(l:List Int) (i:Nat) (x:Int),i<l.length→val b (l.set i x)=val b l+b^i*(x-l.getD i 0)
 |[],i,x,h=>by simp at h
 |d::l,0,x,_=>by
  show x+b*val b l=d+b*val b l+b^0*(x-d);rw[Int.pow_zero,zC];omega
 |d::l,i+1,x,h=>by
  have:=GJ b l i x (by simpa using h);show d+b*val b (l.set i x)=d+b*val b l+b^(i+1)*(x-l.getD i 0);rw[this,zx,zQ,zq (b^i) b,zn,Int.add_assoc]
theorem Gz{b:Int}{l:List Int}(h:At b l)(i:Nat){x:Int}(hx:0≤x∧x<b):At b (l.set i x):=by
 intro d hd;rcases List.mem_or_eq_of_mem_set hd with hd|rfl
 ·exact h d hd
 ·exact hx
theorem Ez{b:Int}{l r:List Int}(h1:At b l)(h2:At b r):At b (l++r):=by
 intro d hd;rcases List.mem_append.1 hd with hd|hd
 ·exact h1 d hd
 ·exact h2 d hd
theorem Jh{b:Int}(hb:0<b){l:List Int}(h:At b l)(i:Nat):0≤l.getD i 0∧l.getD i 0<b:=by
 rcases Nat.lt_or_ge i l.length with hi|hi
 ·have:l.getD i 0∈l:=by rw[zt,zG hi];exact List.getElem_mem hi
  exact h _ this
 ·rw[zt,List.getElem?_eq_none hi];exact⟨Int.le_refl _,hb⟩
theorem B3{l:List Int}{i:Nat}(h:i<l.length):l.drop i=l.getD i 0::l.drop (i+1):=by
 rw[zt,zG h];exact zR h
theorem Gu(p r:List Int)(i j:Nat)(h:p.length=j):(p++r).getD (i+j) 0=r.getD i 0:=by
 subst h;rw[zt,zt,List.getElem?_append_right (by omega),zH]
theorem QL(p r:List Int)(i j:Nat)(x:Int)(h:p.length=j):(p++r).set (i+j) x=p++r.set i x:=by
 subst h;rw[List.set_append_right _ _ (by omega),zH]
theorem gM(b:Int)(r:List Int)(k:Nat)(hl:k+3≤r.length)(hz:val b (r.drop (k+3))=0):
  val b r=((r.getD (k+2) 0*b+r.getD (k+1) 0)*b+r.getD k 0)*b^k+val b (r.take k):=by
 have p1:b^(k+1)=b^k*b:=zQ ..;have p2:b^(k+2)=b^k*b*b:=by rw[←p1];exact zQ ..
 rw[B4 b r (k+3) hl,hz,AD,AD,AD,p1,p2,zV,zW];generalize b^k=P;generalize r.getD (k+2) 0=x;generalize r.getD (k+1) 0=y;generalize r.getD k 0=z;have e1:P*b*b*x=x*b*b*P:=by rw[zq (P*b*b) x,zq P b,zn b P b,zq P b, ←zn, ←zn]
 have e2:P*b*y=y*b*P:=by rw[zq (P*b) y,zq P b,zn]
 have e3:P*z=z*P:=zq _ _;have e4:((x*b+y)*b+z)*P=x*b*b*P+y*b*P+z*P:=by rw[zw,zw,zw]
 rw[e4];omega
theorem gQ(b:Int)(v:List Int)(k:Nat)(hl:v.length=k+2):
  val b v=(v.getD (k+1) 0*b+v.getD k 0)*b^k+val b (v.take k):=by
 have h0:val b (v.drop (k+2))=0:=by rw[List.drop_eq_nil_of_le (by omega)];rfl
 have p1:b^(k+1)=b^k*b:=zQ ..;rw[B4 b v (k+2) (by omega),h0,AD,AD,p1,zV,zW];generalize b^k=P;generalize v.getD (k+1) 0=y;generalize v.getD k 0=z;have e2:P*b*y=y*b*P:=by rw[zq (P*b) y,zq P b,zn]
 have e3:P*z=z*P:=zq _ _;rw[e2,e3,zw];omega
theorem cV{b:Int}(hb:2≤b){v:List Int}(hd:At b v)(hn:nz v){k:Nat}(h1:b^k≤val b v)(h2:val b v<b^(k+1)):v.length=k+1:=by
 have hp:=AM (show 0<b by omega) k;have hne:v≠[]:=by rintro rfl;simp[val]at h1;omega
 have a1:=Bm (by omega) hd;have a2:=CY (by omega) hd hn hne;rcases Nat.lt_trichotomy v.length (k+1)with h|h|h
 ·have:=AJ (show 1≤b by omega) (show v.length≤k by omega);omega
 ·exact h
 ·have:=AJ (show 1≤b by omega) (show k+1≤v.length-1 by omega);omega
theorem IP{b:Int}(hb:2≤b){r:List Int}(hd:At b r){n:Nat}(hl:n≤r.length)(h:val b r<b^n):val b (r.drop n)=0:=by
 have h0:=Ay (show 0≤b by omega) (Eb hd n);have h1:=Ay (show 0≤b by omega) (AK hd n);rw[B4 b r n hl]at h;have hp:=AM (show 0<b by omega) n;rcases Int.lt_or_le 0 (val b (r.drop n))with g|g
 ·have:=zD (show 1≤val b (r.drop n)by omega) (show 0≤b^n by omega);omega
 ·omega
theorem PB{b:Int}(hb:2≤b){r:List Int}(hd:At b r){n:Nat}(hl:n≤r.length)(h:val b (r.drop n)=0):val b r<b^n:=by
 have:=Bm (show 0<b by omega) (AK hd n);rw[List.length_take,Nat.min_eq_left hl]at this;rw[B4 b r n hl,h];omega
theorem cG{b c d x y X:Int}(hc:0<c)(hb:b=c*d):(x+b*(y+b*X))/c=(x/c+(y % c)*d)+b*((y+b*X)/c):=by
 subst hb;have h1:(x+c*d*(y+c*d*X))/c=x/c+d*(y+c*d*X):=by
  rw[zn c d,Int.add_mul_ediv_left _ _ (by omega)]
 have h2:(y+c*d*X)/c=y/c+d*X:=by
  rw[zn c d,Int.add_mul_ediv_left _ _ (by omega)]
 have h3:=zM y c;rw[h1,h2];have e1:d*(y+c*d*X)=d*(c*(y/c)+y % c+c*d*X):=by rw[h3]
 rw[e1,zx,zx,zx (c*d)];have e2:d*(c*(y/c))=c*d*(y/c):=by rw[←zn,zq d c]
 have e3:d*(y % c)=(y % c)*d:=zq _ _;have e4:d*(c*d*X)=c*d*(d*X):=by rw[←zn,zq d (c*d),zn]
 rw[e2,e3,e4];omega
theorem Th{b c d x k:Int}(hc:0<c)(hd:0<d)(hb:b=c*d)(hk:0≤k∧k<c)(hx:0≤x∧x<b):
  (x*c) % b=(x % d)*c∧(x % d)*c+k<b∧0≤(x % d)*c∧0≤x/d∧x/d<c∧(x % d)*c+b*(x/d)=x*c:=by
 subst hb;have h3:=zM x d;have m0:=Int.emod_nonneg x (show d≠0 by omega);have m1:=Int.emod_lt_of_pos x hd;have q0:0≤x/d:=Int.ediv_nonneg hx.1 (by omega);have q1:x/d<c:=Int.ediv_lt_of_lt_mul hd (by have:=hx.2;omega);have p0:0≤(x % d)*c:=zF m0 (by omega);have p1:(x % d)*c≤(d-1)*c:=zm (by omega) (by omega);have p2:(d-1)*c=c*d-c:=by rw[Int.sub_mul,zC,zq]
 have e:(x % d)*c+c*d*(x/d)=x*c:=by
  conv=>rhs;rw[←h3]
  rw[zw,zn c d,zq c (d*(x/d))];omega
 refine⟨?_,by omega,p0,q0,q1,e⟩;rw[←e,Int.add_mul_emod_self_left];exact Int.emod_eq_of_lt p0 (by omega)
end Go.Sp
namespace Go.Sp
theorem L0{B P u0 u1 u2 u' v1 v2 v' q r:Int}(hP:0<P)(hB:0<B)(hq:0≤q)(hv:0≤v')(hv2:0≤v2)(hu:u'<P)(hu2:u2<B)(he:q*v1+r=u0*B+u1)(h:r<v1):
  ((u0*B+u1)*B+u2)*P+u'<(q+1)*((v1*B+v2)*P+v'):=by
 have h1:u0*B+u1+1≤(q+1)*v1:=by rw[zw,zC];omega
 have h2:=zm h1 (zE hB);have h3:(u0*B+u1)*B+u2+1≤(q+1)*v1*B:=by
  rw[zw,zC]at h2;omega
 have h4:=zm h3 (zE hP);rw[zw,zC]at h4;have h5:0≤(q+1)*(v2*P):=zF (by omega) (zF hv2 (zE hP));have h6:0≤(q+1)*v':=zF (by omega) hv;have e:(q+1)*((v1*B+v2)*P+v')=(q+1)*v1*B*P+(q+1)*(v2*P)+(q+1)*v':=by
  rw[zw (v1*B),zx,zx];congr 2;rw[zn,zn,zn]
 rw[e];omega
end Go.Sp
end
section
namespace Go.Pe
open Sp
open Go.Det
theorem TV{q x y c b:Int}(hq:zu q=true)(hx:zu x=true)(hy:zu y=true)(hc:zu c=true)(hb:0≤b∧b≤1):
  zu (Hu q x)=true∧zu (Hg (Hu q x) c 0)=true∧zc .u64 (PQ q x+ND (Hu q x) c 0)=(q*x+c)/18446744073709551616∧zu ((q*x+c)/18446744073709551616)=true∧
  zu (RY y (Hg (Hu q x) c 0) b)=true∧(0≤O3 y (Hg (Hu q x) c 0) b∧O3 y (Hg (Hu q x) c 0) b≤1)∧
  c+b+(RY y (Hg (Hu q x) c 0) b-y)=18446744073709551616*((q*x+c)/18446744073709551616+O3 y (Hg (Hu q x) c 0) b)-q*x:=by
 have hq:=zZ hq;have hx:=zZ hx;have hc:=zZ hc;have h0:0≤q*x:=zF hq.1 hx.1;have h1:q*x≤18446744073709551615*18446744073709551615:=by
  have a:=zD (show x≤18446744073709551615 by omega) hq.1;have b:=zm (show q≤18446744073709551615 by omega) (show(0:Int)≤18446744073709551615 by omega);omega
 have hl:zu (Hg (Hu q x) c 0)=true:=by unfold Hg;exact Cu (by omega) (by omega)
 obtain⟨s1,s2,s3⟩:=Sp.Gg hy hl hb;refine⟨?_,hl,?_,?_,s1,s2,?_⟩
 ·unfold Hu;exact Cu (by omega) (by omega)
 ·unfold Hu PQ ND;rw[JI];generalize q*x=P at*;omega
 ·generalize q*x=P at*;exact Cu (by omega) (by omega)
 ·generalize O3 y (Hg (Hu q x) c 0) b=h at*;generalize RY y (Hg (Hu q x) c 0) b=l at*;unfold Hg Hu at s3;generalize q*x=P at*;omega
namespace T230
variable {Q:PV→Ob→Prop}
theorem gw{lo r:List Int}{j:Nat}(h:lo.length=j)(i:Nat):(lo++r).getD (zh i j) 0=r.getD i 0:=Gu lo r i j h
theorem sw{lo r:List Int}{j:Nat}(h:lo.length=j)(i:Nat)(x:Int):(lo++r).set (zh i j) x=lo++r.set i x:=QL lo r i j x h
theorem lw{lo r:List Int}{j i:Nat}(h:lo.length=j)(hi:i<r.length):decide (zh i j<(lo++r).length)=true:=by
 refine decide_eq_true ?_;show i+j<_;rw[List.length_append];omega
theorem IG(r:List Int)(i n:Nat)(x:Int)(h:i<n):(r.set i x).drop n=r.drop n:=by
 rw[List.drop_set,if_pos h]
theorem Cc(v9:Int)(v10:List Int)(v11n:Nat)(v12:Int)(v13n:Nat)(o1 o0:List Int)(v0c:Nat)(v:List Int)(n j:Nat)(lo:List Int)(m:Nat)(q W:Int)(o1':List Int)
  (hn:v.length=n) (hn9:n≤9000) (hm:n+1≤m) (hlo:lo.length=j) (hjv:j<v13n) (hj1:j<o1'.length) (hv:At Aj v) (hq:zu q=true)
  (h0:∀r:List Int,r.length=m→At Aj r→zr Aj (r.drop (n+1))=0→zr Aj r=W-q*zr Aj v→Ends Ic (L4 v9 v10 v11n v12 v13n (zc .i64 ((j:Int)-1)) (o1'.set j q) (lo++r)) Q)
  (h1:∀r:List Int,r.length=m→At Aj r→zr Aj (r.drop (n+1))=0→zr Aj r=W-q*zr Aj v+(Aj:Int)^(n+1)→Ends Ic (L8 v9 v10 v11n v12 v13n j o1 o0 j (n+1) v0c v n q 0 n 0 o1' (lo++r)) Q):
  ∀(k i:Nat) (r:List Int) (b c:Int),i+k=n→r.length=m→At Aj r→zr Aj (r.drop (n+1))=0→zu c=true→(0≤b∧b≤1)→zr Aj r=W-q*zr Aj (v.take i)+(Aj:Int)^i*(c+b)→
   Ends Ic (L7 v9 v10 v11n v12 v13n j o1 o0 j (n+1) v0c v n q b c n i o1' (lo++r)) Q
 |0,i,r,b,c,hi,hr,hd,hz,hc,hb,he=>by
  have hi:i=n:=by omega
  subst hi;have gy:=AP hd i;obtain⟨s1,s2,s3⟩:=Sp.Gg gy hc hb;have hlw:decide (zh i j<(lo++r).length)=true:=lw hlo (by omega);have t1:(decide ((0:Int)≤(i:Int))&&decide ((i:Int)<((i+1:Nat):Int)))=true:=by simp;omega
  have hv1:v.take i=v:=zL (by omega);have hset:∀x:Int,0≤x∧x<18446744073709551616→(r.set i x).length=m∧At Aj (r.set i x)∧zr Aj ((r.set i x).drop (i+1))=0:=fun x hx=>
   ⟨by simp[hr],Gz hd i hx,by rw[IG _ _ _ _ (by omega)];exact hz⟩
  obtain⟨e1,e2,e3⟩:=hset _ (zZ s1);have ev:zr Aj (r.set i (RY (r.getD i 0) c b))=W-q*zr Aj v+(Aj:Int)^(i+1)*O3 (r.getD i 0) c b:=by
   rw[GJ _ _ _ _ (by omega),he,hv1,JM,Int.add_assoc, ←zx];congr 2;omega
  refine Ends.As (FN ..) (Ends.ff (by simp) ?_);rw[zz,zz,gw hlo,sw hlo];refine zo t1 (zo hlw (zo (Ac (Ac (Ac gy hc) (decide_eq_true hb.1)) (decide_eq_true hb.2)) (zo t1 (zo hlw (Ends.ite (fun c1=>?_) (fun c1=>?_))))))
  ·have c1:O3 (r.getD i 0) c b=0:=by simpa using c1
   refine zo (by simp;omega) (zo (decide_eq_true hj1) (h0 _ e1 e2 e3 ?_));rw[ev,c1,zV,zW]
  ·have c1:O3 (r.getD i 0) c b≠0:=by simpa using c1
   refine h1 _ e1 e2 e3 ?_;rw[ev,show O3 (r.getD i 0) c b=1 by omega,Int.mul_one]
 |k+1,i,r,b,c,hi,hr,hd,hz,hc,hb,he=>by
  have gx:=AP hv i;have gy:=AP hd i;obtain⟨m1,m2,m3,m4,m5,m6,m7⟩:=TV hq gx gy hc hb;have hlw:decide (zh i j<(lo++r).length)=true:=lw hlo (by omega);have t1:(decide ((0:Int)≤(i:Int))&&decide ((i:Int)<((n+1:Nat):Int)))=true:=by simp;omega
  have e2:zc .i64 ((i:Int)+1)=((i+1:Nat):Int):=by rw[wr _ (by omega) (by omega)];omega
  refine Ends.As (FN ..) (zo (by simp;omega) ?_);rw[zz,gw hlo,sw hlo,m3,e2];refine zo (by simp;omega) (zo (Ac hq gx) (zo (Ac (Ac (Ac m1 hc) rfl) rfl) (zo t1 (zo hlw (zo (Ac (Ac (Ac gy m2) (decide_eq_true hb.1)) (decide_eq_true hb.2)) (zo t1 (zo hlw ?_)))))));refine Cc v9 v10 v11n v12 v13n o1 o0 v0c v n j lo m q W o1' hn hn9 hm hlo hjv hj1 hv hq h0 h1 k (i+1) _ _ _ (by omega) (by simp[hr]) (Gz hd i (zZ m5)) (by rw[IG _ _ _ _ (by omega)];exact hz) m4 m6 ?_;rw[GJ _ _ _ _ (by omega),he,JM,AD,zx q,Int.mul_left_comm q];have e:(Aj:Int)^i*(c+b)+(Aj:Int)^i*(RY (r.getD i 0) (Hg (Hu q (v.getD i 0)) c 0) b-r.getD i 0)=(Aj:Int)^i*(18446744073709551616*((q*v.getD i 0+c)/18446744073709551616+O3 (r.getD i 0) (Hg (Hu q (v.getD i 0)) c 0) b))-(Aj:Int)^i*(q*v.getD i 0):=by
   rw[←zx, ←zT,m7]
  omega
theorem ES(v9:Int)(v10:List Int)(v11n:Nat)(v12:Int)(v13n:Nat)(o1 o0:List Int)(v0c:Nat)(v:List Int)(n j:Nat)(lo:List Int)(m:Nat)(q W:Int)(o1':List Int)
  (hn:v.length=n) (hn9:n≤9000) (hm:n+1≤m) (hlo:lo.length=j) (hjv:j<v13n) (hj1:j<o1'.length) (hv:At Aj v)
  (hW:0≤W+zr Aj v)
  (h0:∀r:List Int,r.length=m→At Aj r→zr Aj (r.drop (n+1))=0→zr Aj r=W+zr Aj v→Ends Ic (L4 v9 v10 v11n v12 v13n (zc .i64 ((j:Int)-1)) (o1'.set j (zc .u64 (q-1))) (lo++r)) Q):
  ∀(k i:Nat) (r:List Int) (c:Int),i+k=n→r.length=m→At Aj r→zr Aj (r.drop (n+1))=0→(0≤c∧c≤1)→zr Aj r=W+(Aj:Int)^(n+1)+zr Aj (v.take i)-(Aj:Int)^i*c→
   Ends Ic (L8 v9 v10 v11n v12 v13n j o1 o0 j (n+1) v0c v n q c n i o1' (lo++r)) Q
 |0,i,r,c,hi,hr,hd,hz,hc,he=>by
  have hi:i=n:=by omega
  subst hi;have gy:=zZ (AP hd i);have hlw:decide (zh i j<(lo++r).length)=true:=lw hlo (by omega);have t1:(decide ((0:Int)≤(i:Int))&&decide ((i:Int)<((i+1:Nat):Int)))=true:=by simp;omega
  have hv1:v.take i=v:=zL (by omega);have gm:0≤(r.getD i 0+c) % 18446744073709551616∧(r.getD i 0+c) % 18446744073709551616<18446744073709551616:=by omega
  have e1:(r.set i ((r.getD i 0+c) % 18446744073709551616)).length=m:=by simp[hr]
  have e2:At Aj (r.set i ((r.getD i 0+c) % 18446744073709551616)):=Gz hd i gm;have e3:zr Aj ((r.set i ((r.getD i 0+c) % 18446744073709551616)).drop (i+1))=0:=by rw[IG _ _ _ _ (by omega)];exact hz
  have eb:=PB (b:=Aj) (by decide) e2 (n:=i+1) (by omega) e3;refine Ends.As (I2 ..) (Ends.ff (by simp) ?_);rw[zz,zz,gw hlo,sw hlo,JI (r.getD i 0+c)];refine zo t1 (zo hlw (zo t1 (zo hlw (zo (by simp;omega) (zo (decide_eq_true hj1) (h0 _ e1 e2 e3 ?_))))));have hp:=AM (b:=Aj) (by decide) i;rw[GJ _ _ _ _ (by omega),he,hv1]at eb ⊢;rcases show(r.getD i 0+c) % 18446744073709551616=r.getD i 0+c∨(r.getD i 0+c) % 18446744073709551616=r.getD i 0+c-18446744073709551616 by omega with g|g
  ·exfalso;rw[g,show r.getD i 0+c-r.getD i 0=c by omega]at eb;omega
  ·have ep:(Aj:Int)^(i+1)=(Aj:Int)^i*18446744073709551616:=zQ ..;rw[g,show r.getD i 0+c-18446744073709551616-r.getD i 0=c-18446744073709551616 by omega,zT,ep];omega
 |k+1,i,r,c,hi,hr,hd,hz,hc,he=>by
  have gx:=AP hv i;have gy:=AP hd i;obtain⟨m1,m2,m3⟩:=Kh gy gx hc;have hlw:decide (zh i j<(lo++r).length)=true:=lw hlo (by omega);have t1:(decide ((0:Int)≤(i:Int))&&decide ((i:Int)<((n+1:Nat):Int)))=true:=by simp;omega
  have e2:zc .i64 ((i:Int)+1)=((i+1:Nat):Int):=by rw[wr _ (by omega) (by omega)];omega
  refine Ends.As (I2 ..) (zo (by simp;omega) ?_);rw[zz,gw hlo,sw hlo,e2];refine zo t1 (zo hlw (zo (by simp;omega) (zo (Ac (Ac (Ac gy gx) (decide_eq_true hc.1)) (decide_eq_true hc.2)) (zo t1 (zo hlw ?_)))));refine ES v9 v10 v11n v12 v13n o1 o0 v0c v n j lo m q W o1' hn hn9 hm hlo hjv hj1 hv hW h0 k (i+1) _ _ (by omega) (by simp[hr]) (Gz hd i (zZ m1)) (by rw[IG _ _ _ _ (by omega)];exact hz) m2 ?_;rw[GJ _ _ _ _ (by omega),he,JM,AD];have e:(Aj:Int)^i*(Hg (r.getD i 0) (v.getD i 0) c-r.getD i 0)-(Aj:Int)^i*c=(Aj:Int)^i*v.getD i 0-(Aj:Int)^i*(18446744073709551616*ND (r.getD i 0) (v.getD i 0) c):=by
   rw[←zT, ←zT];congr 1;omega
  omega
theorem jH(v9:Int)(v10:List Int)(v11n:Nat)(v12:Int)(v13n:Nat)(o1 o0:List Int)(v0c:Nat)(v:List Int)(n j:Nat)(lo:List Int)(m:Nat)(r0 o1':List Int)
  (hn:v.length=n) (hn9:n≤9000) (hm:n+1≤m) (hlo:lo.length=j) (hjv:j<v13n) (hj1:j<o1'.length) (hv:At Aj v)
  (hr:r0.length=m) (hd:At Aj r0) (hz:zr Aj (r0.drop (n+1))=0)
  (hfin:∀(q:Int) (r:List Int),r.length=m→At Aj r→(0≤q∧q<18446744073709551616)→zr Aj r<zr Aj v→zr Aj r=zr Aj r0-q*zr Aj v→Ends Ic (L4 v9 v10 v11n v12 v13n (zc .i64 ((j:Int)-1)) (o1'.set j q) (lo++r)) Q)
  (q:Int) (hq:zu q=true) (h1:zr Aj r0<(q+1)*zr Aj v) (h2:q*zr Aj v<zr Aj r0+zr Aj v):
  Ends Ic (L7 v9 v10 v11n v12 v13n j o1 o0 j (n+1) v0c v n q 0 0 n 0 o1' (lo++r0)) Q:=by
 have gq:=zZ hq;have hW0:=Ay (b:=Aj) (by decide) hd;have hV0:=Ay (b:=Aj) (by decide) hv;rw[zw,zC]at h1;refine Cc v9 v10 v11n v12 v13n o1 o0 v0c v n j lo m q (zr Aj r0) o1' hn hn9 hm hlo hjv hj1 hv hq (fun r a b c d=>hfin q r a b gq (by omega) d) (fun r a b c d=>?_) n 0 r0 0 0 (by omega) hr hd hz (by decide) (by decide) (by simp[zr]);have hb:=PB (b:=Aj) (by decide) b (n:=n+1) (by omega) c;have hq1:1≤q:=by
  rcases Int.lt_or_le 0 q with g|g
  ·exact g
  ·have:q=0:=by omega
   subst this;rw[Int.zero_mul]at d;omega
 have ew:zc .u64 (q-1)=q-1:=wu _ (by omega) (by omega);refine ES v9 v10 v11n v12 v13n o1 o0 v0c v n j lo m q (zr Aj r0-q*zr Aj v) o1' hn hn9 hm hlo hjv hj1 hv (by omega) (fun r' a' b' c' d'=>?_) n 0 r 0 (by omega) a b c (by decide) (by rw[d];simp[zr]);rw[ew];refine hfin (q-1) r' a' b' (by omega) (by omega) ?_;rw[d',Int.sub_mul,zC];omega
end T230
end Go.Pe
end
