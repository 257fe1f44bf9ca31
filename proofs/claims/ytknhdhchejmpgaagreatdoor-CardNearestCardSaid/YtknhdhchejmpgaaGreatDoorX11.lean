import Derived.Lib.ItoaMem
import Derived.Test.YtknhdhchejmpgaaGreatDoorX10
import Derived.Test.YtknhdhchejmpgaaGreatDoorX09
/- A part of a proof (no law is stated here). Made by program out of texts by AI agents. -/
open Go.IntKind renaming wrap → zc, u64 → ze, u8 → zV, i64 → z6
open Go.Pe.Sh renaming int → zg, nlist → zh, list → zj, bool → zl, str → zm, pair → zo, T → yi
open Nat renaming add → zk, sub → zL, add_sub_cancel → zU
open UInt8 renaming toNat → zn
open Int renaming mul_le_mul_of_nonneg_right → zp, mul_assoc → zq, mul_comm → zu, add_mul → zz, mul_add → zK, toNat_natCast → zM, tmod → zO, one_mul → zP, mul_le_mul_of_nonneg_left → zQ, le_of_lt → zR, mul_nonneg → zS, mul_ediv_add_emod → zZ, tdiv → z7, pow_succ → ya, mul_sub → ye, mul_zero → yg, add_zero → yh
open Go.Pe.Ends renaming tt → zr
open Go.Pe.PV renaming agg → zt
open Go.Sp renaming val → zw, u64 → zy, first → yc, vI → yj, AZ → yk
open List renaming getD_eq_getElem?_getD → zx, getElem?_eq_getElem → zT, replicate → zW, append_assoc → zX, take_of_length_le → zY, map → z8, drop_eq_getElem_cons → yb
open Option renaming getD → zN
open Min renaming min → yf
section
namespace Go.Sp
open Go.Lib
theorem Fh(a d:Nat)(ha:0<a)(hd:d<10):decDigits (10*a+d)=decDigits a++[UInt8.ofNat (48+d)]:=by
 rw[decDigits,dif_neg (by omega),show(10*a+d)/10=a from by omega,show(10*a+d) % 10=d from by omega]
theorem aE(a d:Nat)(ha:0<a)(hd:d<10):nDigits (10*a+d)=nDigits a+1:=by
 rw[nDigits_big (by omega),show(10*a+d)/10=a from by omega]
def Fv(k b:Nat):List UInt8:=zW (k-nDigits b) 48++decDigits b
theorem Qq(k b d:Nat)(hk:1≤k)(hd:d<10):Fv (k+1) (10*b+d)=Fv k b++[UInt8.ofNat (48+d)]:=by
 unfold Fv;rcases Nat.eq_zero_or_pos b with rfl|hb
 ·rw[Nat.mul_zero,Nat.zero_add,nDigits_small hd,decDigits_one hd,nDigits_small (by omega),decDigits_one (by omega)];obtain⟨j,rfl⟩:∃j,k=j+1:=⟨k-1,by omega⟩;have e:(48:UInt8)=UInt8.ofNat (48+0):=rfl;rw[zU,zU, ←e,List.replicate_succ',zX]
 ·rw[aE b d hb hd,Fh b d hb hd, ←zX,Nat.add_sub_add_right]
theorem RY:∀(k a b:Nat),1≤k→0<a→b<10^k→decDigits (a*10^k+b)=decDigits a++Fv k b
 |0,_,_,h,_,_=>by omega
 |1,a,b,_,ha,hb=>by
  rw[Nat.pow_one]at*;rw[Nat.mul_comm,Fh a b ha hb];unfold Fv;rw[nDigits_small hb,decDigits_one hb];rfl
 |k+2,a,b,_,ha,hb=>by
  have h1:b=10*(b/10)+b % 10:=by omega
  have h2:b/10<10^(k+1):=by
   rw[Nat.pow_succ 10 (k+1)]at hb;omega
  have h3:a*10^(k+2)+b=10*(a*10^(k+1)+b/10)+b % 10:=by
   rw[Nat.pow_succ 10 (k+1), ←Nat.mul_assoc];omega
  have hp:0<a*10^(k+1):=Nat.mul_pos ha (Nat.pow_pos (by omega));have ih:=RY (k+1) a (b/10) (by omega) ha h2;have hs:=Qq (k+1) (b/10) (b % 10) (by omega) (by omega);rw[h3,Fh _ _ (by omega) (by omega),ih,zX, ←hs, ←h1]
def B8:Nat→Nat→List (List UInt8)
 |0,_=>[]
 |f+1,v=>if v<10^18 then[decDigits v]else Fv 18 (v % 10^18)::B8 f (v/10^18)
theorem HC:∀(f v:Nat),v<f→(B8 f v).reverse.flatten=decDigits v
 |0,_,h=>by omega
 |f+1,v,h=>by
  unfold B8;split
  ·simp
  ·next c=>
   have hp:1≤v/10^18:=by omega
   have h1:v/10^18<f:=by omega
   have h2:=HC f (v/10^18) h1;rw[List.reverse_cons,List.flatten_append,h2];have h3:=RY 18 (v/10^18) (v % 10^18) (by omega) (by omega) (Nat.mod_lt _ (by decide));rw[show v/10^18*10^18+v % 10^18=v from by omega]at h3;rw[h3];simp
end Go.Sp
end
section
namespace Go.Pe
open Sp
open Go.Det
noncomputable section
open List Int Prod
namespace T87
def T(s:List UInt8):Tr:=tree Sn false 9 87 (Ah ([zm]) s)
theorem Am(s:List UInt8):T s=let a':=zh (zg ze);let b':=CT (Ax s);let c':=C0 (Ax s);.ite (rA s [(47:UInt8)]) (.ite (!Bk s) (.ite (D7 (Ax s)) (.ite true (.leaf (zt [.dat i64 b',.dat a' c',.dat i64 (1:Int),.dat a' (B1 1)]) ([(zk (zk 0 1) 1,.box [.dat i64 b',.dat a' c',.dat i64 (1:Int),.dat a' (B1 1)]),(zk 0 1,.box [.dat i64 b',.dat a' c']),(0,.box [.dat i64 b',.dat a' c',.dat i64 (1:Int),.dat a' (B1 1)])])) .fail) .fail) (.ite (D7 (Ax s)) (.ite (D7 (Sp.AL s)) (.leaf (zt [.dat i64 b',.dat a' c',.dat i64 (CT (Sp.AL s)),.dat a' (C0 (Sp.AL s))]) ([(0,.box [.dat i64 b',.dat a' c',.dat i64 (CT (Sp.AL s)),.dat a' (C0 (Sp.AL s))])])) .fail) .fail)) .fail:=by kernel_rfl
end T87
namespace T175
def T(a b:Int×List Int):Tr:=tree Sn false 9 175 (Ah ([zo i64 (zh (zg ze)),zo i64 (zh (zg ze))]) (a,b))
def L1(o2 o1:Int)(o1_1:List Int)(o0:Int)(o0_1:List Int):Tr:=re ((T (0,[]) (0,[])).L.L.L.L) (AH 21 [(2,.ptr 0 0),(3,.ptr 1 0),(4,.ptr 2 0)] [(2,.box [.dat i64 o2,.nil]),(1,.box [.dat i64 o1,.dat (zh (zg ze)) o1_1]),(0,.box [.dat i64 o0,.dat (zh (zg ze)) o0_1])] 3)
theorem Am(a b:Int×List Int):T a b=.ite (C8 (fst b,snd b)) (.ite (decide (Hf (fst b,snd b)<0)) (.ite (C8 (fst a,snd a)) (.ite (C8 (fst b,snd b)) (L1 0 (D2 (fst b,snd b)) (D3 (fst b,snd b)) (D2 (fst a,snd a)) (D3 (fst a,snd a))) .fail) .fail) (L1 0 (fst b) (snd b) (fst a) (snd a))) .fail:=by kernel_rfl
theorem As(o2 o1:Int)(o1_1:List Int)(o0:Int)(o0_1:List Int):stepT Sn (L1 o2 o1 o1_1 o0 o0_1)=let a':=zh (zg ze);let b':=Xe (o0,o0_1) (o1,o1_1);let c':=WT (o0,o0_1) (o1,o1_1);.ite (A5 (o0,o0_1)&&A5 (o1,o1_1)&&decide (0<yj (o1,o1_1))) (.leaf (zt [.dat i64 b',.dat a' c']) ([(zk 3 1,.box [.dat i64 (SW (o0,o0_1) (o1,o1_1)),.dat a' (Tu (o0,o0_1) (o1,o1_1))]),(3,.box [.dat i64 b',.dat a' c']),(2,.box [.dat i64 b',.dat a' c']),(1,.box [.dat i64 o1,.dat a' o1_1]),(0,.box [.dat i64 o0,.dat a' o0_1])])) .fail:=by kernel_rfl
end T175
namespace T104
def T(n d:Int×List Int):Tr:=tree oH false 9 104 (Ah ([zo i64 (zh (zg ze)),zo i64 (zh (zg ze))]) (n,d))
def L1(o2 o2_1 o1:Int)(o1_1:List Int)(o0:Int)(o0_1:List Int):Tr:=re ((T (0,[]) (0,[])).L.L.L.L) (AH 34 [(2,.ptr 0 0),(3,.ptr 1 0),(4,.ptr 2 0)] [(2,.box [.dat i64 o2,.nil,.dat i64 o2_1,.nil]),(1,.box [.dat i64 o1,.dat (zh (zg ze)) o1_1]),(0,.box [.dat i64 o0,.dat (zh (zg ze)) o0_1])] 3)
theorem Am(n d:Int×List Int):T n d=.ite (C8 (fst d,snd d)) (.ite (decide (Hf (fst d,snd d)<0)) (.ite (C8 (fst n,snd n)) (.ite (C8 (fst d,snd d)) (L1 0 0 (D2 (fst d,snd d)) (D3 (fst d,snd d)) (D2 (fst n,snd n)) (D3 (fst n,snd n))) .fail) .fail) (L1 0 0 (fst d) (snd d) (fst n) (snd n))) .fail:=by kernel_rfl
def L2(o3:Int)(o3_1:List Int)(o2 o2_1 o1:Int)(o1_1:List Int)(o0:Int)(o0_1:List Int):Tr:=re ((stepT oH (L1 0 0 0 [] 0 [])).L.R.L) (AH 34 [(2,.ptr 0 0),(3,.ptr 1 0),(4,.ptr 2 0),(5,.ptr 3 0)] [(3,.box [.dat i64 o3,.dat (zh (zg ze)) o3_1]),(2,.box [.dat i64 o2,.nil,.dat i64 o2_1,.nil]),(1,.box [.dat i64 o1,.dat (zh (zg ze)) o1_1]),(0,.box [.dat i64 o0,.dat (zh (zg ze)) o0_1])] 4)
theorem As(o2 o2_1 o1:Int)(o1_1:List Int)(o0:Int)(o0_1:List Int):stepT oH (L1 o2 o2_1 o1 o1_1 o0 o0_1)=let a':=zh (zg ze);let b':Tr:=.ite (A5 (o0,o0_1)&&A5 (o1,o1_1)) (L2 (LM (o0,o0_1) (o1,o1_1)) (Mh (o0,o0_1) (o1,o1_1)) o2 o2_1 o1 o1_1 o0 o0_1) .fail;.ite (!decide (0<length o1_1)) (.ite (o1==1) (.leaf (zt [.dat i64 o0,.dat a' o0_1,.dat i64 o1,.dat a' o1_1]) ([(2,.box [.dat i64 o0,.dat a' o0_1,.dat i64 o1,.dat a' o1_1]),(1,.box [.dat i64 o1,.dat a' o1_1]),(0,.box [.dat i64 o0,.dat a' o0_1])])) b') b':=by kernel_rfl
theorem A3(o3:Int)(o3_1:List Int)(o2 o2_1 o1:Int)(o1_1:List Int)(o0:Int)(o0_1:List Int):stepT oH (L2 o3 o3_1 o2 o2_1 o1 o1_1 o0 o0_1)=let a':=zh (zg ze);let b':=xF (o0,o0_1) (o3,o3_1);let c':=xI (o0,o0_1) (o3,o3_1);let d':=xF (o1,o1_1) (o3,o3_1);let e':=xI (o1,o1_1) (o3,o3_1);.ite (Jy (o0,o0_1) (o3,o3_1)) (.ite (Jy (o1,o1_1) (o3,o3_1)) (.leaf (zt [.dat i64 b',.dat a' c',.dat i64 d',.dat a' e']) ([(3,.box [.dat i64 o3,.dat a' o3_1]),(2,.box [.dat i64 b',.dat a' c',.dat i64 d',.dat a' e']),(1,.box [.dat i64 o1,.dat a' o1_1]),(0,.box [.dat i64 o0,.dat a' o0_1])])) .fail) .fail:=by kernel_rfl
end T104
namespace T156
def T(a:(Int×List Int)×Int×List Int):Tr:=tree Sn false 9 156 (Ah ([zo (zo i64 (zh (zg ze))) (zo i64 (zh (zg ze)))]) a)
theorem Am(a:(Int×List Int)×Int×List Int):T a=let b':=zh (zg ze);let a':=[(0,.box [.dat i64 (fst (fst a)),.dat b' (snd (fst a)),.dat i64 (fst (snd a)),.dat b' (snd (snd a))])];.ite (!decide (0<length (snd (snd a)))) (.leaf (.dat zl (fst (snd a)==1)) a') (.leaf (.bl false) a'):=by kernel_rfl
end T156
namespace T157
def T(n:Int×List Int):Tr:=tree Sn false 9 157 (Ah ([zo i64 (zh (zg ze))]) n)
theorem Am(n:Int×List Int):T n=let a':=zh (zg ze);.ite true (.leaf (zt [.dat i64 (fst n),.dat a' (snd n),.dat i64 (1:Int),.dat a' (B1 1)]) ([(zk 0 1,.box [.dat i64 (fst n),.dat a' (snd n),.dat i64 (1:Int),.dat a' (B1 1)]),(0,.box [.dat i64 (fst n),.dat a' (snd n)])])) .fail:=by kernel_rfl
end T157
namespace T160
def T(a:(Int×List Int)×Int×List Int):Tr:=tree Sn false 9 160 (Ah ([zo (zo i64 (zh (zg ze))) (zo i64 (zh (zg ze)))]) a)
theorem Am(a:(Int×List Int)×Int×List Int):T a=let a':=zh (zg ze);let b':=(fst (fst a),snd (fst a));.ite (C8 b') (.leaf (zt [.dat i64 (D2 b'),.dat a' (D3 b'),.dat i64 (fst (snd a)),.dat a' (snd (snd a))]) ([(zk 0 1,.box [.dat i64 (D2 b'),.dat a' (D3 b'),.dat i64 (fst (snd a)),.dat a' (snd (snd a))]),(0,.box [.dat i64 (fst (fst a)),.dat a' (snd (fst a)),.dat i64 (fst (snd a)),.dat a' (snd (snd a))])])) .fail:=by kernel_rfl
end T160
namespace T80
def T(a:(Int×List Int)×Int×List Int)(b:(Int×List Int)×Int×List Int):Tr:=tree gL false 9 80 (Ah ([zo (zo i64 (zh (zg ze))) (zo i64 (zh (zg ze))),zo (zo i64 (zh (zg ze))) (zo i64 (zh (zg ze)))]) (a,b))
def L1(o2 o2_1 o1:Int)(o1_1:List Int)(o1_2:Int)(o1_3:List Int)(o0:Int)(o0_1:List Int)(o0_2:Int)(o0_3:List Int):Tr:=re ((T ((0,[]),(0,[])) ((0,[]),(0,[]))).L.L.L.R) (AH 34 [(2,.ptr 0 0),(3,.ptr 1 0),(4,.ptr 2 0)] [(2,.box [.dat i64 o2,.nil,.dat i64 o2_1,.nil]),(1,.box [.dat i64 o1,.dat (zh (zg ze)) o1_1,.dat i64 o1_2,.dat (zh (zg ze)) o1_3]),(0,.box [.dat i64 o0,.dat (zh (zg ze)) o0_1,.dat i64 o0_2,.dat (zh (zg ze)) o0_3])] 3)
theorem Am(a:(Int×List Int)×Int×List Int)(b:(Int×List Int)×Int×List Int):T a b=let a':=zh (zg ze);let b':=L1 0 0 (fst (fst b)) (snd (fst b)) (fst (snd b)) (snd (snd b)) (fst (fst a)) (snd (fst a)) (fst (snd a)) (snd (snd a));let c':=(fst (fst a),snd (fst a));let d':=(fst (fst b),snd (fst b));.ite true (.ite (CC (fst (snd a),snd (snd a))) (.ite true (.ite (CC (fst (snd b),snd (snd b))) (.ite (A5 c'&&A5 d') (.ite true (.leaf (zt [.dat i64 (Hv c' d'),.dat a' (HS c' d'),.dat i64 (1:Int),.dat a' (B1 1)]) ([(zk (zk 0 1) 1,.box [.dat i64 (Hv c' d'),.dat a' (HS c' d'),.dat i64 (1:Int),.dat a' (B1 1)]),(zk 0 1,.box [.dat i64 (fst (fst b)),.dat a' (snd (fst b)),.dat i64 (fst (snd b)),.dat a' (snd (snd b))]),(0,.box [.dat i64 (fst (fst a)),.dat a' (snd (fst a)),.dat i64 (fst (snd a)),.dat a' (snd (snd a))])])) .fail) .fail) b') .fail) b') .fail:=by kernel_rfl
theorem As(o2 o2_1 o1:Int)(o1_1:List Int)(o1_2:Int)(o1_3:List Int)(o0:Int)(o0_1:List Int)(o0_2:Int)(o0_3:List Int):stepT gL (L1 o2 o2_1 o1 o1_1 o1_2 o1_3 o0 o0_1 o0_2 o0_3)=let b':=(Ex (o0_2,o0_3) (o1_2,o1_3),Ew (o0_2,o0_3) (o1_2,o1_3));let c':=zh (zg ze);let d':=(Ex (o0,o0_1) (o1_2,o1_3),Ew (o0,o0_1) (o1_2,o1_3));let e':=(Ex (o1,o1_1) (o0_2,o0_3),Ew (o1,o1_1) (o0_2,o0_3));let a':=(Hv d' e',HS d' e');.ite (A5 (o0,o0_1)&&A5 (o1_2,o1_3)) (.ite (A5 (o1,o1_1)&&A5 (o0_2,o0_3)) (.ite (A5 d'&&A5 e') (.ite (A5 (o0_2,o0_3)&&A5 (o1_2,o1_3)) (.ite (Jy a' b') (.leaf (zt [.dat i64 (UP a' b'),.dat c' (Vd a' b'),.dat i64 (Vp a' b'),.dat c' (Vf a' b')]) ([(2,.box [.dat i64 (UP a' b'),.dat c' (Vd a' b'),.dat i64 (Vp a' b'),.dat c' (Vf a' b')]),(1,.box [.dat i64 o1,.dat c' o1_1,.dat i64 o1_2,.dat c' o1_3]),(0,.box [.dat i64 o0,.dat c' o0_1,.dat i64 o0_2,.dat c' o0_3])])) .fail) .fail) .fail) .fail) .fail:=by kernel_rfl
end T80
namespace T82
def T(a:(Int×List Int)×Int×List Int)(b:(Int×List Int)×Int×List Int):Tr:=tree gL false 9 82 (Ah ([zo (zo i64 (zh (zg ze))) (zo i64 (zh (zg ze))),zo (zo i64 (zh (zg ze))) (zo i64 (zh (zg ze)))]) (a,b))
theorem Am(a:(Int×List Int)×Int×List Int)(b:(Int×List Int)×Int×List Int):T a b=let c':=zh (zg ze);let d':=(fst (fst a),snd (fst a));let e':=(fst (fst b),snd (fst b));let f':=(fst (snd a),snd (snd a));let g':=(fst (snd b),snd (snd b));let a':=(Ex d' e',Ew d' e');let b':=(Ex f' g',Ew f' g');.ite (A5 d'&&A5 e') (.ite (A5 f'&&A5 g') (.ite (Jy a' b') (.leaf (zt [.dat i64 (UP a' b'),.dat c' (Vd a' b'),.dat i64 (Vp a' b'),.dat c' (Vf a' b')]) ([(zk (zk 0 1) 1,.box [.dat i64 (UP a' b'),.dat c' (Vd a' b'),.dat i64 (Vp a' b'),.dat c' (Vf a' b')]),(zk 0 1,.box [.dat i64 (fst (fst b)),.dat c' (snd (fst b)),.dat i64 (fst (snd b)),.dat c' (snd (snd b))]),(0,.box [.dat i64 (fst (fst a)),.dat c' (snd (fst a)),.dat i64 (fst (snd a)),.dat c' (snd (snd a))])])) .fail) .fail) .fail:=by kernel_rfl
end T82
namespace T161
def T(a:(Int×List Int)×Int×List Int):Tr:=tree gL false 9 161 (Ah ([zo (zo i64 (zh (zg ze))) (zo i64 (zh (zg ze)))]) a)
theorem Am(a:(Int×List Int)×Int×List Int):T a=let a':=(fst (snd a),snd (snd a));let b':=(fst (fst a),snd (fst a));let c':=zh (zg ze);.ite (Jy a' b') (.leaf (zt [.dat i64 (UP a' b'),.dat c' (Vd a' b'),.dat i64 (Vp a' b'),.dat c' (Vf a' b')]) ([(zk 0 1,.box [.dat i64 (UP a' b'),.dat c' (Vd a' b'),.dat i64 (Vp a' b'),.dat c' (Vf a' b')]),(0,.box [.dat i64 (fst (fst a)),.dat c' (snd (fst a)),.dat i64 (fst (snd a)),.dat c' (snd (snd a))])])) .fail:=by kernel_rfl
end T161
namespace T81
def T(a:(Int×List Int)×Int×List Int)(b:(Int×List Int)×Int×List Int):Tr:=tree uK false 9 81 (Ah ([zo (zo i64 (zh (zg ze))) (zo i64 (zh (zg ze))),zo (zo i64 (zh (zg ze))) (zo i64 (zh (zg ze)))]) (a,b))
theorem Am(a:(Int×List Int)×Int×List Int)(b:(Int×List Int)×Int×List Int):T a b=let b':=((fst (fst a),snd (fst a)),fst (snd a),snd (snd a));let c':=zh (zg ze);let d':=(fst (fst b),snd (fst b));let a':=((D2 d',D3 d'),fst (snd b),snd (snd b));.ite (C8 d') (.ite (Sp.Dj b'&&Sp.Dj a') (.leaf (zt [.dat i64 (eI b' a'),.dat c' (eH b' a'),.dat i64 (fX b' a'),.dat c' (dQ b' a')]) ([(zk (zk 0 1) 1,.box [.dat i64 (eI b' a'),.dat c' (eH b' a'),.dat i64 (fX b' a'),.dat c' (dQ b' a')]),(zk 0 1,.box [.dat i64 (fst (fst b)),.dat c' (snd (fst b)),.dat i64 (fst (snd b)),.dat c' (snd (snd b))]),(0,.box [.dat i64 (fst (fst a)),.dat c' (snd (fst a)),.dat i64 (fst (snd a)),.dat c' (snd (snd a))])])) .fail) .fail:=by kernel_rfl
end T81
namespace T86
def T(a:(Int×List Int)×Int×List Int)(b:(Int×List Int)×Int×List Int):Tr:=tree uK false 9 86 (Ah ([zo (zo i64 (zh (zg ze))) (zo i64 (zh (zg ze))),zo (zo i64 (zh (zg ze))) (zo i64 (zh (zg ze)))]) (a,b))
theorem Am(a:(Int×List Int)×Int×List Int)(b:(Int×List Int)×Int×List Int):T a b=let b':=((fst (fst a),snd (fst a)),fst (snd a),snd (snd a));let c':=zh (zg ze);let e':=(fst (fst b),snd (fst b));let d':=(e',fst (snd b),snd (snd b));let a':=T6 d';.ite (Sp.Dj d'&&decide (yj e'≠0)) (.ite (Sp.Dj b'&&Sp.Dj a') (.leaf (zt [.dat i64 (aY b' a'),.dat c' (ZE b' a'),.dat i64 (dN b' a'),.dat c' (dC b' a')]) ([(zk (zk 0 1) 1,.box [.dat i64 (aY b' a'),.dat c' (ZE b' a'),.dat i64 (dN b' a'),.dat c' (dC b' a')]),(zk 0 1,.box [.dat i64 (fst (fst b)),.dat c' (snd (fst b)),.dat i64 (fst (snd b)),.dat c' (snd (snd b))]),(0,.box [.dat i64 (fst (fst a)),.dat c' (snd (fst a)),.dat i64 (fst (snd a)),.dat c' (snd (snd a))])])) .fail) .fail:=by kernel_rfl
end T86
namespace T88
def T(a:(Int×List Int)×Int×List Int)(b:(Int×List Int)×Int×List Int):Tr:=tree Sn false 9 88 (Ah ([zo (zo i64 (zh (zg ze))) (zo i64 (zh (zg ze))),zo (zo i64 (zh (zg ze))) (zo i64 (zh (zg ze)))]) (a,b))
theorem Am(a:(Int×List Int)×Int×List Int)(b:(Int×List Int)×Int×List Int):T a b=let c':=zh (zg ze);let d':=(fst (fst a),snd (fst a));let e':=(fst (snd b),snd (snd b));let f':=(fst (fst b),snd (fst b));let g':=(fst (snd a),snd (snd a));let a':=(Ex d' e',Ew d' e');let b':=(Ex f' g',Ew f' g');.ite (A5 d'&&A5 e') (.ite (A5 f'&&A5 g') (.ite (A5 a'&&A5 b') (.leaf (.dat i64 (X4 a' b')) ([(zk 0 1,.box [.dat i64 (fst (fst b)),.dat c' (snd (fst b)),.dat i64 (fst (snd b)),.dat c' (snd (snd b))]),(0,.box [.dat i64 (fst (fst a)),.dat c' (snd (fst a)),.dat i64 (fst (snd a)),.dat c' (snd (snd a))])])) .fail) .fail) .fail:=by kernel_rfl
end T88
namespace T112
def T(a:(Int×List Int)×Int×List Int):Tr:=tree Sn false 9 112 (Ah ([zo (zo i64 (zh (zg ze))) (zo i64 (zh (zg ze)))]) a)
theorem Am(a:(Int×List Int)×Int×List Int):T a=let a':=(fst (snd a),snd (snd a));let b':=(fst (fst a),snd (fst a));let c':=zh (zg ze);let d':=Xe b' a';let e':=WT b' a';.ite (A5 b'&&A5 a'&&decide (0<yj a')) (.leaf (zt [.dat i64 d',.dat c' e']) ([(zk (zk (zk 0 1) 1) 1,.box [.dat i64 (SW b' a'),.dat c' (Tu b' a')]),(zk (zk 0 1) 1,.box [.dat i64 d',.dat c' e']),(zk 0 1,.box [.dat i64 d',.dat c' e']),(0,.box [.dat i64 (fst (fst a)),.dat c' (snd (fst a)),.dat i64 (fst (snd a)),.dat c' (snd (snd a))])])) .fail:=by kernel_rfl
end T112
end
noncomputable section
open List Int Prod
namespace T89
def T(s:List UInt8):Tr:=tree IT false 9 89 (Ah ([zm]) s)
def L1(v0:List UInt8)(v3:Int):Tr:=re ((T [])) (AH 17 [(0,.dat zm v0),(3,.dat i64 v3)] [] 0)
theorem Am(s:List UInt8):T s=L1 s 0:=by kernel_rfl
theorem As(v0:List UInt8)(v3:Int):stepT IT (L1 v0 v3)=let a':=(length v0:Int);.ite (decide (v3<a')) (.ite (decide (0≤v3)&&decide (v3<a')) (.ite ((↑(zn (getD v0 (toNat v3) (0:UInt8))):Int)==47) (.leaf (.dat i64 v3) []) (L1 v0 (zc .i64 (v3+1)))) .fail) (.leaf (.dat i64 a') []):=by kernel_rfl
end T89
namespace T90
def T(s:List UInt8):Tr:=tree IT false 9 90 (Ah ([zm]) s)
def L1(s v0:List UInt8)(v3:Int):Tr:=re ((T s).R.L.L.R) (AH 20 [(0,.dat zm v0),(3,.dat i64 v3)] [] 0)
def L2(s v0:List UInt8)(v3:Int):Tr:=re ((T s).R.R) (AH 20 [(0,.dat zm v0),(3,.dat i64 v3)] [] 0)
theorem Am(s:List UInt8):T s=let a':=(length s:Int);.ite (a'==0) (.leaf (.bl false) []) (.ite (decide (a'>1)) (.ite (decide (0<a')) (.ite ((↑(zn (getD s 0 (0:UInt8))):Int)==48) (.leaf (.bl false) []) (L1 s s 0)) .fail) (L2 s s 0)):=by kernel_rfl
theorem As(s v0:List UInt8)(v3:Int):stepT IT (L1 s v0 v3)=let a':=decide (v3<(length v0:Int));let b':=(↑(zn (getD v0 (toNat v3) (0:UInt8))):Int);.ite (a') (.ite (decide (0≤v3)&&a') (.ite (decide (b'<48)) (.leaf (.bl false) []) (.ite (decide (0≤v3)&&a') (.ite (decide (b'>57)) (.leaf (.bl false) []) (L1 s v0 (zc .i64 (v3+1)))) .fail)) .fail) (.leaf (.bl true) []):=by kernel_rfl
theorem A3(s v0:List UInt8)(v3:Int):stepT IT (L2 s v0 v3)=let a':=decide (v3<(length v0:Int));let b':=(↑(zn (getD v0 (toNat v3) (0:UInt8))):Int);.ite (a') (.ite (decide (0≤v3)&&a') (.ite (decide (b'<48)) (.leaf (.bl false) []) (.ite (decide (0≤v3)&&a') (.ite (decide (b'>57)) (.leaf (.bl false) []) (L2 s v0 (zc .i64 (v3+1)))) .fail)) .fail) (.leaf (.bl true) []):=by kernel_rfl
end T90
namespace T107
def T(n:Int):Tr:=tree jI false 9 107 (Ah ([zg z6]) n)
def L1(v0:Int)(v4:Bool):Tr:=re ((T 0)) (AH 25 [(0,.dat i64 v0),(2,.ptr 0 0),(3,.nil),(4,.dat zl v4)] [(0,.box [.bl false,.nil])] 1)
theorem Am(n:Int):T n=L1 n (decide (n<0)):=by kernel_rfl
def L2(v0:Int)(v3n:Nat)(v4:Bool)(o1:List Int):Tr:=re ((stepT jI (L1 0 false)).L.L.L.L.L) (AH 25 [(0,.dat i64 v0),(2,.ptr 0 0),(3,.sl 1 1 0 v3n none),(4,.dat zl v4)] [(1,.arr false 3 i64 o1),(0,.box [.bl false,.nil])] 2)
theorem As(v0:Int)(v4:Bool):stepT jI (L1 v0 v4)=let a':=decide (1≤1)&&decide (0<1)&&decide ((2*1+1000)*8≤281474976710656);let b':=zc .i64 (z7 v0 1000000000);.ite (v0 !=0) (.ite true (.ite (decide (zO v0 1000000000<0)) (.ite a' (.ite true (L2 b' 1 v4 ([zc .i64 (0-zO v0 1000000000)])) .fail) .fail) (.ite a' (.ite true (L2 b' 1 v4 ([zO v0 1000000000])) .fail) .fail)) .fail) (.ite (decide (0≤20000)) (.leaf (zt [.dat zl (Sp.B4 v4 []),.dat (zj i64) (Sp.Ar [])]) ([(0,.box [.dat zl (Sp.B4 v4 []),.dat (zj i64) (Sp.Ar [])])])) .fail):=by kernel_rfl
theorem A3(v0:Int)(v3n:Nat)(v4:Bool)(o1:List Int):stepT jI (L2 v0 v3n v4 o1)=let a':=decide (1≤1)&&true&&decide (v3n=length o1)&&decide ((2*(v3n+1)+1000)*8≤281474976710656);let b':=zc .i64 (z7 v0 1000000000);let c':=Sp.B4 v4 (take v3n o1);let d':=Sp.Ar (take v3n o1);.ite (v0 !=0) (.ite true (.ite (decide (zO v0 1000000000<0)) (.ite a' (.ite true (L2 b' (zk v3n 1) v4 (o1++[zc .i64 (0-zO v0 1000000000)])) .fail) .fail) (.ite a' (.ite true (L2 b' (zk v3n 1) v4 (o1++[zO v0 1000000000])) .fail) .fail)) .fail) (.ite (decide (0+v3n≤length o1)&&true&&decide (length (take v3n o1)≤20000)) (.leaf (zt [.dat zl c',.dat (zj i64) d']) ([(1,.arr true 3 i64 o1),(0,.box [.dat zl c',.dat (zj i64) d'])])) .fail):=by kernel_rfl
end T107
end
end Go.Pe
end
section
namespace Go.Pe
open Sp
open Go.Det
noncomputable section
open List Int Prod
namespace T91
def T(a:List UInt8):Tr:=tree yB false 9 91 (Ah ([zm]) a)
theorem Am(a:List UInt8):T a=let b':=take (toNat (AV a)) a;let c':=zc .i64 (AV a+1);let a':=take (zL (length a) (toNat c')) (drop (toNat c') a);.ite (decide (length a≤1000000)) (.ite (AV a==(length a:Int)) (.ite (D7 a) (.ite true (.leaf (.tup [zt [.dat zl (EL a),.dat (zj i64) (EK a)],zt [.dat zl false,.dat (zj i64) (Sp.rW 1)]]) ([(zk 0 1,.box [.dat zl false,.dat (zj i64) (Sp.rW 1)]),(0,.box [.dat zl (EL a),.dat (zj i64) (EK a)])])) .fail) .fail) (.ite (decide (0≤AV a)&&decide (0≤toNat (AV a))&&decide (toNat (AV a)≤length a)) (.ite (decide (0≤zc .i64 (AV a+1))&&true&&decide (toNat c'≤length a)&&decide (length a≤length a)) (.ite (D7 b') (.ite (D7 a') (.leaf (.tup [zt [.dat zl (EL b'),.dat (zj i64) (EK b')],zt [.dat zl (EL a'),.dat (zj i64) (EK a')]]) ([(zk 0 1,.box [.dat zl (EL a'),.dat (zj i64) (EK a')]),(0,.box [.dat zl (EL b'),.dat (zj i64) (EK b')])])) .fail) .fail) .fail) .fail)) .fail:=by kernel_rfl
end T91
end
end Go.Pe
end
section
namespace Go.Pe
open Sp
open Go.Det
noncomputable section
open List Int Prod
namespace T24
def T(a:List UInt8):Tr:=tree So false 9 24 (Ah ([zm]) a)
def L1(v0 v3:List UInt8):Tr:=re ((T []).L.L.L.L) (AH 96 [(0,.dat zm v0),(3,.dat zm v3)] [] 0)
theorem Am(a:List UInt8):T a=.ite (decide ((length a:Int)>0)) (.ite (decide (0<(length a:Int))) (.ite ((↑(zn (getD a 0 (0:UInt8))):Int)==45) (.ite (decide (1≤length a)&&decide (length a≤length a)) (L1 a (take (zL (length a) 1) (drop 1 a))) .fail) (L1 a a)) .fail) (L1 a a):=by kernel_rfl
def L2(v3:List UInt8)(v4:Int):Tr:=re ((stepT So (L1 [] [])).L.L.L.R.L.L.L.R) (AH 96 [(3,.dat zm v3),(4,.dat i64 v4)] [] 0)
theorem As(v0 v3:List UInt8):stepT So (L1 v0 v3)=let b':=AV v3;let c':Tr:=.leaf (.dat i64 (1:Int)) [];let a':=decide (0≤AV v3)&&decide (0≤toNat b')&&decide (toNat b'≤length v3);.ite (decide (length v3≤1000000)) (.ite a' (.ite (decide (length (take (toNat b') v3)≤1000000)) (.ite (!AR (take (toNat b') v3)) c' (.ite (decide (0<(length v0:Int))) (.ite ((↑(zn (getD v0 0 (0:UInt8))):Int)==45) (.ite a' (.ite (take (toNat b') v3==[(48:UInt8)]) c' (L2 v3 b')) .fail) (L2 v3 b')) .fail)) .fail) .fail) .fail:=by kernel_rfl
def L3(v3:List UInt8)(v4:Int):Tr:=re ((stepT So (L2 [] 0)).L.L.L.R.L.R.L.R) (AH 96 [(3,.dat zm v3),(4,.dat i64 v4)] [] 0)
theorem A3(v3:List UInt8)(v4:Int):stepT So (L2 v3 v4)=let d':Tr:=.leaf (.dat i64 (1:Int)) [];let e':=zc .i64 (v4+1);let a':=decide (0≤zc .i64 (v4+1))&&true&&decide (toNat e'≤length v3)&&decide (length v3≤length v3);let b':=toNat e';let c':=zL (length v3) b';.ite (decide (v4<(length v3:Int))) (.ite a' (.ite (decide (length (take c' (drop b' v3))≤1000000)) (.ite (!AR (take c' (drop b' v3))) d' (.ite a' (.ite (take c' (drop b' v3)==[(48:UInt8)]) d' (.ite a' (.ite (take c' (drop b' v3)==[(49:UInt8)]) d' (L3 v3 v4)) .fail)) .fail)) .fail) .fail) (L3 v3 v4):=by kernel_rfl
def L4(v3:List UInt8)(v4:Int):Tr:=re ((stepT So (L3 [] 0)).R.R) (AH 96 [(3,.dat zm v3),(4,.dat i64 v4)] [] 0)
theorem C9(v3:List UInt8)(v4:Int):stepT So (L3 v3 v4)=let a':Tr:=.leaf (.dat i64 (4:Int)) [];.ite (decide (v4>600)) a' (.ite (decide (zc .i64 (zc .i64 ((length v3:Int)-v4)-1)>600)) a' (L4 v3 v4)):=by kernel_rfl
def L5(o1:Bool)(o1_1:List Int)(o0:Bool)(o0_1:List Int):Tr:=re ((stepT So (L4 [] 0)).L.L) (AH 96 [(5,.ptr 0 0),(6,.ptr 1 0)] [(1,.box [.dat zl o1,.dat (zj i64) o1_1]),(0,.box [.dat zl o0,.dat (zj i64) o0_1])] 2)
theorem Dp(v3:List UInt8)(v4:Int):stepT So (L4 v3 v4)=.ite (decide (v4<(length v3:Int))) (.ite (Ho v3) (L5 (Bg v3) (Bd v3) (Bx v3) (Bp v3)) .fail) (.leaf (.dat i64 (0:Int)) []):=by kernel_rfl
def L6(v7:List Int):Tr:=re ((stepT So (L5 false [] false [])).L) (AH 96 [(7,.dat (zj i64) v7)] [] 0)
theorem Gr(o1:Bool)(o1_1:List Int)(o0:Bool)(o0_1:List Int):stepT So (L5 o1 o1_1 o0 o0_1)=.ite (A4 o0_1&&A4 o1_1&&decide (length o0_1≤9000)&&decide (length o1_1≤9000)) (L6 (Cc o0_1 o1_1)) .fail:=by kernel_rfl
theorem Hg(v7:List Int):stepT So (L6 v7)=let a':Tr:=.leaf (.dat i64 (1:Int)) [];.ite ((length v7:Int) !=1) a' (.ite (decide (0<(length v7:Int))) (.ite (getD v7 0 0 !=1) a' (.leaf (.dat i64 (0:Int)) [])) .fail):=by kernel_rfl
end T24
end
end Go.Pe
end
section
namespace Go.Pe
open Sp
open Go.Det
noncomputable section
open List Int Prod
namespace T83
def T(l:List Int):Tr:=tree IT false 9 83 (Ah ([zj i64]) l)
def L1(v5:List Int)(v6 v7:Int):Tr:=re ((T [])) (AH 15 [(5,.dat (zj i64) v5),(6,.dat i64 v6),(7,.dat i64 v7)] [] 0)
theorem Am(l:List Int):T l=L1 l ((length l:Int)) 0:=by kernel_rfl
theorem As(v5:List Int)(v6 v7:Int):stepT IT (L1 v5 v6 v7)=.ite (decide (v7<v6)) (.ite (decide (0≤v7)&&decide (v7<(length v5:Int))) (.ite (getD v5 (toNat v7) 0 !=0) (.leaf (.dat i64 (getD v5 (toNat v7) 0)) []) (L1 v5 v6 (zc .i64 (v7+1)))) .fail) (.leaf (.dat i64 (0:Int)) []):=by kernel_rfl
end T83
namespace T85
def T(b:Bool)(e:Int):Tr:=tree IT false 9 85 (Ah ([zl,zg z6]) (b,e))
theorem Am(b:Bool)(e:Int):T b e=.ite b (.leaf (.dat i64 e) []) (.leaf (.dat i64 (0:Int)) []):=by kernel_rfl
end T85
namespace T77
def T(a:List UInt8):Tr:=tree KT false 9 77 (Ah ([zm]) a)
def L1(v5 v6:List UInt8)(v7:Bool):Tr:=re ((T []).L.L.L.L.L) (AH 76 [(5,.dat zm v5),(6,.dat zm v6),(7,.dat zl v7),(8,.bl true)] [] 0)
def L2(v5 v6:List UInt8)(v7 v8:Bool):Tr:=re ((T []).L.L.L.L.R) (AH 76 [(5,.dat zm v5),(6,.dat zm v6),(7,.dat zl v7),(8,.dat zl v8)] [] 0)
def L3(v5 v6:List UInt8)(v7:Bool):Tr:=re ((T []).L.L.L.R) (AH 76 [(5,.dat zm v5),(6,.dat zm v6),(7,.dat zl v7),(8,.bl false)] [] 0)
theorem Am(a:List UInt8):T a=let a':=Ax (AY a);let b':=Sp.AL (AY a);let c':=Bk (AY a);.ite (RX a [(45:UInt8)]) (.ite (rA (AY a) [(47:UInt8)]) (.ite (decide (length a'≤1000000)) (.ite (AR a') (.ite (!Sp.preB a) (L1 a' b' c') (L2 a' b' c' (!Ax (AY a)==[(48:UInt8)]))) (L3 a' b' c')) .fail) .fail) .fail:=by kernel_rfl
def L4(v5 v6:List UInt8)(v7 v8:Bool):Tr:=re ((stepT KT (L1 [] [] false)).L.L.L.L) (AH 76 [(5,.dat zm v5),(6,.dat zm v6),(7,.dat zl v7),(8,.dat zl v8)] [] 0)
def L5(v5 v6:List UInt8)(v7:Bool):Tr:=re ((stepT KT (L1 [] [] false)).L.L.L.R) (AH 76 [(5,.dat zm v5),(6,.dat zm v6),(7,.dat zl v7),(8,.bl false)] [] 0)
def L6(v5 v6:List UInt8)(v7:Bool):Tr:=re ((stepT KT (L1 [] [] false)).R) (AH 76 [(5,.dat zm v5),(6,.dat zm v6),(7,.dat zl v7),(8,.bl true)] [] 0)
theorem As(v5 v6:List UInt8)(v7:Bool):stepT KT (L1 v5 v6 v7)=.ite v7 (.ite (decide (length v6≤1000000)) (.ite (AR v6) (.ite (!v6==[(48:UInt8)]) (L4 v5 v6 v7 (!v6==[(49:UInt8)])) (L5 v5 v6 v7)) (L5 v5 v6 v7)) .fail) (L6 v5 v6 v7):=by kernel_rfl
theorem A3(v5 v6:List UInt8)(v7 v8:Bool):stepT KT (L2 v5 v6 v7 v8)=.ite v7 (.ite v8 (.ite (decide (length v6≤1000000)) (.ite (AR v6) (.ite (!v6==[(48:UInt8)]) (L4 v5 v6 v7 (!v6==[(49:UInt8)])) (L5 v5 v6 v7)) (L5 v5 v6 v7)) .fail) (L5 v5 v6 v7)) (L4 v5 v6 v7 v8):=by kernel_rfl
theorem C9(v5 v6:List UInt8)(v7:Bool):stepT KT (L3 v5 v6 v7)=.ite v7 (L5 v5 v6 v7) (L5 v5 v6 v7):=by kernel_rfl
def L7(v5 v6:List UInt8)(v7:Bool)(v9:Int):Tr:=re ((stepT KT (L4 [] [] false false)).L.L.L.L) (AH 76 [(5,.dat zm v5),(6,.dat zm v6),(7,.dat zl v7),(9,.dat i64 v9)] [] 0)
theorem Dp(v5 v6:List UInt8)(v7 v8:Bool):stepT KT (L4 v5 v6 v7 v8)=let a':=decide (2≤2)&&true&&decide (2≤1000000);.ite true (.ite (decide ((length v5:Int)>600)) (.ite true (.ite a' (L7 v5 v6 v7 (yc [P4 (!v8) 1,P4 true 4])) .fail) .fail) (.ite true (.ite a' (L7 v5 v6 v7 (yc [P4 (!v8) 1,P4 (decide ((length v6:Int)>600)) 4])) .fail) .fail)) .fail:=by kernel_rfl
theorem Gr(v5 v6:List UInt8)(v7:Bool):stepT KT (L5 v5 v6 v7)=.ite true (.ite (decide ((length v5:Int)>600)) (.ite true (.ite true (L7 v5 v6 v7 (yc [P4 true 1,P4 true 4])) .fail) .fail) (.ite true (.ite (decide (2≤2)&&true&&decide (2≤1000000)) (L7 v5 v6 v7 (yc [P4 true 1,P4 (decide ((length v6:Int)>600)) 4])) .fail) .fail)) .fail:=by kernel_rfl
theorem Hg(v5 v6:List UInt8)(v7:Bool):stepT KT (L6 v5 v6 v7)=.ite true (.ite (decide ((length v5:Int)>600)) (.ite true (.ite true (L7 v5 v6 v7 (yc [P4 false 1,P4 true 4])) .fail) .fail) (.ite true (.ite (decide (2≤2)&&true&&decide (2≤1000000)) (L7 v5 v6 v7 (yc [P4 false 1,P4 (decide ((length v6:Int)>600)) 4])) .fail) .fail)) .fail:=by kernel_rfl
def L8(v5 v6:List UInt8)(v7:Bool):Tr:=re ((stepT KT (L7 [] [] false 0)).R) (AH 76 [(5,.dat zm v5),(6,.dat zm v6),(7,.dat zl v7)] [] 0)
theorem FT(v5 v6:List UInt8)(v7:Bool)(v9:Int):stepT KT (L7 v5 v6 v7 v9)=.ite (v9 !=0) (.leaf (.dat i64 v9) []) (L8 v5 v6 v7):=by kernel_rfl
def L9(v10:Bool):Tr:=re ((stepT KT (L8 [] [] false)).L.L.L.L.L.L) (AH 76 [(10,.dat zl v10)] [] 0)
def yM:Tr:=re ((stepT KT (L8 [] [] false)).R) (AH 76 [(10,.bl false)] [] 0)
theorem I5(v5 v6:List UInt8)(v7:Bool):stepT KT (L8 v5 v6 v7)=let a':=(LM (CT v5,C0 v5) (CT v6,C0 v6),Mh (CT v5,C0 v5) (CT v6,C0 v6));.ite v7 (.ite (D7 v5) (.ite (D7 v6) (.ite (A5 (CT v5,C0 v5)&&A5 (CT v6,C0 v6)) (.ite true (.ite (A5 a'&&A5 (1,B1 1)) (L9 (X4 a' (1,B1 1) !=0)) .fail) .fail) .fail) .fail) .fail) yM:=by kernel_rfl
theorem vC(v10:Bool):stepT KT (L9 v10)=.ite true (.leaf (.dat i64 (P4 v10 1)) []) .fail:=by kernel_rfl
theorem qX:stepT KT yM=.ite true (.leaf (.dat i64 (P4 false 1)) []) .fail:=by kernel_rfl
end T77
end
end Go.Pe
end
section
namespace Go.Pe
open Sp
open Go.Det
noncomputable section
open List Int Prod
namespace T153
def T(s:List UInt8):Tr:=tree Pf false 9 153 (Ah ([zm]) s)
def L1(v0:List UInt8)(v3:Bool)(o1 o0:Int):Tr:=re ((T []).L.L.L.L.L.L) (AH 41 [(0,.dat zm v0),(2,.ptr 0 0),(3,.dat zl v3),(4,.ptr 1 0)] [(1,.box [.dat i64 o1,.nil]),(0,.box [.dat i64 o0,.nil])] 2)
def L2(v0:List UInt8)(o1 o0:Int):Tr:=re ((T []).R.L.L.L.L) (AH 41 [(0,.dat zm v0),(2,.ptr 0 0),(3,.bl false),(4,.ptr 1 0)] [(1,.box [.dat i64 o1,.nil]),(0,.box [.dat i64 o0,.nil])] 2)
theorem Am(s:List UInt8):T s=let a':=take 1 s==[(45:UInt8)];let b':=decide ((length s:Int)≥1);let c':=decide (1≤length s)&&decide (length s≤length s);let d':=decide (1≤length s);let e':=take (zL (length s) 1) (drop 1 s);.ite b' (.ite d' (.ite b' (.ite d' (.ite a' (.ite c' (L1 e' a' 0 0) .fail) (L1 s a' 0 0)) .fail) (L1 s a' 0 0)) .fail) (.ite b' (.ite d' (.ite a' (.ite c' (L2 e' 0 0) .fail) (L2 s 0 0)) .fail) (L2 s 0 0)):=by kernel_rfl
def L3(v0:List UInt8)(v3:Bool)(o1 o0:Int)(v5:List UInt8)(v6:Int)(v47n:Nat)(v48 v49:Int)(o2:List Int)(o1':Int)(o0':Int):Tr:=re ((stepT Pf (L1 v0 v3 o1 o0)).L.L.L.L.L.L.L.R) (AH 77 [(5,.dat zm v5),(6,.dat i64 v6),(47,.sl 2 1 0 v47n none),(48,.dat i64 v48),(49,.dat i64 v49)] [(2,.arr false 5 (zg zV) o2),(1,.box [.dat i64 o1',.nil]),(0,.box [.dat i64 o0',.nil])] 3)
theorem As(v0:List UInt8)(v3:Bool)(o1 o0:Int):stepT Pf (L1 v0 v3 o1 o0)=let d':=(length v0:Int);let g':=zh (zg ze);let a':=take (toNat (Eg 18 d')) v0;let b':=take (zL (length a') 1) (drop 1 a');let c':=(↑(length a'):Int);let e':=decide (1≤length a')&&decide (length a'≤length a');let f':=(↑(zn (getD a' 0 (0:UInt8))):Int);let h':=decide (0<c');.ite (decide (d'>0)) (.ite (decide (0≤Eg 18 d')&&decide (0≤toNat (Eg 18 d'))&&decide (toNat (Eg 18 d')≤length v0)) (.ite h' (.ite (decide (c'<19)) (.ite h' (.ite (f'==45) (.ite e' (.ite (decide ((↑(length b'):Int)<1)) .fail (L3 v0 v3 o1 o0 a' 0 (length b') ((↑(length b'):Int)) 0 (z8 (fun b=>(↑(zn b):Int)) b') o1 o0)) .fail) (.ite h' (.ite (f'==43) (.ite e' (.ite (decide ((↑(length b'):Int)<1)) .fail (L3 v0 v3 o1 o0 a' 0 (length b') ((↑(length b'):Int)) 0 (z8 (fun b=>(↑(zn b):Int)) b') o1 o0)) .fail) (L3 v0 v3 o1 o0 a' 0 (length a') (c') 0 (z8 (fun b=>(↑(zn b):Int)) a') o1 o0)) .fail)) .fail) (.ite false .fail .fail)) (.ite false .fail .fail)) .fail) (.ite v3 (.ite (C8 (o1,[])) (.leaf (zt [.dat i64 (D2 (o1,[])),.dat g' (D3 (o1,[]))]) ([(1,.box [.dat i64 o1,.nil]),(0,.box [.dat i64 (D2 (o1,[])),.dat g' (D3 (o1,[]))])])) .fail) (.leaf (zt [.dat i64 o1,.nil]) ([(1,.box [.dat i64 o1,.nil]),(0,.box [.dat i64 o1,.nil])]))):=by kernel_rfl
def L4(v0:List UInt8)(o1 o0:Int)(v5:List UInt8)(v6:Int)(v47n:Nat)(v48 v49:Int)(o2:List Int)(o1':Int)(o0':Int):Tr:=re ((stepT Pf (L2 v0 o1 o0)).L.L.L.L.L.L.L.R) (AH 77 [(5,.dat zm v5),(6,.dat i64 v6),(47,.sl 2 1 0 v47n none),(48,.dat i64 v48),(49,.dat i64 v49)] [(2,.arr false 5 (zg zV) o2),(1,.box [.dat i64 o1',.nil]),(0,.box [.dat i64 o0',.nil])] 3)
theorem A3(v0:List UInt8)(o1 o0:Int):stepT Pf (L2 v0 o1 o0)=let d':=(length v0:Int);let a':=take (toNat (Eg 18 d')) v0;let b':=take (zL (length a') 1) (drop 1 a');let c':=(↑(length a'):Int);let e':=decide (1≤length a')&&decide (length a'≤length a');let f':=(↑(zn (getD a' 0 (0:UInt8))):Int);let g':=decide (0<c');.ite (decide (d'>0)) (.ite (decide (0≤Eg 18 d')&&decide (0≤toNat (Eg 18 d'))&&decide (toNat (Eg 18 d')≤length v0)) (.ite g' (.ite (decide (c'<19)) (.ite g' (.ite (f'==45) (.ite e' (.ite (decide ((↑(length b'):Int)<1)) .fail (L4 v0 o1 o0 a' 0 (length b') ((↑(length b'):Int)) 0 (z8 (fun b=>(↑(zn b):Int)) b') o1 o0)) .fail) (.ite g' (.ite (f'==43) (.ite e' (.ite (decide ((↑(length b'):Int)<1)) .fail (L4 v0 o1 o0 a' 0 (length b') ((↑(length b'):Int)) 0 (z8 (fun b=>(↑(zn b):Int)) b') o1 o0)) .fail) (L4 v0 o1 o0 a' 0 (length a') (c') 0 (z8 (fun b=>(↑(zn b):Int)) a') o1 o0)) .fail)) .fail) (.ite false .fail .fail)) (.ite false .fail .fail)) .fail) (.leaf (zt [.dat i64 o1,.nil]) ([(1,.box [.dat i64 o1,.nil]),(0,.box [.dat i64 o1,.nil])])):=by kernel_rfl
def L5(v0:List UInt8)(v3:Bool)(o1:Int)(o1_1:List Int)(o0:Int):Tr:=re ((stepT Pf (L3 [] false 0 0 [] 0 0 0 0 [] 0 0)).R.L.L.L.L.L.L.L.L) (AH 41 [(0,.dat zm v0),(2,.ptr 0 0),(3,.dat zl v3),(4,.ptr 1 0)] [(1,.box [.dat i64 o1,.dat (zh (zg ze)) o1_1]),(0,.box [.dat i64 o0,.nil])] 2)
theorem C9(v0:List UInt8)(v3:Bool)(o1 o0:Int)(v5:List UInt8)(v6:Int)(v47n:Nat)(v48 v49:Int)(o2:List Int)(o1':Int)(o0':Int):stepT Pf (L3 v0 v3 o1 o0 v5 v6 v47n v48 v49 o2 o1' o0')=let b':=Eg 18 (length v0:Int);let d':=(zc .i64 (0-v6),B1 (zc .i64 (0-v6)));let i':=getD o2 (toNat v49) 0-48;let a':=(Ua (10,B1 10) b',Ue (10,B1 10) b');let e':=decide (0≤Eg 18 (length v0:Int))&&true&&decide (toNat b'≤length v0)&&decide (length v0≤length v0);let f':=take (zL (length v0) (toNat b')) (drop (toNat b') v0);let g':=A5 (10,B1 10)&&bW (yj (10,B1 10)) b';let c':=(Ex (o1',[]) a',Ew (o1',[]) a');let h':=A5 (o1',[])&&A5 a';.ite (decide (v49<v48)) (.ite (decide (0≤v49)&&decide (v49<(↑v47n:Int))) (.ite (decide (toNat v49<length o2)) (.ite (decide (zc .u8 i'>9)) .fail (L3 v0 v3 o1 o0 v5 (zc .i64 (zc .i64 (v6*10)+zc .i64 (zc .u8 i'))) v47n v48 (zc .i64 (v49+1)) o2 o1' o0')) .fail) .fail) (.ite (decide (0<(length v5:Int))) (.ite ((↑(zn (getD v5 0 (0:UInt8))):Int)==45) (.ite true (.ite g' (.ite h' (.ite true (.ite (A5 c'&&A5 d') (.ite e' (L5 f' v3 (Hv c' d') (HS c' d') o0') .fail) .fail) .fail) .fail) .fail) .fail) (.ite true (.ite g' (.ite h' (.ite true (.ite (A5 c'&&A5 (v6,B1 v6)) (.ite e' (L5 f' v3 (Hv c' (v6,B1 v6)) (HS c' (v6,B1 v6)) o0') .fail) .fail) .fail) .fail) .fail) .fail)) .fail):=by kernel_rfl
def L7(v0:List UInt8)(v3:Bool)(o1:Int)(o1_1:List Int)(o0:Int)(v5:List UInt8)(v6:Int)(v47n:Nat)(v48 v49:Int)(o2:List Int)(o1':Int)(o1_1':List Int)(o0':Int):Tr:=re ((stepT Pf (L5 v0 v3 o1 o1_1 o0)).L.L.L.L.L.L.L.R) (AH 77 [(5,.dat zm v5),(6,.dat i64 v6),(47,.sl 2 1 0 v47n none),(48,.dat i64 v48),(49,.dat i64 v49)] [(2,.arr false 5 (zg zV) o2),(1,.box [.dat i64 o1',.dat (zh (zg ze)) o1_1']),(0,.box [.dat i64 o0',.nil])] 3)
theorem Gr(v0:List UInt8)(v3:Bool)(o1:Int)(o1_1:List Int)(o0:Int):stepT Pf (L5 v0 v3 o1 o1_1 o0)=let c':=zh (zg ze);let e':=(length v0:Int);let a':=take (toNat (Eg 18 e')) v0;let b':=take (zL (length a') 1) (drop 1 a');let d':=(↑(length a'):Int);let f':=decide (1≤length a')&&decide (length a'≤length a');let g':=(↑(zn (getD a' 0 (0:UInt8))):Int);let h':=decide (0<d');.ite (decide (e'>0)) (.ite (decide (0≤Eg 18 e')&&decide (0≤toNat (Eg 18 e'))&&decide (toNat (Eg 18 e')≤length v0)) (.ite h' (.ite (decide (d'<19)) (.ite h' (.ite (g'==45) (.ite f' (.ite (decide ((↑(length b'):Int)<1)) .fail (L7 v0 v3 o1 o1_1 o0 a' 0 (length b') ((↑(length b'):Int)) 0 (z8 (fun b=>(↑(zn b):Int)) b') o1 o1_1 o0)) .fail) (.ite h' (.ite (g'==43) (.ite f' (.ite (decide ((↑(length b'):Int)<1)) .fail (L7 v0 v3 o1 o1_1 o0 a' 0 (length b') ((↑(length b'):Int)) 0 (z8 (fun b=>(↑(zn b):Int)) b') o1 o1_1 o0)) .fail) (L7 v0 v3 o1 o1_1 o0 a' 0 (length a') (d') 0 (z8 (fun b=>(↑(zn b):Int)) a') o1 o1_1 o0)) .fail)) .fail) (.ite false .fail .fail)) (.ite false .fail .fail)) .fail) (.ite v3 (.ite (C8 (o1,o1_1)) (.leaf (zt [.dat i64 (D2 (o1,o1_1)),.dat c' (D3 (o1,o1_1))]) ([(1,.box [.dat i64 o1,.dat c' o1_1]),(0,.box [.dat i64 (D2 (o1,o1_1)),.dat c' (D3 (o1,o1_1))])])) .fail) (.leaf (zt [.dat i64 o1,.dat c' o1_1]) ([(1,.box [.dat i64 o1,.dat c' o1_1]),(0,.box [.dat i64 o1,.dat c' o1_1])]))):=by kernel_rfl
theorem FT(v0:List UInt8)(v3:Bool)(o1:Int)(o1_1:List Int)(o0:Int)(v5:List UInt8)(v6:Int)(v47n:Nat)(v48 v49:Int)(o2:List Int)(o1':Int)(o1_1':List Int)(o0':Int):stepT Pf (L7 v0 v3 o1 o1_1 o0 v5 v6 v47n v48 v49 o2 o1' o1_1' o0')=let c':=Eg 18 (length v0:Int);let d':=(zc .i64 (0-v6),B1 (zc .i64 (0-v6)));let i':=getD o2 (toNat v49) 0-48;let a':=(Ua (10,B1 10) c',Ue (10,B1 10) c');let e':=decide (0≤Eg 18 (length v0:Int))&&true&&decide (toNat c'≤length v0)&&decide (length v0≤length v0);let f':=take (zL (length v0) (toNat c')) (drop (toNat c') v0);let g':=A5 (10,B1 10)&&bW (yj (10,B1 10)) c';let b':=(Ex (o1',o1_1') a',Ew (o1',o1_1') a');let h':=A5 (o1',o1_1')&&A5 a';.ite (decide (v49<v48)) (.ite (decide (0≤v49)&&decide (v49<(↑v47n:Int))) (.ite (decide (toNat v49<length o2)) (.ite (decide (zc .u8 i'>9)) .fail (L7 v0 v3 o1 o1_1 o0 v5 (zc .i64 (zc .i64 (v6*10)+zc .i64 (zc .u8 i'))) v47n v48 (zc .i64 (v49+1)) o2 o1' o1_1' o0')) .fail) .fail) (.ite (decide (0<(length v5:Int))) (.ite ((↑(zn (getD v5 0 (0:UInt8))):Int)==45) (.ite true (.ite g' (.ite h' (.ite true (.ite (A5 b'&&A5 d') (.ite e' (L5 f' v3 (Hv b' d') (HS b' d') o0') .fail) .fail) .fail) .fail) .fail) .fail) (.ite true (.ite g' (.ite h' (.ite true (.ite (A5 b'&&A5 (v6,B1 v6)) (.ite e' (L5 f' v3 (Hv b' (v6,B1 v6)) (HS b' (v6,B1 v6)) o0') .fail) .fail) .fail) .fail) .fail) .fail)) .fail):=by kernel_rfl
end T153
end
noncomputable section
open List Int Prod
namespace T211
def T(s t:List UInt8):Tr:=tree Wd false 9 211 (Ah ([zm,zm]) (s,t))
def L1(s t v0:List UInt8)(v4:Int)(o0:List Bool):Tr:=re ((T s t).R.R.L.L.R) (AH 21 [(0,.dat zm v0),(2,.ptr 0 0),(4,.dat i64 v4)] [(0,.arr false 281 zl o0)] 1)
def L2(s t v0:List UInt8)(v4:Int)(o0:List Bool):Tr:=re ((T s t).R.R.R) (AH 21 [(0,.dat zm v0),(2,.ptr 0 0),(4,.dat i64 v4)] [(0,.arr false 281 zl o0)] 1)
theorem Am(s t:List UInt8):T s t=let a':=decide (0<(length t:Int));let b':Tr:=.leaf (.dat zm s) [];.ite (s==[]) b' (.ite (t==[]) b' (.ite ((length t:Int)==1) (.ite a' (.ite (decide ((↑(zn (getD t 0 (0:UInt8))):Int)<128)) (.ite a' (.ite a' (.ite false (.ite false b' .fail) .fail) .fail) .fail) (L1 s t t 0 Sp.oJ)) .fail) (L2 s t t 0 Sp.oJ))):=by kernel_rfl
def L4(s t v0:List UInt8)(v4:Int)(o0:List Bool)(v0':List UInt8)(o1:List Bool)(o0':List Bool):Tr:=re ((stepT Wd (L2 s t v0 v4 o0)).R.L.L.L.L) (AH 22 [(0,.dat zm v0'),(1,.ptr 1 0)] [(1,.arr false 281 zl o1),(0,.arr false 281 zl o0')] 2)
theorem A3(s t v0:List UInt8)(v4:Int)(o0:List Bool):stepT Wd (L2 s t v0 v4 o0)=let a':=(↑(zn (getD v0 (toNat v4) (0:UInt8))):Int);let b':=decide (length o0=256);let c':=decide (v4<(length v0:Int));.ite (c') (.ite (decide (0≤v4)&&c') (.ite (decide (a'≥128)) (.ite b' (.ite b' (.ite (decide (256=256)) (.ite true (.ite false (.ite false (.leaf (.dat zm s) ([(1,.arr false 281 zl (Sp.Xx o0)),(0,.arr false 281 zl (Sp.Xx o0))])) .fail) .fail) .fail) .fail) .fail) .fail) (.ite (decide ((0:yi (zg zV))≤a')&&decide (a'<(↑256:Int))) (.ite (decide (toNat a'<length o0)) (L2 s t v0 (zc .i64 (v4+1)) (set o0 (toNat a') true)) .fail) .fail)) .fail) (.ite b' (.ite b' (.ite (decide (256=256)) (.ite true (L4 s t v0 v4 o0 s ((Sp.Xx o0)) ((Sp.Xx o0))) .fail) .fail) .fail) .fail):=by kernel_rfl
def L7(s t v0:List UInt8)(v4:Int)(o0:List Bool)(v0':List UInt8)(o1:List Bool)(o0':List Bool)(v0'':List UInt8)(o1':List Bool)(o0'':List Bool):Tr:=re ((stepT Wd (L4 s t v0 v4 o0 v0' o1 o0')).L.L.L.L.L) (AH 16 [(0,.dat zm v0''),(1,.ptr 1 0)] [(1,.arr false 281 zl o1'),(0,.arr false 281 zl o0'')] 2)
def L8(s t v0:List UInt8)(v4:Int)(o0:List Bool)(v0':List UInt8)(o1:List Bool)(o0':List Bool)(v0'':List UInt8)(o1':List Bool)(o0'':List Bool):Tr:=re ((stepT Wd (L4 s t v0 v4 o0 v0' o1 o0')).R) (AH 16 [(0,.dat zm v0''),(1,.ptr 1 0)] [(1,.arr false 281 zl o1'),(0,.arr false 281 zl o0'')] 2)
theorem Dp(s t v0:List UInt8)(v4:Int)(o0:List Bool)(v0':List UInt8)(o1:List Bool)(o0':List Bool):stepT Wd (L4 s t v0 v4 o0 v0' o1 o0')=let b':=(↑(length v0'):Int);let c':=zc .i64 (b'-1);let d':=decide (0≤zc .i64 (b'-1));let a':=(↑(zn (getD v0' (toNat c') (0:UInt8))):Int);.ite (decide (b'>0)) (.ite (d'&&decide (zc .i64 (b'-1)<b')) (.ite (decide ((0:yi (zg zV))≤a')&&decide (a'<(↑256:Int))) (.ite (decide (toNat a'<length o1)) (.ite (!getD o1 (toNat a') false) (L7 s t v0 v4 o0 v0' o1 o0' v0' o1 o0') (.ite (d'&&decide (0≤toNat c')&&decide (toNat c'≤length v0')) (L4 s t v0 v4 o0 (take (toNat c') v0') o1 o0') .fail)) .fail) .fail) .fail) (L8 s t v0 v4 o0 v0' o1 o0' v0' o1 o0'):=by kernel_rfl
theorem FT(s t v0:List UInt8)(v4:Int)(o0:List Bool)(v0':List UInt8)(o1:List Bool)(o0':List Bool)(v0'':List UInt8)(o1':List Bool)(o0'':List Bool):stepT Wd (L7 s t v0 v4 o0 v0' o1 o0' v0'' o1' o0'')=let a':=(↑(zn (getD v0'' 0 (0:UInt8))):Int);let b':Tr:=.leaf (.dat zm v0'') ([(1,.arr false 281 zl o1'),(0,.arr false 281 zl o0'')]);.ite (decide ((↑(length v0''):Int)>0)) (.ite (decide (0<(↑(length v0''):Int))) (.ite (decide ((0:yi (zg zV))≤a')&&decide (a'<(↑256:Int))) (.ite (decide (toNat a'<length o1')) (.ite (!getD o1' (toNat a') false) b' (.ite (decide (1≤length v0'')&&decide (length v0''≤length v0'')) (L7 s t v0 v4 o0 v0' o1 o0' (take (zL (length v0'') 1) (drop 1 v0'')) o1' o0'') .fail)) .fail) .fail) .fail) b':=by kernel_rfl
theorem I5(s t v0:List UInt8)(v4:Int)(o0:List Bool)(v0':List UInt8)(o1:List Bool)(o0':List Bool)(v0'':List UInt8)(o1':List Bool)(o0'':List Bool):stepT Wd (L8 s t v0 v4 o0 v0' o1 o0' v0'' o1' o0'')=let a':=(↑(zn (getD v0'' 0 (0:UInt8))):Int);let b':Tr:=.leaf (.dat zm v0'') ([(1,.arr false 281 zl o1'),(0,.arr false 281 zl o0'')]);.ite (decide ((↑(length v0''):Int)>0)) (.ite (decide (0<(↑(length v0''):Int))) (.ite (decide ((0:yi (zg zV))≤a')&&decide (a'<(↑256:Int))) (.ite (decide (toNat a'<length o1')) (.ite (!getD o1' (toNat a') false) b' (.ite (decide (1≤length v0'')&&decide (length v0''≤length v0'')) (L8 s t v0 v4 o0 v0' o1 o0' (take (zL (length v0'') 1) (drop 1 v0'')) o1' o0'') .fail)) .fail) .fail) .fail) b':=by kernel_rfl
end T211
end
noncomputable section
open List Int Prod
namespace T151
def T(s:List UInt8):Tr:=tree yC false 9 151 (Ah ([zm]) s)
theorem Am(s:List UInt8):T s=.ite (!s==[]) (.ite (Sp.oR s [(48:UInt8),(49:UInt8),(50:UInt8),(51:UInt8),(52:UInt8),(53:UInt8),(54:UInt8),(55:UInt8),(56:UInt8),(57:UInt8)]) (.ite (Sp.OB s==[]) (.ite (decide (0<(length s:Int))) (.ite ((↑(zn (getD s 0 (0:UInt8))):Int) !=48) (.leaf (.bl true) []) (.leaf (.dat zl (s==[(48:UInt8)])) [])) .fail) (.leaf (.bl false) [])) .fail) (.leaf (.bl false) []):=by kernel_rfl
end T151
namespace T149
def T(s t:List UInt8):Tr:=tree IT false 9 149 (Ah ([zm,zm]) (s,t))
theorem Am(s t:List UInt8):T s t=let a':=(length t:Int);let b':Tr:=.leaf (.tup [.dat zm s,.bl false]) [];let c':=decide (toNat a'≤length s);.ite (decide ((length s:Int)≥a')) (.ite (decide (0≤a')&&decide (0≤toNat a')&&c') (.ite (!take (toNat a') s==t) b' (.ite (decide (0≤a')&&true&&c'&&decide (length s≤length s)) (.leaf (.tup [.dat zm (take (zL (length s) (toNat a')) (drop (toNat a') s)),.bl true]) []) .fail)) .fail) b':=by kernel_rfl
end T149
end
noncomputable section
open List Int Prod
namespace T150
def T(s t:List UInt8):Tr:=tree wX false 9 150 (Ah ([zm,zm]) (s,t))
theorem Am(s t:List UInt8):T s t=let b':=(↑(zn (getD t 0 (0:UInt8))):Int);let c':=(length t:Int);let d':Tr:=.leaf (.tup [.dat zm s,.dat zm [],.bl false]) [];let g':=decide (length s≤length s);let i':=By [zg zV];let e':=zc .i64 (Sp.OI s b'+c');let f':=zc .i64 ((-1)+c');let h':=zc .i64 (0+c');let j':=Sp.OI s b';let a':Tr:=.ite true (.ite (decide (0≤length s)) (.ite (decide (0≤zc .i64 (0+c'))&&true&&decide (toNat h'≤length s)&&g') (.leaf (.tup [.dat zm (take 0 s),.dat zm (take (zL (length s) (toNat h')) (drop (toNat h') s)),.bl true]) []) .fail) .fail) d';.ite (c'==0) a' (.ite (t==s) a' (.ite (c'==1) (.ite (decide (0<c')) (.ite (decide ((0:yi i')≤b')&&decide (b'<(256:yi i'))) (.ite (decide (Sp.OI s b'≥0)) (.ite (decide (0≤Sp.OI s b')&&decide (0≤toNat j')&&decide (toNat j'≤length s)) (.ite (decide (0≤zc .i64 (Sp.OI s b'+c'))&&true&&decide (toNat e'≤length s)&&g') (.leaf (.tup [.dat zm (take (toNat j') s),.dat zm (take (zL (length s) (toNat e')) (drop (toNat e') s)),.bl true]) []) .fail) .fail) d') .fail) .fail) (.ite (decide (c'≥(length s:Int))) (.ite false (.ite (false&&decide (0≤length s)) (.ite (decide (0≤zc .i64 ((-1)+c'))&&true&&decide (toNat f'≤length s)&&g') (.leaf (.tup [.dat zm (take 0 s),.dat zm (take (zL (length s) (toNat f')) (drop (toNat f') s)),.bl true]) []) .fail) .fail) d') .fail))):=by kernel_rfl
end T150
end
end Go.Pe
end
section
namespace Go.Pe
open Sp
open Go.Det
noncomputable section
open List Int Prod
namespace T227
def T(w:List Int):Tr:=tree Za false 9 227 (Ah ([zj i64]) w)
def L1(v0:List Int):Tr:=re ((T [])) (AH 21 [(0,.dat (zj i64) v0)] [] 0)
theorem Am(w:List Int):T w=L1 w:=by kernel_rfl
theorem As(v0:List Int):stepT Za (L1 v0)=let b':=(length v0:Int);let d':Tr:=.leaf (.dat (zj i64) v0) [];let a':=zc .i64 (b'-1);let c':=decide (0≤zc .i64 (b'-1));.ite (decide (b'>0)) (.ite (c'&&decide (zc .i64 (b'-1)<b')) (.ite (getD v0 (toNat a') 0==0) (.ite (c'&&decide (0≤toNat a')&&decide (toNat a'≤length v0)) (L1 (take (toNat a') v0)) .fail) d') .fail) d':=by kernel_rfl
end T227
namespace T168
def T(n:Bool)(w:List Int):Tr:=tree VE false 9 168 (Ah ([zl,zj i64]) (n,w))
theorem Am(n:Bool)(w:List Int):T n w=let a':=decide ((↑(length (Ar w)):Int)>0);.ite (decide (length w≤20000)) (.ite n (.leaf (zt [.dat zl a',.dat (zj i64) (Ar w)]) ([(0,.box [.dat zl a',.dat (zj i64) (Ar w)])])) (.leaf (zt [.bl false,.dat (zj i64) (Ar w)]) ([(0,.box [.bl false,.dat (zj i64) (Ar w)])]))) .fail:=by kernel_rfl
end T168
namespace T170
def T(a b:List Int):Tr:=tree Za false 9 170 (Ah ([zj i64,zj i64]) (a,b))
def L1(v0 v1:List Int)(v5:Int):Tr:=re ((T [] []).R) (AH 41 [(0,.dat (zj i64) v0),(1,.dat (zj i64) v1),(5,.dat i64 v5)] [] 0)
theorem Am(a b:List Int):T a b=let a':=(length a:Int);.ite (a' !=(length b:Int)) (.ite (decide (a'<(length b:Int))) (.leaf (.dat i64 (-1:Int)) []) (.leaf (.dat i64 (1:Int)) [])) (L1 a b (zc .i64 (a'-1))):=by kernel_rfl
theorem As(v0 v1:List Int)(v5:Int):stepT Za (L1 v0 v1 v5)=let a':=decide (0≤v5)&&decide (v5<(length v0:Int));let b':=decide (0≤v5)&&decide (v5<(length v1:Int));.ite (decide (v5≥0)) (.ite a' (.ite b' (.ite (decide (getD v0 (toNat v5) 0<getD v1 (toNat v5) 0)) (.leaf (.dat i64 (-1:Int)) []) (.ite a' (.ite b' (.ite (decide (getD v0 (toNat v5) 0>getD v1 (toNat v5) 0)) (.leaf (.dat i64 (1:Int)) []) (L1 v0 v1 (zc .i64 (v5-1)))) .fail) .fail)) .fail) .fail) (.leaf (.dat i64 (0:Int)) []):=by kernel_rfl
end T170
namespace T172
def T(a b:List Int):Tr:=tree VE false 9 172 (Ah ([zj i64,zj i64]) (a,b))
def L1(v0 v1:List Int)(v5n:Nat)(v6:Int)(o0:List Int):Tr:=re ((T [] []).L) (AH 72 [(0,.dat (zj i64) v0),(1,.dat (zj i64) v1),(5,.sl 0 1 0 v5n none),(6,.dat i64 v6)] [(0,.arr false 3 i64 o0)] 1)
theorem Am(a b:List Int):T a b=let a':=(length a:Int)+(length b:Int);let b':=zc .i64 a';.ite (decide (0≤zc .i64 a')&&decide (zc .i64 a'=zc .i64 a')&&decide (8*toNat b'≤281474976710656)&&decide (zc .i64 a'<9223372036854775808)) (L1 a b (toNat b') 0 (replicate (toNat b') 0)) .fail:=by kernel_rfl
def L2(v0 v1:List Int)(v5n:Nat)(v6 v7 v8:Int)(o0:List Int):Tr:=re ((stepT VE (L1 [] [] 0 0 [])).L) (AH 72 [(0,.dat (zj i64) v0),(1,.dat (zj i64) v1),(5,.sl 0 1 0 v5n none),(6,.dat i64 v6),(7,.dat i64 v7),(8,.dat i64 v8)] [(0,.arr false 3 i64 o0)] 1)
theorem As(v0 v1:List Int)(v5n:Nat)(v6:Int)(o0:List Int):stepT VE (L1 v0 v1 v5n v6 o0)=.ite (decide (v6<(length v0:Int))) (L2 v0 v1 v5n v6 0 0 o0) (.ite (decide (0+v5n≤length o0)&&true&&decide (length (take v5n o0)≤20000)) (.leaf (.dat (zj i64) (Ar (take v5n o0))) ([(0,.arr true 3 i64 o0)])) .fail):=by kernel_rfl
theorem A3(v0 v1:List Int)(v5n:Nat)(v6 v7 v8:Int)(o0:List Int):stepT VE (L2 v0 v1 v5n v6 v7 v8 o0)=let c':=decide (0≤zc .i64 (v6+v8))&&decide (zc .i64 (v6+v8)<(↑v5n:Int));let d':=zc .i64 (v6+v8);let i':=(length v1:Int);let a':=zc .i64 (zc .i64 (getD o0 (toNat d') 0+zc .i64 (getD v0 (toNat v6) 0*getD v1 (toNat v8) 0))+v7);let b':=v6+i';let g':=decide (toNat d'<length o0);let e':=decide (0≤zc .i64 b')&&decide (zc .i64 b'<(↑v5n:Int));let f':=zc .i64 b';let h':=decide (toNat f'<length o0);.ite (decide (v8<i')) (.ite c' (.ite g' (.ite (decide (0≤v6)&&decide (v6<(length v0:Int))) (.ite (decide (0≤v8)&&decide (v8<i')) (.ite true (.ite c' (.ite g' (.ite true (L2 v0 v1 v5n v6 (zc .i64 (z7 a' 1000000000)) (zc .i64 (v8+1)) (set o0 (toNat d') (zO a' 1000000000))) .fail) .fail) .fail) .fail) .fail) .fail) .fail) .fail) (.ite e' (.ite h' (.ite e' (.ite h' (L1 v0 v1 v5n (zc .i64 (v6+1)) (set o0 (toNat f') (zc .i64 (getD o0 (toNat f') 0+v7)))) .fail) .fail) .fail) .fail):=by kernel_rfl
end T172
namespace T226
def T(a:List Int)(d:Int):Tr:=tree VE false 9 226 (Ah ([zj i64,zg z6]) (a,d))
def L1(v0:List Int)(v1:Int)(v6n:Nat)(v7 v8:Int)(o0:List Int):Tr:=re ((T [] 0).L) (AH 39 [(0,.dat (zj i64) v0),(1,.dat i64 v1),(6,.sl 0 1 0 v6n none),(7,.dat i64 v7),(8,.dat i64 v8)] [(0,.arr false 3 i64 o0)] 1)
theorem Am(a:List Int)(d:Int):T a d=let a':=(length a:Int);.ite (decide (0≤a')&&decide (a'=a')&&decide (8*toNat a'≤281474976710656)&&decide (a'<9223372036854775808)) (L1 a d (toNat a') 0 (zc .i64 (a'-1)) (replicate (toNat a') 0)) .fail:=by kernel_rfl
theorem As(v0:List Int)(v1:Int)(v6n:Nat)(v7 v8:Int)(o0:List Int):stepT VE (L1 v0 v1 v6n v7 v8 o0)=let a':=zc .i64 (zc .i64 (v7*1000000000)+getD v0 (toNat v8) 0);.ite (decide (v8≥0)) (.ite (decide (0≤v8)&&decide (v8<(length v0:Int))) (.ite (decide (v1≠0)) (.ite (decide (0≤v8)&&decide (v8<(↑v6n:Int))) (.ite (decide (toNat v8<length o0)) (.ite (decide (v1≠0)) (L1 v0 v1 v6n (zO a' v1) (zc .i64 (v8-1)) (set o0 (toNat v8) (zc .i64 (z7 a' v1)))) .fail) .fail) .fail) .fail) .fail) (.ite (decide (0+v6n≤length o0)&&true&&decide (length (take v6n o0)≤20000)) (.leaf (.tup [.dat (zj i64) (Ar (take v6n o0)),.dat i64 v7]) ([(0,.arr true 3 i64 o0)])) .fail):=by kernel_rfl
end T226
namespace T164
def T(a b:List Int):Tr:=tree KU false 9 164 (Ah ([zj i64,zj i64]) (a,b))
def L1(v0:List Int)(v8n:Nat)(v9:List Int)(v10:Int)(v11n:Nat)(o1 o0:List Int):Tr:=re ((T [] []).L.R.R.L.L.L.L.L) (AH 206 [(0,.dat (zj i64) v0),(8,.sl 0 1 0 v8n none),(9,.dat (zj i64) v9),(10,.dat i64 v10),(11,.sl 1 1 0 v11n none)] [(1,.arr false 3 i64 o1),(0,.arr true 3 i64 o0)] 2)
theorem Am(a b:List Int):T a b=let c':=(length b:Int);let e':=getD b (toNat (zc .i64 (c'-1))) 0+1;let a':=z7 1000000000 (zc .i64 e');let b':=Aq a*Aq [zc .i64 a'];let d':=BL (Aq b*Aq [zc .i64 a']);.ite (A4 a&&A4 b) (.ite (decide (BW (Aq a) (Aq b)<0)) (.leaf (.tup [.nil,.dat (zj i64) a]) []) (.ite (c'==1) (.ite (decide (0<c')) (.ite (I6 a&&decide (0<getD b 0 0)&&decide (getD b 0 0<1000000000)) (.ite (decide (1≤1)&&true&&decide (1≤20000)) (.leaf (.tup [.dat (zj i64) (BL (Aq a/getD b 0 0)),.dat (zj i64) (Ar [Aq a % getD b 0 0])]) ([(0,.arr true 3 i64 [Aq a % getD b 0 0])])) .fail) .fail) .fail) (.ite (decide (0≤zc .i64 (c'-1))&&decide (zc .i64 (c'-1)<c')) (.ite (decide (zc .i64 e'≠0)) (.ite (decide (1≤1)&&true&&(Sp.hR b&&Sp.hR [zc .i64 a'])) (.ite (decide (1≤1)&&true&&(Sp.hR a&&Sp.hR [zc .i64 a'])) (.ite (decide ((2*(0+length (BL b'))+1000)*8≤281474976710656)) (L1 a 1 d' ((↑(length d'):Int)) (zk 0 (length (BL b'))) ([]++BL b') ([zc .i64 a'])) .fail) .fail) .fail) .fail) .fail))) .fail:=by kernel_rfl
def L2(v8n:Nat)(v9:List Int)(v10:Int)(v11n v12n:Nat)(v13:Int)(o2 o1 o0:List Int):Tr:=re ((stepT KU (L1 [] 0 [] 0 0 [] [])).R.L) (AH 206 [(8,.sl 0 1 0 v8n none),(9,.dat (zj i64) v9),(10,.dat i64 v10),(11,.sl 1 1 0 v11n none),(12,.sl 2 1 0 v12n none),(13,.dat i64 v13)] [(2,.arr false 3 i64 o2),(1,.arr false 3 i64 o1),(0,.arr true 3 i64 o0)] 3)
theorem As(v0:List Int)(v8n:Nat)(v9:List Int)(v10:Int)(v11n:Nat)(o1 o0:List Int):stepT KU (L1 v0 v8n v9 v10 v11n o1 o0)=let a':=(↑v11n:Int)-v10;let b':=zc .i64 a';.ite (decide ((↑v11n:Int)<zc .i64 ((length v0:Int)+1))) (.ite (decide (v11n=length o1)&&decide ((2*(v11n+1)+1000)*8≤281474976710656)) (L1 v0 v8n v9 v10 (zk v11n 1) (o1++[0]) o0) .fail) (.ite (decide (0≤zc .i64 a')&&decide (zc .i64 a'=zc .i64 a')&&decide (8*toNat b'≤281474976710656)&&decide (zc .i64 a'<9223372036854775808)) (L2 v8n v9 v10 v11n (toNat b') (zc .i64 (zc .i64 a'-1)) (replicate (toNat b') 0) o1 o0) .fail):=by kernel_rfl
def L3(v8n:Nat)(v9:List Int)(v10:Int)(v11n v12n:Nat)(v13:Int)(o2 o1 o0:List Int)(v0n:Nat)(v1:List Int)(v2 v7:Int)(v9':Int)(v10':Int)(o2':List Int)(o1':List Int)(o0':List Int):Tr:=re ((stepT KU (L2 v8n v9 v10 v11n v12n v13 o2 o1 o0)).L.L.L.L.L.L.L.L.L) (AH 77 [(0,.sl 1 1 0 v0n none),(1,.dat (zj i64) v1),(2,.dat i64 v2),(7,.dat i64 v7),(9,.dat i64 v9'),(10,.dat i64 v10')] [(2,.arr false 3 i64 o2'),(1,.arr false 3 i64 o1'),(0,.arr true 3 i64 o0')] 3)
theorem A3(v8n:Nat)(v9:List Int)(v10:Int)(v11n v12n:Nat)(v13:Int)(o2 o1 o0:List Int):stepT KU (L2 v8n v9 v10 v11n v12n v13 o2 o1 o0)=let a':=(length v9:Int);let f':=take (toNat v10) o1;let c':=toNat (zc .i64 (a'-1));let d':=zc .i64 (v13+a')-1;let e':=decide (0≤zc .i64 (a'-1))&&decide (zc .i64 (a'-1)<a');let g':=zc .i64 (v13+a');let b':=zc .i64 (zc .i64 (getD o1 (toNat g') 0*1000000000)+getD o1 (toNat (zc .i64 d')) 0);let h':=decide (getD v9 c' 0≠0);.ite (decide (v13≥0)) (.ite (decide (0≤zc .i64 (v13+a'))&&decide (zc .i64 (v13+a')<(↑v11n:Int))) (.ite (decide (toNat g'<length o1)) (.ite (decide (0≤zc .i64 d')&&decide (zc .i64 d'<(↑v11n:Int))) (.ite (decide (toNat (zc .i64 d')<length o1)) (.ite e' (.ite h' (.ite e' (.ite h' (L3 v8n v9 v10 v11n v12n v13 o2 o1 o0 v11n v9 v13 (a') (zc .i64 (z7 b' (getD v9 c' 0))) (zO b' (getD v9 c' 0)) o2 o1 o0) .fail) .fail) .fail) .fail) .fail) .fail) .fail) .fail) (.ite (decide (0≤v10)&&true&&decide (0≤toNat v10)&&decide (toNat v10≤zN none v11n)&&decide (zN none v11n≤zN none v11n)&&true) (.ite (decide (0<(↑v8n:Int))) (.ite (decide (0<length o0)) (.ite (decide (0+toNat v10≤length o1)&&true&&decide (length f'≤20000)) (.ite (I6 (Ar f')&&decide (0<getD o0 0 0)&&decide (getD o0 0 0<1000000000)) (.ite (decide (0+v12n≤length o2)&&true&&decide (length (take v12n o2)≤20000)) (.leaf (.tup [.dat (zj i64) (Ar (take v12n o2)),.dat (zj i64) (BL (Aq (Ar f')/getD o0 0 0))]) ([(2,.arr true 3 i64 o2),(1,.arr true 3 i64 o1),(0,.arr true 3 i64 o0)])) .fail) .fail) .fail) .fail) .fail) .fail):=by kernel_rfl
def L4(v8n:Nat)(v9:List Int)(v10:Int)(v11n v12n:Nat)(v13 v14 v15 v16:Int)(o2 o1 o0:List Int):Tr:=re ((stepT KU (L3 0 [] 0 0 0 0 [] [] [] 0 [] 0 0 0 0 [] [] [])).L.L.L) (AH 206 [(8,.sl 0 1 0 v8n none),(9,.dat (zj i64) v9),(10,.dat i64 v10),(11,.sl 1 1 0 v11n none),(12,.sl 2 1 0 v12n none),(13,.dat i64 v13),(14,.dat i64 v14),(15,.dat i64 v15),(16,.dat i64 v16)] [(2,.arr false 3 i64 o2),(1,.arr false 3 i64 o1),(0,.arr true 3 i64 o0)] 3)
theorem C9(v8n:Nat)(v9:List Int)(v10:Int)(v11n v12n:Nat)(v13:Int)(o2 o1 o0:List Int)(v0n:Nat)(v1:List Int)(v2 v7:Int)(v9':Int)(v10':Int)(o2':List Int)(o1':List Int)(o0':List Int):stepT KU (L3 v8n v9 v10 v11n v12n v13 o2 o1 o0 v0n v1 v2 v7 v9' v10' o2' o1' o0')=let b':=zc .i64 (v2+v7)-2;let c':=v10'+getD v1 (toNat (zc .i64 (v7-1))) 0;let d':=zc .i64 (v9'-1);let a':Tr:=.ite (decide (0≤zc .i64 (v7-1))&&decide (zc .i64 (v7-1)<(length v1:Int))) (.ite (decide (zc .i64 c'≥1000000000)) (L4 v8n v9 v10 v11n v12n v13 d' 0 0 o2' o1' o0') (L3 v8n v9 v10 v11n v12n v13 o2 o1 o0 v0n v1 v2 v7 d' (zc .i64 c') o2' o1' o0')) .fail;.ite (decide (v9'≥1000000000)) a' (.ite (decide (0≤zc .i64 (v7-2))&&decide (zc .i64 (v7-2)<(length v1:Int))) (.ite (decide (0≤zc .i64 b')&&decide (zc .i64 b'<(↑v0n:Int))) (.ite (decide (toNat (zc .i64 b')<length o1')) (.ite (decide (zc .i64 (v9'*getD v1 (toNat (zc .i64 (v7-2))) 0)>zc .i64 (zc .i64 (v10'*1000000000)+getD o1' (toNat (zc .i64 b')) 0))) a' (L4 v8n v9 v10 v11n v12n v13 v9' 0 0 o2' o1' o0')) .fail) .fail) .fail):=by kernel_rfl
def L5(v8n:Nat)(v9:List Int)(v10:Int)(v11n v12n:Nat)(v13 v14 v19 v20:Int)(o2 o1 o0:List Int):Tr:=re ((stepT KU (L4 0 [] 0 0 0 0 0 0 0 [] [] [])).R.L.L.L.L.L.L.L) (AH 206 [(8,.sl 0 1 0 v8n none),(9,.dat (zj i64) v9),(10,.dat i64 v10),(11,.sl 1 1 0 v11n none),(12,.sl 2 1 0 v12n none),(13,.dat i64 v13),(14,.dat i64 v14),(19,.dat i64 v19),(20,.dat i64 v20)] [(2,.arr false 3 i64 o2),(1,.arr false 3 i64 o1),(0,.arr true 3 i64 o0)] 3)
theorem Dp(v8n:Nat)(v9:List Int)(v10:Int)(v11n v12n:Nat)(v13 v14 v15 v16:Int)(o2 o1 o0:List Int):stepT KU (L4 v8n v9 v10 v11n v12n v13 v14 v15 v16 o2 o1 o0)=let c':=decide (0≤zc .i64 (v16+v13))&&decide (zc .i64 (v16+v13)<(↑v11n:Int));let d':=decide (0≤zc .i64 (v13+v10))&&decide (zc .i64 (v13+v10)<(↑v11n:Int));let e':=zc .i64 (zc .i64 (v14*getD v9 (toNat v16) 0)+v15);let f':=zc .i64 (v16+v13);let g':=zc .i64 (v13+v10);let j':=zc .i64 (v16+1);let a':=set o1 (toNat g') (zc .i64 (getD o1 (toNat g') 0-v15));let b':=getD o1 (toNat f') 0-zO e' 1000000000;let h':=decide (toNat f'<length o1);let i':=decide (toNat g'<length o1);let k':=z7 e' 1000000000;.ite (decide (v16<v10)) (.ite (decide (0≤v16)&&decide (v16<(length v9:Int))) (.ite c' (.ite h' (.ite true (.ite true (.ite (decide (zc .i64 b'<0)) (.ite c' (.ite h' (L4 v8n v9 v10 v11n v12n v13 v14 (zc .i64 (zc .i64 k'+1)) j' o2 (set o1 (toNat f') (zc .i64 (zc .i64 b'+1000000000))) o0) .fail) .fail) (.ite c' (.ite h' (L4 v8n v9 v10 v11n v12n v13 v14 (zc .i64 k') j' o2 (set o1 (toNat f') (zc .i64 b')) o0) .fail) .fail)) .fail) .fail) .fail) .fail) .fail) (.ite d' (.ite i' (.ite d' (.ite i' (.ite d' (.ite (decide (toNat g'<length a')) (.ite (decide (getD a' (toNat g') 0<0)) (L5 v8n v9 v10 v11n v12n v13 (zc .i64 (v14-1)) 0 0 o2 a' o0) (.ite (decide (0≤v13)&&decide (v13<(↑v12n:Int))) (.ite (decide (toNat v13<length o2)) (L2 v8n v9 v10 v11n v12n (zc .i64 (v13-1)) (set o2 (toNat v13) v14) a' o0) .fail) .fail)) .fail) .fail) .fail) .fail) .fail) .fail):=by kernel_rfl
theorem Gr(v8n:Nat)(v9:List Int)(v10:Int)(v11n v12n:Nat)(v13 v14 v19 v20:Int)(o2 o1 o0:List Int):stepT KU (L5 v8n v9 v10 v11n v12n v13 v14 v19 v20 o2 o1 o0)=let b':=decide (0≤zc .i64 (v20+v13))&&decide (zc .i64 (v20+v13)<(↑v11n:Int));let c':=decide (0≤zc .i64 (v13+v10))&&decide (zc .i64 (v13+v10)<(↑v11n:Int));let d':=zc .i64 (v20+v13);let e':=zc .i64 (v13+v10);let a':=zc .i64 (zc .i64 (getD o1 (toNat d') 0+getD v9 (toNat v20) 0)+v19);let f':=decide (toNat d'<length o1);let g':=decide (toNat e'<length o1);.ite (decide (v20<v10)) (.ite b' (.ite f' (.ite (decide (0≤v20)&&decide (v20<(length v9:Int))) (.ite true (.ite b' (.ite f' (.ite true (L5 v8n v9 v10 v11n v12n v13 v14 (zc .i64 (z7 a' 1000000000)) (zc .i64 (v20+1)) o2 (set o1 (toNat d') (zO a' 1000000000)) o0) .fail) .fail) .fail) .fail) .fail) .fail) .fail) (.ite c' (.ite g' (.ite c' (.ite g' (.ite (decide (0≤v13)&&decide (v13<(↑v12n:Int))) (.ite (decide (toNat v13<length o2)) (L2 v8n v9 v10 v11n v12n (zc .i64 (v13-1)) (set o2 (toNat v13) v14) (set o1 (toNat e') (zc .i64 (getD o1 (toNat e') 0+v19))) o0) .fail) .fail) .fail) .fail) .fail) .fail):=by kernel_rfl
end T164
namespace T92
def T(a b:List Int):Tr:=tree tF false 9 92 (Ah ([zj i64,zj i64]) (a,b))
def L1(v0 v1:List Int):Tr:=re ((T [] [])) (AH 19 [(0,.dat (zj i64) v0),(1,.dat (zj i64) v1)] [] 0)
theorem Am(a b:List Int):T a b=L1 a b:=by kernel_rfl
theorem As(v0 v1:List Int):stepT tF (L1 v0 v1)=.ite (decide ((length v1:Int)>0)) (.ite (A4 v0&&A4 v1&&decide (length v0≤9000)&&decide (length v1≤9000)&&decide (0<Aq v1)) (L1 v1 (BL (Aq v0 % Aq v1))) .fail) (.leaf (.dat (zj i64) v0) []):=by kernel_rfl
end T92
namespace T165
def T(s:List UInt8):Tr:=tree Za false 9 165 (Ah ([zm]) s)
def L1(v0:List UInt8)(v3 v4:Int):Tr:=re ((T [])) (AH 20 [(0,.dat zm v0),(3,.dat i64 v3),(4,.dat i64 v4)] [] 0)
theorem Am(s:List UInt8):T s=L1 s 0 0:=by kernel_rfl
theorem As(v0:List UInt8)(v3 v4:Int):stepT Za (L1 v0 v3 v4)=let a':=decide (v4<(length v0:Int));.ite (a') (.ite (decide (0≤v4)&&a') (L1 v0 (zc .i64 (zc .i64 (zc .i64 (10*v3)+zc .i64 (↑(zn (getD v0 (toNat v4) (0:UInt8))):Int))-48)) (zc .i64 (v4+1))) .fail) (.leaf (.dat i64 v3) []):=by kernel_rfl
end T165
namespace T163
def T(s:List UInt8):Tr:=tree Yh false 9 163 (Ah ([zm]) s)
def L1(v0:List UInt8)(v3:Bool):Tr:=re ((T []).L.L.L.L) (AH 40 [(0,.dat zm v0),(2,.ptr 0 0),(3,.dat zl v3),(4,.nil)] [(0,.box [.bl false,.nil])] 1)
def L2(v0:List UInt8):Tr:=re ((T []).R) (AH 40 [(0,.dat zm v0),(2,.ptr 0 0),(3,.bl false),(4,.nil)] [(0,.box [.bl false,.nil])] 1)
theorem Am(s:List UInt8):T s=let a':=(↑(zn (getD s 0 (0:UInt8))):Int)==45;.ite (decide ((length s:Int)>0)) (.ite (decide (0<(length s:Int))) (.ite a' (.ite (decide (1≤length s)&&decide (length s≤length s)) (L1 (take (zL (length s) 1) (drop 1 s)) a') .fail) (L1 s a')) .fail) (L2 s):=by kernel_rfl
def L3(v0:List UInt8)(v3:Bool)(v4n:Nat)(o1:List Int):Tr:=re ((stepT Yh (L1 [] false)).L.L.L.L.L) (AH 40 [(0,.dat zm v0),(2,.ptr 0 0),(3,.dat zl v3),(4,.sl 1 1 0 v4n none)] [(1,.arr false 3 i64 o1),(0,.box [.bl false,.nil])] 2)
theorem As(v0:List UInt8)(v3:Bool):stepT Yh (L1 v0 v3)=let b':=decide (1≤1)&&decide (0<1)&&decide ((2*1+1000)*8≤281474976710656);let e':=(length v0:Int);let g':=B4 v3 [Bu v0];let h':=Ar [Bu v0];let a':=zc .i64 (e'-9);let d':=decide (0≤zc .i64 (e'-9));let c':=take (zL (length v0) (toNat a')) (drop (toNat a') v0);let f':=decide (toNat a'≤length v0);.ite (decide (e'>9)) (.ite (d'&&true&&f'&&decide (length v0≤length v0)) (.ite (DB c') (.ite b' (.ite (d'&&decide (0≤toNat a')&&f') (L3 (take (toNat a') v0) v3 1 ([Bu c'])) .fail) .fail) .fail) .fail) (.ite (DB v0) (.ite b' (.ite (decide (0+1≤1)&&true&&decide (1≤20000)) (.leaf (zt [.dat zl g',.dat (zj i64) h']) ([(zk 1 1,.arr true 3 i64 [Bu v0]),(1,.arr false 3 i64 [Bu v0]),(0,.box [.dat zl g',.dat (zj i64) h'])])) .fail) .fail) .fail):=by kernel_rfl
def L4(v0:List UInt8)(v4n:Nat)(o1:List Int):Tr:=re ((stepT Yh (L2 [])).L.L.L.L.L) (AH 40 [(0,.dat zm v0),(2,.ptr 0 0),(3,.bl false),(4,.sl 1 1 0 v4n none)] [(1,.arr false 3 i64 o1),(0,.box [.bl false,.nil])] 2)
theorem A3(v0:List UInt8):stepT Yh (L2 v0)=let b':=decide (1≤1)&&decide (0<1)&&decide ((2*1+1000)*8≤281474976710656);let e':=B4 false [Bu v0];let f':=(length v0:Int);let h':=Ar [Bu v0];let a':=zc .i64 (f'-9);let d':=decide (0≤zc .i64 (f'-9));let c':=take (zL (length v0) (toNat a')) (drop (toNat a') v0);let g':=decide (toNat a'≤length v0);.ite (decide (f'>9)) (.ite (d'&&true&&g'&&decide (length v0≤length v0)) (.ite (DB c') (.ite b' (.ite (d'&&decide (0≤toNat a')&&g') (L4 (take (toNat a') v0) 1 ([Bu c'])) .fail) .fail) .fail) .fail) (.ite (DB v0) (.ite b' (.ite (decide (0+1≤1)&&true&&decide (1≤20000)) (.leaf (zt [.dat zl e',.dat (zj i64) h']) ([(zk 1 1,.arr true 3 i64 [Bu v0]),(1,.arr false 3 i64 [Bu v0]),(0,.box [.dat zl e',.dat (zj i64) h'])])) .fail) .fail) .fail):=by kernel_rfl
theorem C9(v0:List UInt8)(v3:Bool)(v4n:Nat)(o1:List Int):stepT Yh (L3 v0 v3 v4n o1)=let c':=decide (1≤1)&&true&&decide (v4n=length o1)&&decide ((2*(v4n+1)+1000)*8≤281474976710656);let f':=o1++[Bu v0];let g':=(length v0:Int);let a':=zc .i64 (g'-9);let b':=take (zk v4n 1) f';let e':=decide (0≤zc .i64 (g'-9));let d':=take (zL (length v0) (toNat a')) (drop (toNat a') v0);let h':=decide (toNat a'≤length v0);.ite (decide (g'>9)) (.ite (e'&&true&&h'&&decide (length v0≤length v0)) (.ite (DB d') (.ite c' (.ite (e'&&decide (0≤toNat a')&&h') (L3 (take (toNat a') v0) v3 (zk v4n 1) (o1++[Bu d'])) .fail) .fail) .fail) .fail) (.ite (DB v0) (.ite c' (.ite (decide (0+zk v4n 1≤length f')&&true&&decide (length b'≤20000)) (.leaf (zt [.dat zl (B4 v3 b'),.dat (zj i64) (Ar b')]) ([(zk 2 1,.arr true 3 i64 f'),(2,.arr false 3 i64 [Bu v0]),(0,.box [.dat zl (B4 v3 b'),.dat (zj i64) (Ar b')])])) .fail) .fail) .fail):=by kernel_rfl
theorem Dp(v0:List UInt8)(v4n:Nat)(o1:List Int):stepT Yh (L4 v0 v4n o1)=let c':=decide (1≤1)&&true&&decide (v4n=length o1)&&decide ((2*(v4n+1)+1000)*8≤281474976710656);let f':=o1++[Bu v0];let g':=(length v0:Int);let a':=zc .i64 (g'-9);let b':=take (zk v4n 1) f';let e':=decide (0≤zc .i64 (g'-9));let d':=take (zL (length v0) (toNat a')) (drop (toNat a') v0);let h':=decide (toNat a'≤length v0);.ite (decide (g'>9)) (.ite (e'&&true&&h'&&decide (length v0≤length v0)) (.ite (DB d') (.ite c' (.ite (e'&&decide (0≤toNat a')&&h') (L4 (take (toNat a') v0) (zk v4n 1) (o1++[Bu d'])) .fail) .fail) .fail) .fail) (.ite (DB v0) (.ite c' (.ite (decide (0+zk v4n 1≤length f')&&true&&decide (length b'≤20000)) (.leaf (zt [.dat zl (B4 false b'),.dat (zj i64) (Ar b')]) ([(zk 2 1,.arr true 3 i64 f'),(2,.arr false 3 i64 [Bu v0]),(0,.box [.dat zl (B4 false b'),.dat (zj i64) (Ar b')])])) .fail) .fail) .fail):=by kernel_rfl
end T163
end
end Go.Pe
end
section
namespace Go.Pe
open Sp
open Go.Det
noncomputable section
open List Int Prod
namespace T105n
def T(n:Int):Tr:=tree wU false 9 105 (Ah ([zg z6]) n)
theorem Am(n:Int):T n=.leaf (zt [.dat i64 n,.nil]) ([(0,.box [.dat i64 n,.nil])]):=by kernel_rfl
end T105n
namespace T176
def T(a b:Int×List Int):Tr:=tree rG false 9 176 (Ah ([zo i64 (zh (zg ze)),zo i64 (zh (zg ze))]) (a,b))
def L1(v8:Bool)(v12 v13:List Int)(o2 o1 o0:Int)(o0_1:List Int):Tr:=re ((T (0,[]) (0,[])).L.L.R.L.L.L) (AH 84 [(3,.ptr 0 0),(4,.ptr 1 0),(5,.ptr 2 0),(8,.dat zl v8),(12,.dat (zj (zg ze)) v12),(13,.dat (zj (zg ze)) v13)] [(2,.box [.dat i64 o2,.nil]),(1,.box [.dat i64 o1,.nil]),(0,.box [.dat i64 o0,.dat (zh (zg ze)) o0_1])] 3)
theorem Am(a b:Int×List Int):T a b=let b':=zh (zg ze);let c':=Bo (Ag (yj (fst a,snd a)));let d':=Bo (Ag (yj (fst b,snd b)));let e':=z7 (fst a) (fst b);let f':=zc .i64 (zO (fst a) (fst b)+fst b);let h':=zO (fst a) (fst b);let i':=zk (zk 0 1) 1;let a':Tr:=.ite (C8 (fst a,snd a)) (.ite (C8 (fst b,snd b)) (.ite (Re c' d') (L1 (decide (yj (fst a,snd a)<0)) (Bo (An c'/An d')) (Bo (An c' % An d')) 0 0 (fst b) (snd b)) .fail) .fail) .fail;let g':=zc .i64 (zc .i64 e'-1);.ite (!decide (0<length (snd a))) (.ite (!decide (0<length (snd b))) (.ite (fst a !=(-9223372036854775808)) (.ite (decide (fst b≠0)) (.ite (decide (fst b≠0)) (.ite (decide (zO (fst a) (fst b)<0)) (.leaf (.tup [zt [.dat i64 g',.nil],zt [.dat i64 f',.nil]]) ([(zk i' 1,.box [.dat i64 f',.nil]),(zk (zk 0 1) 1,.box [.dat i64 g',.nil]),(zk 0 1,.box [.dat i64 (fst b),.dat b' (snd b)]),(0,.box [.dat i64 (fst a),.dat b' (snd a)])])) (.leaf (.tup [zt [.dat i64 (zc .i64 e'),.nil],zt [.dat i64 h',.nil]]) ([(zk i' 1,.box [.dat i64 h',.nil]),(zk (zk 0 1) 1,.box [.dat i64 (zc .i64 e'),.nil]),(zk 0 1,.box [.dat i64 (fst b),.dat b' (snd b)]),(0,.box [.dat i64 (fst a),.dat b' (snd a)])]))) .fail) .fail) a') a') a':=by kernel_rfl
def L2(o4:Int)(o4_1:List Int)(o3:Int)(o3_1:List Int)(o2 o1 o0:Int)(o0_1:List Int):Tr:=re ((stepT rG (L1 false [] [] 0 0 0 [])).L.L) (AH 84 [(3,.ptr 0 0),(4,.ptr 1 0),(5,.ptr 2 0),(14,.ptr 3 0),(15,.ptr 4 0)] [(4,.box [.dat i64 o4,.dat (zh (zg ze)) o4_1]),(3,.box [.dat i64 o3,.dat (zh (zg ze)) o3_1]),(2,.box [.dat i64 o2,.nil]),(1,.box [.dat i64 o1,.nil]),(0,.box [.dat i64 o0,.dat (zh (zg ze)) o0_1])] 5)
theorem As(v8:Bool)(v12 v13:List Int)(o2 o1 o0:Int)(o0_1:List Int):stepT rG (L1 v8 v12 v13 o2 o1 o0 o0_1)=let a':=Sp.sg v8 (An v13);let b':=Sp.sg v8 (An v12);.ite (B0 v12) (.ite (B0 v13) (L2 (Cq a') (Cp a') (Cq b') (Cp b') o2 o1 o0 o0_1) .fail) .fail:=by kernel_rfl
theorem A3(o4:Int)(o4_1:List Int)(o3:Int)(o3_1:List Int)(o2 o1 o0:Int)(o0_1:List Int):stepT rG (L2 o4 o4_1 o3 o3_1 o2 o1 o0 o0_1)=let a':=zh (zg ze);let b':=fZ (o3,o3_1) (1,B1 1);let c':=eL (o3,o3_1) (1,B1 1);let d':=Hv (o4,o4_1) (o0,o0_1);let e':=HS (o4,o4_1) (o0,o0_1);.ite (C8 (o4,o4_1)) (.ite (decide (Hf (o4,o4_1)<0)) (.ite true (.ite (A5 (o3,o3_1)&&A5 (1,B1 1)) (.ite (A5 (o4,o4_1)&&A5 (o0,o0_1)) (.leaf (.tup [zt [.dat i64 b',.dat a' c'],zt [.dat i64 d',.dat a' e']]) ([(4,.box [.dat i64 d',.dat a' e']),(3,.box [.dat i64 b',.dat a' c']),(2,.box [.dat i64 d',.dat a' e']),(1,.box [.dat i64 b',.dat a' c']),(0,.box [.dat i64 o0,.dat a' o0_1])])) .fail) .fail) .fail) (.leaf (.tup [zt [.dat i64 o3,.dat a' o3_1],zt [.dat i64 o4,.dat a' o4_1]]) ([(4,.box [.dat i64 o4,.dat a' o4_1]),(3,.box [.dat i64 o3,.dat a' o3_1]),(2,.box [.dat i64 o4,.dat a' o4_1]),(1,.box [.dat i64 o3,.dat a' o3_1]),(0,.box [.dat i64 o0,.dat a' o0_1])]))) .fail:=by kernel_rfl
end T176
namespace T152
def T(a b:Int×List Int):Tr:=tree tH false 9 152 (Ah ([zo i64 (zh (zg ze)),zo i64 (zh (zg ze))]) (a,b))
def L1(o2 o1:Int)(o1_1:List Int)(o0:Int)(o0_1:List Int):Tr:=re ((T (0,[]) (0,[])).L.L) (AH 23 [(2,.ptr 0 0),(3,.ptr 1 0),(4,.ptr 2 0)] [(2,.box [.dat i64 o2,.nil]),(1,.box [.dat i64 o1,.dat (zh (zg ze)) o1_1]),(0,.box [.dat i64 o0,.dat (zh (zg ze)) o0_1])] 3)
theorem Am(a b:Int×List Int):T a b=.ite (C8 (fst a,snd a)) (.ite (C8 (fst b,snd b)) (L1 0 (M6 (fst b,snd b)) (Og (fst b,snd b)) (M6 (fst a,snd a)) (Og (fst a,snd a))) .fail) .fail:=by kernel_rfl
theorem As(o2 o1:Int)(o1_1:List Int)(o0:Int)(o0_1:List Int):stepT tH (L1 o2 o1 o1_1 o0 o0_1)=let a':=zh (zg ze);.ite (C8 (o1,o1_1)) (.ite (Hf (o1,o1_1) !=0) (.ite (A5 (o0,o0_1)&&A5 (o1,o1_1)&&decide (0<yj (o1,o1_1))) (L1 o2 (SW (o0,o0_1) (o1,o1_1)) (Tu (o0,o0_1) (o1,o1_1)) o1 o1_1) .fail) (.leaf (zt [.dat i64 o0,.dat a' o0_1]) ([(2,.box [.dat i64 o0,.dat a' o0_1]),(1,.box [.dat i64 o1,.dat a' o1_1]),(0,.box [.dat i64 o0,.dat a' o0_1])]))) .fail:=by kernel_rfl
end T152
namespace T216
def T(a:Int×List Int)(k:Int):Tr:=tree sU false 9 216 (Ah ([zo i64 (zh (zg ze)),zg z6]) (a,k))
def L1(v1 o2:Int)(o2_1:List Int)(o1 o0:Int)(o0_1:List Int):Tr:=re ((T (0,[]) 0).L) (AH 23 [(1,.dat i64 v1),(2,.ptr 0 0),(4,.ptr 1 0),(5,.ptr 2 0)] [(2,.box [.dat i64 o2,.dat (zh (zg ze)) o2_1]),(1,.box [.dat i64 o1,.nil]),(0,.box [.dat i64 o0,.dat (zh (zg ze)) o0_1])] 3)
theorem Am(a:Int×List Int)(k:Int):T a k=.ite true (L1 k 1 (B1 1) 0 (fst a) (snd a)) .fail:=by kernel_rfl
theorem As(v1 o2:Int)(o2_1:List Int)(o1 o0:Int)(o0_1:List Int):stepT sU (L1 v1 o2 o2_1 o1 o0 o0_1)=let a':=zh (zg ze);let b':=Int.fdiv v1 (2^1);let c':=A5 (o0,o0_1)&&A5 (o0,o0_1);let d':=Ex (o2,o2_1) (o0,o0_1);let e':=Ew (o2,o2_1) (o0,o0_1);let f':=Ex (o0,o0_1) (o0,o0_1);let g':=Ew (o0,o0_1) (o0,o0_1);.ite (decide (v1>0)) (.ite (G4 z6 v1 1==1) (.ite (A5 (o2,o2_1)&&A5 (o0,o0_1)) (.ite (decide (v1>1)) (.ite c' (.ite true (L1 b' d' e' o1 f' g') .fail) .fail) (.ite true (L1 b' d' e' o1 o0 o0_1) .fail)) .fail) (.ite (decide (v1>1)) (.ite c' (.ite true (L1 b' o2 o2_1 o1 f' g') .fail) .fail) (.ite true (L1 b' o2 o2_1 o1 o0 o0_1) .fail))) (.leaf (zt [.dat i64 o2,.dat a' o2_1]) ([(2,.box [.dat i64 o2,.dat a' o2_1]),(1,.box [.dat i64 o2,.dat a' o2_1]),(0,.box [.dat i64 o0,.dat a' o0_1])])):=by kernel_rfl
end T216
end
end Go.Pe
end
section
namespace Go.Pe
open Sp
open Go.Det
noncomputable section
open List Int Prod
namespace T230
def T(a b:List Int):Tr:=tree IK false 9 230 (Ah ([zj (zg ze),zj (zg ze)]) (a,b))
def L1(v0 v1:List Int)(v6n:Nat)(v7 v8:Int)(o0:List Int):Tr:=re ((T [] []).L.R.L.L) (AH 137 [(0,.dat (zj (zg ze)) v0),(1,.dat (zj (zg ze)) v1),(6,.sl 0 1 0 v6n none),(7,.dat (zg ze) v7),(8,.dat i64 v8)] [(0,.arr false 130 (zg ze) o0)] 1)
def L2(a b:List Int)(v1:Int)(v5n:Nat)(v12:List Int)(v13 v14:Int)(o0:List Int):Tr:=re ((T a b).L.R.R.L.L.L) (AH 40 [(1,.dat i64 v1),(5,.sl 0 1 0 v5n none),(12,.dat (zj (zg ze)) v12),(13,.dat i64 v13),(14,.dat i64 v14)] [(0,.arr false 130 (zg ze) o0)] 1)
theorem Am(a b:List Int):T a b=let a':=(length b:Int);let b':=(length a:Int);let c':=zc .i64 (a'+1);let d':=getD b (toNat (zc .i64 (a'-1))) 0;.ite (B0 a&&B0 b) (.ite (decide (BW (An a) (An b)<0)) (.leaf (.tup [.nil,.dat (zj (zg ze)) a]) []) (.ite (a'==1) (.ite (decide (0≤b')&&decide (b'=b')&&decide (8*toNat b'≤281474976710656)&&decide (b'<9223372036854775808)) (L1 a b (toNat b') 0 (zc .i64 (b'-1)) (replicate (toNat b') 0)) .fail) (.ite (decide (0≤zc .i64 (a'-1))&&decide (zc .i64 (a'-1)<a')) (.ite (zy d') (.ite (decide (0≤zc .i64 (a'+1))&&decide (zc .i64 (a'+1)=zc .i64 (a'+1))&&decide (8*toNat c'≤281474976710656)&&decide (zc .i64 (a'+1)<9223372036854775808)) (L2 a b (Sp.lz d') (toNat c') b (a') 0 (replicate (toNat c') 0)) .fail) .fail) .fail))) .fail:=by kernel_rfl
theorem As(v0 v1:List Int)(v6n:Nat)(v7 v8:Int)(o0:List Int):stepT IK (L1 v0 v1 v6n v7 v8 o0)=let a':=zg ze;let b':=getD v0 (toNat v8) 0;.ite (decide (v8≥0)) (.ite (decide (0≤v8)&&decide (v8<(length v0:Int))) (.ite (decide (0<(length v1:Int))) (.ite (zy v7&&zy b'&&zy (getD v1 0 0)&&decide (v7<getD v1 0 0)) (.ite (decide (0≤v8)&&decide (v8<(↑v6n:Int))) (.ite (decide (toNat v8<length o0)) (L1 v0 v1 v6n (Sp.dr v7 b' (getD v1 0 0)) (zc .i64 (v8-1)) (set o0 (toNat v8) (Sp.dq v7 b' (getD v1 0 0)))) .fail) .fail) .fail) .fail) .fail) (.ite (decide (0+v6n≤length o0)&&true&&Cx (take v6n o0)) (.ite (decide (1≤1)&&true&&Cx [v7]) (.leaf (.tup [.dat (zj a') (Ar (take v6n o0)),.dat (zj a') (Ar [v7])]) ([(1,.arr true 130 a' [v7]),(0,.arr true 130 a' o0)])) .fail) .fail):=by kernel_rfl
def L3(a b:List Int)(v1:Int)(v5n:Nat)(v12:List Int)(v13 v14:Int)(o0:List Int)(v1':Int)(v5n':Nat)(v12':List Int)(v13':Int)(v14':Int)(o1:List Int)(o0':List Int):Tr:=re ((stepT IK (L2 a b v1 v5n v12 v13 v14 o0)).R.L.L) (AH 40 [(1,.dat i64 v1'),(5,.sl 1 1 0 v5n' none),(12,.dat (zj (zg ze)) v12'),(13,.dat i64 v13'),(14,.dat i64 v14')] [(1,.arr false 130 (zg ze) o1),(0,.arr true 130 (zg ze) o0')] 2)
theorem A3(a b:List Int)(v1:Int)(v5n:Nat)(v12:List Int)(v13 v14:Int)(o0:List Int):stepT IK (L2 a b v1 v5n v12 v13 v14 o0)=let a':=set o0 (toNat v14) (TZ ze (getD o0 (toNat v14) 0) (zc .u64 (getD v12 (toNat v14) 0*2^yf (toNat v1) 64)));let b':=(length a:Int)+1;let c':=zc .i64 (v14+1);let e':=decide (0≤v14)&&decide (v14<(↑v5n:Int));let f':=decide (toNat v14<length o0);let d':=zc .i64 b';.ite (decide (v14<v13)) (.ite (decide (0≤v14)&&decide (v14<(length v12:Int))) (.ite e' (.ite f' (.ite (decide (0≤v1)) (.ite e' (.ite f' (.ite (decide (v1>0)) (.ite (decide (0≤zc .i64 (64-v1))) (.ite (decide (0≤zc .i64 (v14+1))&&decide (zc .i64 (v14+1)<(↑v5n:Int))) (.ite (decide (toNat c'<length a')) (L2 a b v1 v5n v12 v13 c' (set a' (toNat c') (Int.fdiv (getD v12 (toNat v14) 0) (2^yf (toNat (zc .i64 (64-v1))) 64)))) .fail) .fail) .fail) (L2 a b v1 v5n v12 v13 c' a')) .fail) .fail) .fail) .fail) .fail) .fail) (.ite (decide (0+v5n≤length o0)&&true&&Cx (take v5n o0)) (.ite (decide (0≤zc .i64 b')&&decide (zc .i64 b'=zc .i64 b')&&decide (8*toNat d'≤281474976710656)&&decide (zc .i64 b'<9223372036854775808)) (L3 a b v1 v5n v12 v13 v14 o0 (Sp.lz (getD b (toNat (zc .i64 ((length b:Int)-1))) 0)) (toNat d') a ((length a:Int)) 0 (replicate (toNat d') 0) o0) .fail) .fail):=by kernel_rfl
def L4(v9:Int)(v10:List Int)(v11n:Nat)(v12:Int)(v13n:Nat)(v14:Int)(o1 o0:List Int):Tr:=re ((stepT IK (L3 [] [] 0 0 [] 0 0 [] 0 0 [] 0 0 [] [])).R.L) (AH 137 [(9,.dat i64 v9),(10,.dat (zj (zg ze)) v10),(11,.sl 0 1 0 v11n none),(12,.dat i64 v12),(13,.sl 1 1 0 v13n none),(14,.dat i64 v14)] [(1,.arr false 130 (zg ze) o1),(0,.arr false 130 (zg ze) o0)] 2)
theorem C9(a b:List Int)(v1:Int)(v5n:Nat)(v12:List Int)(v13 v14:Int)(o0:List Int)(v1':Int)(v5n':Nat)(v12':List Int)(v13':Int)(v14':Int)(o1:List Int)(o0':List Int):stepT IK (L3 a b v1 v5n v12 v13 v14 o0 v1' v5n' v12' v13' v14' o1 o0')=let b':=set o1 (toNat v14') (TZ ze (getD o1 (toNat v14') 0) (zc .u64 (getD v12' (toNat v14') 0*2^yf (toNat v1') 64)));let c':=zc .i64 (v14'+1);let e':=decide (0≤v14')&&decide (v14'<(↑v5n':Int));let g':=decide (toNat v14'<length o1);let h':=Ar (take v5n o0);let d':=(↑(length h'):Int);let a':=zc .i64 ((length a:Int)-d')+1;let f':=zc .i64 a';.ite (decide (v14'<v13')) (.ite (decide (0≤v14')&&decide (v14'<(↑(length v12'):Int))) (.ite e' (.ite g' (.ite (decide (0≤v1')) (.ite e' (.ite g' (.ite (decide (v1'>0)) (.ite (decide (0≤zc .i64 (64-v1'))) (.ite (decide (0≤zc .i64 (v14'+1))&&decide (zc .i64 (v14'+1)<(↑v5n':Int))) (.ite (decide (toNat c'<length b')) (L3 a b v1 v5n v12 v13 v14 o0 v1' v5n' v12' v13' c' (set b' (toNat c') (Int.fdiv (getD v12' (toNat v14') 0) (2^yf (toNat (zc .i64 (64-v1'))) 64))) o0') .fail) .fail) .fail) (L3 a b v1 v5n v12 v13 v14 o0 v1' v5n' v12' v13' c' b' o0')) .fail) .fail) .fail) .fail) .fail) .fail) (.ite (decide (0≤zc .i64 a')&&decide (zc .i64 a'=zc .i64 a')&&decide (8*toNat f'≤281474976710656)&&decide (zc .i64 a'<9223372036854775808)) (L4 (Sp.lz (getD b (toNat (zc .i64 ((length b:Int)-1))) 0)) h' v5n' (d') (toNat f') (zc .i64 ((length a:Int)-d')) (replicate (toNat f') 0) o1) .fail):=by kernel_rfl
def L5(v9:Int)(v10:List Int)(v11n:Nat)(v12:Int)(v13n:Nat)(v14:Int)(o1 o0:List Int)(v0o v0n v0c:Nat)(v1:List Int)(v5 v6 v7 v8:Int)(o1':List Int)(o0':List Int):Tr:=re ((stepT IK (L4 v9 v10 v11n v12 v13n v14 o1 o0)).L.L.L.L.L.L.L.L.L.L) (AH 186 [(0,.sl 0 1 v0o v0n (Option.some v0c)),(1,.dat (zj (zg ze)) v1),(5,.dat i64 v5),(6,.dat (zg ze) v6),(7,.dat (zg ze) v7),(8,.dat (zg ze) v8)] [(1,.arr false 130 (zg ze) o1'),(0,.arr false 130 (zg ze) o0')] 2)
def L6(v9:Int)(v11n:Nat)(v12:Int)(v13n:Nat)(v96 v97:Int)(o1 o0:List Int):Tr:=re ((stepT IK (L4 0 [] 0 0 0 0 [] [])).R) (AH 137 [(9,.dat i64 v9),(11,.sl 0 1 0 v11n none),(12,.dat i64 v12),(13,.sl 1 1 0 v13n none),(96,.dat i64 v96),(97,.dat i64 v97)] [(1,.arr false 130 (zg ze) o1),(0,.arr false 130 (zg ze) o0)] 2)
theorem Dp(v9:Int)(v10:List Int)(v11n:Nat)(v12:Int)(v13n:Nat)(v14:Int)(o1 o0:List Int):stepT IK (L4 v9 v10 v11n v12 v13n v14 o1 o0)=let c':=(length v10:Int);let d':=zk 0 (toNat v14);let k':=zL (zN none v11n) (toNat v14);let p':=zc .i64 (v14+v12)+1;let a':=toNat (zc .i64 (c'-1));let g':=zc .i64 p';let h':=zk (toNat c') d';let l':=decide (zk (toNat c') d'<length o0);let n':=decide (0≤zc .i64 (c'-1));let b':=zL (toNat g') (toNat v14);let e':=n'&&decide (zc .i64 (c'-1)<c');let f':=getD o0 (zk a' d') 0;let j':=getD v10 a' 0;let o':=decide (zk a' d'<length o0);let q':=getD o0 h' 0;let i':=n'&&decide (zc .i64 (c'-1)<(↑b':Int));let m':=decide (0≤c')&&decide (c'<(↑b':Int));.ite (decide (v14≥0)) (.ite (decide (0≤v14)&&decide (0≤zc .i64 p')&&true&&decide (toNat v14≤toNat g')&&decide (toNat g'≤zN none v11n)&&decide (zN none v11n≤zN none v11n)&&true) (.ite m' (.ite l' (.ite e' (.ite (decide (getD o0 h' 0≥getD v10 a' 0)) (.ite i' (.ite o' (.ite e' (.ite (zy f'&&zy j'&&decide ((0:yi (By [u64]))≤0)&&decide (0≤(1:yi (By [u64])))) (L5 v9 v10 v11n v12 v13n v14 o1 o0 d' b' k' v10 (c') 18446744073709551615 (Hk f' j' 0) (OY f' j' 0) o1 o0) .fail) .fail) .fail) .fail) (.ite m' (.ite l' (.ite i' (.ite o' (.ite e' (.ite (zy q'&&zy f'&&zy j'&&decide (getD o0 h' 0<getD v10 a' 0)) (L5 v9 v10 v11n v12 v13n v14 o1 o0 d' b' k' v10 (c') (Sp.dq q' f' j') (Sp.dr q' f' j') 0 o1 o0) .fail) .fail) .fail) .fail) .fail) .fail)) .fail) .fail) .fail) .fail) (L6 v9 v11n v12 v13n v12 0 o1 o0):=by kernel_rfl
def L7(v9:Int)(v10:List Int)(v11n:Nat)(v12:Int)(v13n:Nat)(v14:Int)(o1 o0:List Int)(v0o v0n v0c:Nat)(v1:List Int)(v5 v6 v11:Int)(v12':Int)(v104 v105:Int)(o1':List Int)(o0':List Int):Tr:=re ((stepT IK (L5 v9 v10 v11n v12 v13n v14 o1 o0 0 0 0 [] 0 0 0 0 [] [])).L.L.L.L) (AH 186 [(0,.sl 0 1 v0o v0n (Option.some v0c)),(1,.dat (zj (zg ze)) v1),(5,.dat i64 v5),(6,.dat (zg ze) v6),(11,.dat (zg ze) v11),(12,.dat (zg ze) v12'),(104,.dat i64 v104),(105,.dat i64 v105)] [(1,.arr false 130 (zg ze) o1'),(0,.arr false 130 (zg ze) o0')] 2)
theorem Gr(v9:Int)(v10:List Int)(v11n:Nat)(v12:Int)(v13n:Nat)(v14:Int)(o1 o0:List Int)(v0o v0n v0c:Nat)(v1:List Int)(v5 v6 v7 v8:Int)(o1':List Int)(o0':List Int):stepT IK (L5 v9 v10 v11n v12 v13n v14 o1 o0 v0o v0n v0c v1 v5 v6 v7 v8 o1' o0')=let b':=toNat (zc .i64 (v5-2));let c':=L7 v9 v10 v11n v12 v13n v14 o1 o0 v0o v0n v0c v1 v5 v6 0 0 v5 0 o1' o0';let d':=getD v1 (toNat (zc .i64 (v5-1))) 0;let f':=decide (0≤zc .i64 (v5-2));let a':Tr:=.ite (decide (0≤zc .i64 (v5-1))&&decide (zc .i64 (v5-1)<(length v1:Int))) (.ite (zy v7&&zy d'&&decide ((0:yi (By [u64]))≤0)&&decide (0≤(1:yi (By [u64])))) (L5 v9 v10 v11n v12 v13n v14 o1 o0 v0o v0n v0c v1 v5 (zc .u64 (v6-1)) (Hk v7 d' 0) (OY v7 d' 0) o1' o0') .fail) .fail;let e':=getD v1 b' 0;.ite (v8==0) (.ite (f'&&decide (zc .i64 (v5-2)<(length v1:Int))) (.ite (zy v6&&zy e') (.ite (decide (P7 v6 e'<v7)) c' (.ite (P7 v6 e'==v7) (.ite (f'&&decide (zc .i64 (v5-2)<(↑v0n:Int))) (.ite (decide (zk b' v0o<length o0')) (.ite (decide (H3 v6 e'≤getD o0' (zk b' v0o) 0)) c' a') .fail) .fail) a')) .fail) .fail) c':=by kernel_rfl
theorem Hg(v9:Int)(v11n:Nat)(v12:Int)(v13n:Nat)(v96 v97:Int)(o1 o0:List Int):stepT IK (L6 v9 v11n v12 v13n v96 v97 o1 o0)=let a':=set o0 (toNat v97) (Int.fdiv (getD o0 (toNat v97) 0) (2^yf (toNat v9) 64));let b':=decide (0≤v97)&&decide (v97<(↑v11n:Int));let c':=zc .i64 (v97+1);let d':=zg ze;let e':=decide (zc .i64 (v97+1)<(↑v11n:Int));let g':=decide (toNat v97<length o0);let f':=L6 v9 v11n v12 v13n v96 c' o1 a';let h':=decide (toNat v97<length a');.ite (decide (v97<v96)) (.ite b' (.ite g' (.ite (decide (0≤v9)) (.ite b' (.ite g' (.ite (decide (v9>0)) (.ite (e') (.ite b' (.ite h' (.ite (decide (0≤zc .i64 (v97+1))&&e') (.ite (decide (toNat c'<length a')) (.ite (decide (0≤zc .i64 (64-v9))) (.ite b' (.ite h' (L6 v9 v11n v12 v13n v96 c' o1 (set a' (toNat v97) (TZ ze (getD a' (toNat v97) 0) (zc .u64 (getD a' (toNat c') 0*2^yf (toNat (zc .i64 (64-v9))) 64))))) .fail) .fail) .fail) .fail) .fail) .fail) .fail) f') f') .fail) .fail) .fail) .fail) .fail) (.ite (decide (0≤v12)&&true&&decide (0≤toNat v12)&&decide (toNat v12≤zN none v11n)&&decide (zN none v11n≤zN none v11n)&&true) (.ite (decide (0+v13n≤length o1)&&true&&Cx (take v13n o1)) (.ite (decide (0+toNat v12≤length o0)&&true&&Cx (take (toNat v12) o0)) (.leaf (.tup [.dat (zj d') (Ar (take v13n o1)),.dat (zj d') (Ar (take (toNat v12) o0))]) ([(1,.arr true 130 d' o1),(0,.arr true 130 d' o0)])) .fail) .fail) .fail):=by kernel_rfl
def L8(v9:Int)(v10:List Int)(v11n:Nat)(v12:Int)(v13n:Nat)(v14:Int)(o1 o0:List Int)(v0o v0n v0c:Nat)(v1:List Int)(v5 v6 v17 v156 v157:Int)(o1':List Int)(o0':List Int):Tr:=re ((stepT IK (L7 v9 v10 v11n v12 v13n v14 o1 o0 0 0 0 [] 0 0 0 0 0 0 [] [])).R.L.L.L.L.L.R) (AH 186 [(0,.sl 0 1 v0o v0n (Option.some v0c)),(1,.dat (zj (zg ze)) v1),(5,.dat i64 v5),(6,.dat (zg ze) v6),(17,.dat (zg ze) v17),(156,.dat i64 v156),(157,.dat i64 v157)] [(1,.arr false 130 (zg ze) o1'),(0,.arr false 130 (zg ze) o0')] 2)
theorem FT(v9:Int)(v10:List Int)(v11n:Nat)(v12:Int)(v13n:Nat)(v14:Int)(o1 o0:List Int)(v0o v0n v0c:Nat)(v1:List Int)(v5 v6 v11:Int)(v12':Int)(v104 v105:Int)(o1':List Int)(o0':List Int):stepT IK (L7 v9 v10 v11n v12 v13n v14 o1 o0 v0o v0n v0c v1 v5 v6 v11 v12' v104 v105 o1' o0')=let b':=zk (toNat v5) v0o;let d':=getD v1 (toNat v105) 0;let e':=decide (zk (toNat v105) v0o<length o0');let g':=decide (zk (toNat v5) v0o<length o0');let h':=decide (0≤v105)&&decide (v105<(↑v0n:Int));let i':=(0:yi (By [u64]));let j':=(1:yi (By [u64]));let k':=decide (0≤v5)&&decide (v5<(↑v0n:Int));let n':=zk (toNat v105) v0o;let a':=H3 v6 d';let c':=getD o0' n' 0;let m':=getD o0' b' 0;let f':=set o0' b' (Sq m' v12' v11);let l':=Hk a' v12' 0;.ite (decide (v105<v104)) (.ite (decide (0≤v105)&&decide (v105<(length v1:Int))) (.ite (zy v6&&zy d') (.ite (zy a'&&zy v12'&&decide (i'≤0)&&decide (0≤j')) (.ite h' (.ite e' (.ite (zy c'&&zy l'&&decide (i'≤v11)&&decide (v11≤j')) (.ite h' (.ite e' (L7 v9 v10 v11n v12 v13n v14 o1 o0 v0o v0n v0c v1 v5 v6 (Pg c' l' v11) (zc .u64 (P7 v6 d'+OY a' v12' 0)) v104 (zc .i64 (v105+1)) o1' (set o0' n' (Sq c' l' v11))) .fail) .fail) .fail) .fail) .fail) .fail) .fail) .fail) (.ite k' (.ite g' (.ite (zy m'&&zy v12'&&decide (i'≤v11)&&decide (v11≤j')) (.ite k' (.ite g' (.ite (Pg m' v12' v11==0) (.ite (decide (0≤v14)&&decide (v14<(↑v13n:Int))) (.ite (decide (toNat v14<length o1')) (L4 v9 v10 v11n v12 v13n (zc .i64 (v14-1)) (set o1' (toNat v14) v6) f') .fail) .fail) (L8 v9 v10 v11n v12 v13n v14 o1 o0 v0o v0n v0c v1 v5 v6 0 v5 0 o1' f')) .fail) .fail) .fail) .fail) .fail):=by kernel_rfl
theorem I5(v9:Int)(v10:List Int)(v11n:Nat)(v12:Int)(v13n:Nat)(v14:Int)(o1 o0:List Int)(v0o v0n v0c:Nat)(v1:List Int)(v5 v6 v17 v156 v157:Int)(o1':List Int)(o0':List Int):stepT IK (L8 v9 v10 v11n v12 v13n v14 o1 o0 v0o v0n v0c v1 v5 v6 v17 v156 v157 o1' o0')=let b':=decide (zk (toNat v157) v0o<length o0');let c':=getD v1 (toNat v157) 0;let d':=decide (zk (toNat v5) v0o<length o0');let e':=decide (0≤v157)&&decide (v157<(↑v0n:Int));let f':=decide (0≤v5)&&decide (v5<(↑v0n:Int));let g':=zk (toNat v157) v0o;let h':=zk (toNat v5) v0o;let a':=getD o0' g' 0;.ite (decide (v157<v156)) (.ite e' (.ite b' (.ite (decide (0≤v157)&&decide (v157<(length v1:Int))) (.ite (zy a'&&zy c'&&decide ((0:yi (By [u64]))≤v17)&&decide (v17≤(1:yi (By [u64])))) (.ite e' (.ite b' (L8 v9 v10 v11n v12 v13n v14 o1 o0 v0o v0n v0c v1 v5 v6 (OY a' c' v17) v156 (zc .i64 (v157+1)) o1' (set o0' g' (Hk a' c' v17))) .fail) .fail) .fail) .fail) .fail) .fail) (.ite f' (.ite d' (.ite f' (.ite d' (.ite (decide (0≤v14)&&decide (v14<(↑v13n:Int))) (.ite (decide (toNat v14<length o1')) (L4 v9 v10 v11n v12 v13n (zc .i64 (v14-1)) (set o1' (toNat v14) (zc .u64 (v6-1))) (set o0' h' (zc .u64 (getD o0' h' 0+v17)))) .fail) .fail) .fail) .fail) .fail) .fail):=by kernel_rfl
end T230
end
end Go.Pe
end
section
namespace Go.Pe
open Sp
open Go.Det
namespace T230
variable {Q:PV→Ob→Prop}
theorem yN{r x d:Int}(hd:0<d)(hr:0≤r∧r<d)(hx:0≤x∧x<18446744073709551616):Sp.dq r x d*d+Sp.dr r x d=r*18446744073709551616+x∧0≤Sp.dq r x d∧Sp.dq r x d<18446744073709551616∧0≤Sp.dr r x d∧Sp.dr r x d<d:=by
 unfold Sp.dq Sp.dr;have h:=zZ (r*18446744073709551616+x) d;rw[zu]at h;refine⟨h,Int.ediv_nonneg (by omega) (by omega),Int.ediv_lt_of_lt_mul hd (by omega),Int.emod_nonneg _ (by omega),Int.emod_lt_of_pos _ hd⟩
theorem Aj(a:List Int)(d:Int)(ha:Au Ak a)(hd:0<d∧d<18446744073709551616)(hm:a.length≤20000)(hq:∀q r ob,Au Ak q→(0≤r∧r<d)→An a=An q*d+r→Q (.tup [.dat CZ (Ar q),.dat CZ (Ar [r])]) ob):∀(i:Nat) (q:List Int) (r:Int),i+q.length=a.length→Au Ak q→(0≤r∧r<d)→zw Ak (a.drop i)=zw Ak q*d+r→
  Ends IK (L1 a [d] a.length r ((i:Int)-1) (zW i 0++q)) Q
 |0,q,r,hl,hdq,hr,he=>by
  have ht:((zW 0 0++q).take a.length)=q:=by
   rw[List.replicate_zero,List.nil_append];exact zY (by omega)
  refine Ends.At (As ..) (Ends.ff (by simp) ?_);rw[ht];refine zr (Ac (by simp;omega) (DR (by omega) hdq)) (zr (Ac rfl (DR (by simp) (fun x hx=>by rw[List.mem_singleton]at hx;subst hx;exact⟨hr.1,by show x<18446744073709551616;omega⟩))) (Ends.leaf (hq q r _ hdq hr he)))
 |i+1,q,r,hl,hdq,hr,he=>by
  have e1:(((i+1:Nat):Int)-1)=(i:Int):=by omega
  have gx:=AS ha i;obtain⟨d1,d2,d3,d4,d5⟩:=yN hd.1 hr (yk gx);have da:a.drop i=a.getD i 0::a.drop (i+1):=by
   rw[zx,zT (by omega)];exact yb (by omega)
  have es:∀x,(zW (i+1) (0:Int)++q).set i x=zW i 0++(x::q):=by
   intro x;rw[List.replicate_succ',zX];exact C5 _ _ _ _ (by simp)
  rw[e1];refine Ends.At (As ..) (zr (by simp) ?_);rw[zM,es,wr ((i:Int)-1) (by omega) (by omega)];refine zr (by simp;omega) (zr (by simp) (zr ?_ (zr (by simp;omega) (zr (by simp;omega) ?_))))
  ·exact Ac (Ac (Ac (Cv hr.1 (by omega)) gx) (Cv (by show 0≤d;omega) hd.2)) (decide_eq_true hr.2)
  ·refine Aj a d ha hd hm hq i _ _ (by simp;omega) (fun x hx=>?_) ⟨d4,d5⟩ ?_
   ·rcases List.mem_cons.1 hx with rfl|hx
    ·exact⟨d2,d3⟩
    ·exact hdq x hx
   ·rw[da];show a.getD i 0+(18446744073709551616:Int)*zw Ak (a.drop (i+1))=(Sp.dq r (a.getD i 0) d+(18446744073709551616:Int)*zw Ak q)*d+Sp.dr r (a.getD i 0) d;rw[he,zz,zK,zq];omega
end T230
end Go.Pe
end
section
namespace Go.Sp
theorem TX{B P u0 u1 u2 u' v1 v2 v' q r:Int}(hP:0<P)(hv:0≤v')(hu:u'<P)(hq:0≤q)(he:q*v1+r=u0*B+u1)(h:r*B+u2<q*v2):
  ((u0*B+u1)*B+u2)*P+u'<q*((v1*B+v2)*P+v'):=by
 have e:q*(v1*B+v2)=q*v1*B+q*v2:=by rw[zK,zq]
 have e2:(u0*B+u1)*B=q*v1*B+r*B:=by rw[←he,zz]
 have h1:(u0*B+u1)*B+u2+1≤q*(v1*B+v2):=by rw[e,e2];omega
 have h2:=zp h1 (zR hP);have h3:0≤q*v':=zS hq hv;rw[zK q, ←zq];rw[zz,zP]at h2;omega
theorem Tz{B P u0 u1 u2 u' v1 v2 v' q r:Int}(hP:0<P)(hv:0≤v'∧v'<P)(hu:0≤u')(hq:0≤q∧q<B)(hv1:1≤v1)(hv2:0≤v2)(he:q*v1+r=u0*B+u1)(h:q*v2≤r*B+u2):
  q*((v1*B+v2)*P+v')<((u0*B+u1)*B+u2)*P+u'+((v1*B+v2)*P+v'):=by
 have e:q*(v1*B+v2)=q*v1*B+q*v2:=by rw[zK,zq]
 have e2:(u0*B+u1)*B=q*v1*B+r*B:=by rw[←he,zz]
 have h1:q*(v1*B+v2)≤(u0*B+u1)*B+u2:=by rw[e,e2];omega
 have h2:=zp h1 (zR hP);have h3:q*v'≤(B-1)*P:=Int.le_trans (zQ (zR hv.2) hq.1) (zp (by omega) (zR hP));have h4:B≤v1*B+v2:=by
  have:=zp hv1 (show 0≤B by omega);omega
 have h5:=zp h4 (zR hP);rw[Int.sub_mul,zP]at h3;rw[zK q, ←zq];omega
end Go.Sp
end
section
namespace Go.Sp
theorem G7(b:Int):∀(l:List Int) (i:Nat) (x:Int),i<l.length→val b (l.set i x)=val b l+b^i*(x-l.getD i 0)
 |[],i,x,h=>by simp at h
 |d::l,0,x,_=>by
  show x+b*val b l=d+b*val b l+b^0*(x-d);rw[Int.pow_zero,zP];omega
 |d::l,i+1,x,h=>by
  have:=G7 b l i x (by simpa using h);show d+b*val b (l.set i x)=d+b*val b l+b^(i+1)*(x-l.getD i 0);rw[this,zK,ya,zu (b^i) b,zq,Int.add_assoc]
theorem Gs{b:Int}{l:List Int}(h:Au b l)(i:Nat){x:Int}(hx:0≤x∧x<b):Au b (l.set i x):=by
 intro d hd;rcases List.mem_or_eq_of_mem_set hd with hd|rfl
 ·exact h d hd
 ·exact hx
theorem EC{b:Int}{l r:List Int}(h1:Au b l)(h2:Au b r):Au b (l++r):=by
 intro d hd;rcases List.mem_append.1 hd with hd|hd
 ·exact h1 d hd
 ·exact h2 d hd
theorem Jd{b:Int}(hb:0<b){l:List Int}(h:Au b l)(i:Nat):0≤l.getD i 0∧l.getD i 0<b:=by
 rcases Nat.lt_or_ge i l.length with hi|hi
 ·have:l.getD i 0∈l:=by rw[zx,zT hi];exact List.getElem_mem hi
  exact h _ this
 ·rw[zx,List.getElem?_eq_none hi];exact⟨Int.le_refl _,hb⟩
theorem B5{l:List Int}{i:Nat}(h:i<l.length):l.drop i=l.getD i 0::l.drop (i+1):=by
 rw[zx,zT h];exact yb h
theorem GA(p r:List Int)(i j:Nat)(h:p.length=j):(p++r).getD (i+j) 0=r.getD i 0:=by
 subst h;rw[zx,zx,List.getElem?_append_right (by omega),zU]
theorem R3(p r:List Int)(i j:Nat)(x:Int)(h:p.length=j):(p++r).set (i+j) x=p++r.set i x:=by
 subst h;rw[List.set_append_right _ _ (by omega),zU]
theorem mA(b:Int)(r:List Int)(k:Nat)(hl:k+3≤r.length)(hz:val b (r.drop (k+3))=0):
  val b r=((r.getD (k+2) 0*b+r.getD (k+1) 0)*b+r.getD k 0)*b^k+val b (r.take k):=by
 have p1:b^(k+1)=b^k*b:=ya ..;have p2:b^(k+2)=b^k*b*b:=by rw[←p1];exact ya ..
 rw[B6 b r (k+3) hl,hz,AD,AD,AD,p1,p2,yg,yh];generalize b^k=P;generalize r.getD (k+2) 0=x;generalize r.getD (k+1) 0=y;generalize r.getD k 0=z;have e1:P*b*b*x=x*b*b*P:=by rw[zu (P*b*b) x,zu P b,zq b P b,zu P b, ←zq, ←zq]
 have e2:P*b*y=y*b*P:=by rw[zu (P*b) y,zu P b,zq]
 have e3:P*z=z*P:=zu _ _;have e4:((x*b+y)*b+z)*P=x*b*b*P+y*b*P+z*P:=by rw[zz,zz,zz]
 rw[e4];omega
theorem jH(b:Int)(v:List Int)(k:Nat)(hl:v.length=k+2):
  val b v=(v.getD (k+1) 0*b+v.getD k 0)*b^k+val b (v.take k):=by
 have h0:val b (v.drop (k+2))=0:=by rw[List.drop_eq_nil_of_le (by omega)];rfl
 have p1:b^(k+1)=b^k*b:=ya ..;rw[B6 b v (k+2) (by omega),h0,AD,AD,p1,yg,yh];generalize b^k=P;generalize v.getD (k+1) 0=y;generalize v.getD k 0=z;have e2:P*b*y=y*b*P:=by rw[zu (P*b) y,zu P b,zq]
 have e3:P*z=z*P:=zu _ _;rw[e2,e3,zz];omega
theorem ZV{b:Int}(hb:2≤b){v:List Int}(hd:Au b v)(hn:nz v){k:Nat}(h1:b^k≤val b v)(h2:val b v<b^(k+1)):v.length=k+1:=by
 have hp:=AM (show 0<b by omega) k;have hne:v≠[]:=by rintro rfl;simp[val]at h1;omega
 have a1:=Bn (by omega) hd;have a2:=CW (by omega) hd hn hne;rcases Nat.lt_trichotomy v.length (k+1)with h|h|h
 ·have:=AI (show 1≤b by omega) (show v.length≤k by omega);omega
 ·exact h
 ·have:=AI (show 1≤b by omega) (show k+1≤v.length-1 by omega);omega
theorem Ij{b:Int}(hb:2≤b){r:List Int}(hd:Au b r){n:Nat}(hl:n≤r.length)(h:val b r<b^n):val b (r.drop n)=0:=by
 have h0:=Ay (show 0≤b by omega) (Ef hd n);have h1:=Ay (show 0≤b by omega) (AK hd n);rw[B6 b r n hl]at h;have hp:=AM (show 0<b by omega) n;rcases Int.lt_or_le 0 (val b (r.drop n))with g|g
 ·have:=zQ (show 1≤val b (r.drop n)by omega) (show 0≤b^n by omega);omega
 ·omega
theorem Qi{b:Int}(hb:2≤b){r:List Int}(hd:Au b r){n:Nat}(hl:n≤r.length)(h:val b (r.drop n)=0):val b r<b^n:=by
 have:=Bn (show 0<b by omega) (AK hd n);rw[List.length_take,Nat.min_eq_left hl]at this;rw[B6 b r n hl,h];omega
theorem Z2{b c d x y X:Int}(hc:0<c)(hb:b=c*d):(x+b*(y+b*X))/c=(x/c+(y % c)*d)+b*((y+b*X)/c):=by
 subst hb;have h1:(x+c*d*(y+c*d*X))/c=x/c+d*(y+c*d*X):=by
  rw[zq c d,Int.add_mul_ediv_left _ _ (by omega)]
 have h2:(y+c*d*X)/c=y/c+d*X:=by
  rw[zq c d,Int.add_mul_ediv_left _ _ (by omega)]
 have h3:=zZ y c;rw[h1,h2];have e1:d*(y+c*d*X)=d*(c*(y/c)+y % c+c*d*X):=by rw[h3]
 rw[e1,zK,zK,zK (c*d)];have e2:d*(c*(y/c))=c*d*(y/c):=by rw[←zq,zu d c]
 have e3:d*(y % c)=(y % c)*d:=zu _ _;have e4:d*(c*d*X)=c*d*(d*X):=by rw[←zq,zu d (c*d),zq]
 rw[e2,e3,e4];omega
theorem TG{b c d x k:Int}(hc:0<c)(hd:0<d)(hb:b=c*d)(hk:0≤k∧k<c)(hx:0≤x∧x<b):
  (x*c) % b=(x % d)*c∧(x % d)*c+k<b∧0≤(x % d)*c∧0≤x/d∧x/d<c∧(x % d)*c+b*(x/d)=x*c:=by
 subst hb;have h3:=zZ x d;have m0:=Int.emod_nonneg x (show d≠0 by omega);have m1:=Int.emod_lt_of_pos x hd;have q0:0≤x/d:=Int.ediv_nonneg hx.1 (by omega);have q1:x/d<c:=Int.ediv_lt_of_lt_mul hd (by have:=hx.2;omega);have p0:0≤(x % d)*c:=zS m0 (by omega);have p1:(x % d)*c≤(d-1)*c:=zp (by omega) (by omega);have p2:(d-1)*c=c*d-c:=by rw[Int.sub_mul,zP,zu]
 have e:(x % d)*c+c*d*(x/d)=x*c:=by
  conv=>rhs;rw[←h3]
  rw[zz,zq c d,zu c (d*(x/d))];omega
 refine⟨?_,by omega,p0,q0,q1,e⟩;rw[←e,Int.add_mul_emod_self_left];exact Int.emod_eq_of_lt p0 (by omega)
end Go.Sp
namespace Go.Sp
theorem Mb{B P u0 u1 u2 u' v1 v2 v' q r:Int}(hP:0<P)(hB:0<B)(hq:0≤q)(hv:0≤v')(hv2:0≤v2)(hu:u'<P)(hu2:u2<B)(he:q*v1+r=u0*B+u1)(h:r<v1):
  ((u0*B+u1)*B+u2)*P+u'<(q+1)*((v1*B+v2)*P+v'):=by
 have h1:u0*B+u1+1≤(q+1)*v1:=by rw[zz,zP];omega
 have h2:=zp h1 (zR hB);have h3:(u0*B+u1)*B+u2+1≤(q+1)*v1*B:=by
  rw[zz,zP]at h2;omega
 have h4:=zp h3 (zR hP);rw[zz,zP]at h4;have h5:0≤(q+1)*(v2*P):=zS (by omega) (zS hv2 (zR hP));have h6:0≤(q+1)*v':=zS (by omega) hv;have e:(q+1)*((v1*B+v2)*P+v')=(q+1)*v1*B*P+(q+1)*(v2*P)+(q+1)*v':=by
  rw[zz (v1*B),zK,zK];congr 2;rw[zq,zq,zq]
 rw[e];omega
end Go.Sp
end
section
namespace Go.Pe
open Sp
open Go.Det
theorem Uc{q x y c b:Int}(hq:zy q=true)(hx:zy x=true)(hy:zy y=true)(hc:zy c=true)(hb:0≤b∧b≤1):
  zy (H3 q x)=true∧zy (Hk (H3 q x) c 0)=true∧zc .u64 (P7 q x+OY (H3 q x) c 0)=(q*x+c)/18446744073709551616∧zy ((q*x+c)/18446744073709551616)=true∧
  zy (Sq y (Hk (H3 q x) c 0) b)=true∧(0≤Pg y (Hk (H3 q x) c 0) b∧Pg y (Hk (H3 q x) c 0) b≤1)∧
  c+b+(Sq y (Hk (H3 q x) c 0) b-y)=18446744073709551616*((q*x+c)/18446744073709551616+Pg y (Hk (H3 q x) c 0) b)-q*x:=by
 have hq:=yk hq;have hx:=yk hx;have hc:=yk hc;have h0:0≤q*x:=zS hq.1 hx.1;have h1:q*x≤18446744073709551615*18446744073709551615:=by
  have a:=zQ (show x≤18446744073709551615 by omega) hq.1;have b:=zp (show q≤18446744073709551615 by omega) (show(0:Int)≤18446744073709551615 by omega);omega
 have hl:zy (Hk (H3 q x) c 0)=true:=by unfold Hk;exact Cv (by omega) (by omega)
 obtain⟨s1,s2,s3⟩:=Sp.Gt hy hl hb;refine⟨?_,hl,?_,?_,s1,s2,?_⟩
 ·unfold H3;exact Cv (by omega) (by omega)
 ·unfold H3 P7 OY;rw[Ku];generalize q*x=P at*;omega
 ·generalize q*x=P at*;exact Cv (by omega) (by omega)
 ·generalize Pg y (Hk (H3 q x) c 0) b=h at*;generalize Sq y (Hk (H3 q x) c 0) b=l at*;unfold Hk H3 at s3;generalize q*x=P at*;omega
namespace T230
variable {Q:PV→Ob→Prop}
theorem gw{lo r:List Int}{j:Nat}(h:lo.length=j)(i:Nat):(lo++r).getD (zk i j) 0=r.getD i 0:=GA lo r i j h
theorem sw{lo r:List Int}{j:Nat}(h:lo.length=j)(i:Nat)(x:Int):(lo++r).set (zk i j) x=lo++r.set i x:=R3 lo r i j x h
theorem lw{lo r:List Int}{j i:Nat}(h:lo.length=j)(hi:i<r.length):decide (zk i j<(lo++r).length)=true:=by
 refine decide_eq_true ?_;show i+j<_;rw[List.length_append];omega
theorem Iq(r:List Int)(i n:Nat)(x:Int)(h:i<n):(r.set i x).drop n=r.drop n:=by
 rw[List.drop_set,if_pos h]
theorem Cd(v9:Int)(v10:List Int)(v11n:Nat)(v12:Int)(v13n:Nat)(o1 o0:List Int)(v0c:Nat)(v:List Int)(n j:Nat)(lo:List Int)(m:Nat)(q W:Int)(o1':List Int)
  (hn:v.length=n) (hn9:n≤9000) (hm:n+1≤m) (hlo:lo.length=j) (hjv:j<v13n) (hj1:j<o1'.length) (hv:Au Ak v) (hq:zy q=true)
  (h0:∀r:List Int,r.length=m→Au Ak r→zw Ak (r.drop (n+1))=0→zw Ak r=W-q*zw Ak v→Ends IK (L4 v9 v10 v11n v12 v13n (zc .i64 ((j:Int)-1)) (o1'.set j q) (lo++r)) Q)
  (h1:∀r:List Int,r.length=m→Au Ak r→zw Ak (r.drop (n+1))=0→zw Ak r=W-q*zw Ak v+(Ak:Int)^(n+1)→Ends IK (L8 v9 v10 v11n v12 v13n j o1 o0 j (n+1) v0c v n q 0 n 0 o1' (lo++r)) Q):
  ∀(k i:Nat) (r:List Int) (b c:Int),i+k=n→r.length=m→Au Ak r→zw Ak (r.drop (n+1))=0→zy c=true→(0≤b∧b≤1)→zw Ak r=W-q*zw Ak (v.take i)+(Ak:Int)^i*(c+b)→
   Ends IK (L7 v9 v10 v11n v12 v13n j o1 o0 j (n+1) v0c v n q b c n i o1' (lo++r)) Q
 |0,i,r,b,c,hi,hr,hd,hz,hc,hb,he=>by
  have hi:i=n:=by omega
  subst hi;have gy:=AS hd i;obtain⟨s1,s2,s3⟩:=Sp.Gt gy hc hb;have hlw:decide (zk i j<(lo++r).length)=true:=lw hlo (by omega);have t1:(decide ((0:Int)≤(i:Int))&&decide ((i:Int)<((i+1:Nat):Int)))=true:=by simp;omega
  have hv1:v.take i=v:=zY (by omega);have hset:∀x:Int,0≤x∧x<18446744073709551616→(r.set i x).length=m∧Au Ak (r.set i x)∧zw Ak ((r.set i x).drop (i+1))=0:=fun x hx=>
   ⟨by simp[hr],Gs hd i hx,by rw[Iq _ _ _ _ (by omega)];exact hz⟩
  obtain⟨e1,e2,e3⟩:=hset _ (yk s1);have ev:zw Ak (r.set i (Sq (r.getD i 0) c b))=W-q*zw Ak v+(Ak:Int)^(i+1)*Pg (r.getD i 0) c b:=by
   rw[G7 _ _ _ _ (by omega),he,hv1,JG,Int.add_assoc, ←zK];congr 2;omega
  refine Ends.At (FT ..) (Ends.ff (by simp) ?_);rw[zM,zM,gw hlo,sw hlo];refine zr t1 (zr hlw (zr (Ac (Ac (Ac gy hc) (decide_eq_true hb.1)) (decide_eq_true hb.2)) (zr t1 (zr hlw (Ends.ite (fun c1=>?_) (fun c1=>?_))))))
  ·have c1:Pg (r.getD i 0) c b=0:=by simpa using c1
   refine zr (by simp;omega) (zr (decide_eq_true hj1) (h0 _ e1 e2 e3 ?_));rw[ev,c1,yg,yh]
  ·have c1:Pg (r.getD i 0) c b≠0:=by simpa using c1
   refine h1 _ e1 e2 e3 ?_;rw[ev,show Pg (r.getD i 0) c b=1 by omega,Int.mul_one]
 |k+1,i,r,b,c,hi,hr,hd,hz,hc,hb,he=>by
  have gx:=AS hv i;have gy:=AS hd i;obtain⟨m1,m2,m3,m4,m5,m6,m7⟩:=Uc hq gx gy hc hb;have hlw:decide (zk i j<(lo++r).length)=true:=lw hlo (by omega);have t1:(decide ((0:Int)≤(i:Int))&&decide ((i:Int)<((n+1:Nat):Int)))=true:=by simp;omega
  have e2:zc .i64 ((i:Int)+1)=((i+1:Nat):Int):=by rw[wr _ (by omega) (by omega)];omega
  refine Ends.At (FT ..) (zr (by simp;omega) ?_);rw[zM,gw hlo,sw hlo,m3,e2];refine zr (by simp;omega) (zr (Ac hq gx) (zr (Ac (Ac (Ac m1 hc) rfl) rfl) (zr t1 (zr hlw (zr (Ac (Ac (Ac gy m2) (decide_eq_true hb.1)) (decide_eq_true hb.2)) (zr t1 (zr hlw ?_)))))));refine Cd v9 v10 v11n v12 v13n o1 o0 v0c v n j lo m q W o1' hn hn9 hm hlo hjv hj1 hv hq h0 h1 k (i+1) _ _ _ (by omega) (by simp[hr]) (Gs hd i (yk m5)) (by rw[Iq _ _ _ _ (by omega)];exact hz) m4 m6 ?_;rw[G7 _ _ _ _ (by omega),he,JG,AD,zK q,Int.mul_left_comm q];have e:(Ak:Int)^i*(c+b)+(Ak:Int)^i*(Sq (r.getD i 0) (Hk (H3 q (v.getD i 0)) c 0) b-r.getD i 0)=(Ak:Int)^i*(18446744073709551616*((q*v.getD i 0+c)/18446744073709551616+Pg (r.getD i 0) (Hk (H3 q (v.getD i 0)) c 0) b))-(Ak:Int)^i*(q*v.getD i 0):=by
   rw[←zK, ←ye,m7]
  omega
theorem EN(v9:Int)(v10:List Int)(v11n:Nat)(v12:Int)(v13n:Nat)(o1 o0:List Int)(v0c:Nat)(v:List Int)(n j:Nat)(lo:List Int)(m:Nat)(q W:Int)(o1':List Int)
  (hn:v.length=n) (hn9:n≤9000) (hm:n+1≤m) (hlo:lo.length=j) (hjv:j<v13n) (hj1:j<o1'.length) (hv:Au Ak v)
  (hW:0≤W+zw Ak v)
  (h0:∀r:List Int,r.length=m→Au Ak r→zw Ak (r.drop (n+1))=0→zw Ak r=W+zw Ak v→Ends IK (L4 v9 v10 v11n v12 v13n (zc .i64 ((j:Int)-1)) (o1'.set j (zc .u64 (q-1))) (lo++r)) Q):
  ∀(k i:Nat) (r:List Int) (c:Int),i+k=n→r.length=m→Au Ak r→zw Ak (r.drop (n+1))=0→(0≤c∧c≤1)→zw Ak r=W+(Ak:Int)^(n+1)+zw Ak (v.take i)-(Ak:Int)^i*c→
   Ends IK (L8 v9 v10 v11n v12 v13n j o1 o0 j (n+1) v0c v n q c n i o1' (lo++r)) Q
 |0,i,r,c,hi,hr,hd,hz,hc,he=>by
  have hi:i=n:=by omega
  subst hi;have gy:=yk (AS hd i);have hlw:decide (zk i j<(lo++r).length)=true:=lw hlo (by omega);have t1:(decide ((0:Int)≤(i:Int))&&decide ((i:Int)<((i+1:Nat):Int)))=true:=by simp;omega
  have hv1:v.take i=v:=zY (by omega);have gm:0≤(r.getD i 0+c) % 18446744073709551616∧(r.getD i 0+c) % 18446744073709551616<18446744073709551616:=by omega
  have e1:(r.set i ((r.getD i 0+c) % 18446744073709551616)).length=m:=by simp[hr]
  have e2:Au Ak (r.set i ((r.getD i 0+c) % 18446744073709551616)):=Gs hd i gm;have e3:zw Ak ((r.set i ((r.getD i 0+c) % 18446744073709551616)).drop (i+1))=0:=by rw[Iq _ _ _ _ (by omega)];exact hz
  have eb:=Qi (b:=Ak) (by decide) e2 (n:=i+1) (by omega) e3;refine Ends.At (I5 ..) (Ends.ff (by simp) ?_);rw[zM,zM,gw hlo,sw hlo,Ku (r.getD i 0+c)];refine zr t1 (zr hlw (zr t1 (zr hlw (zr (by simp;omega) (zr (decide_eq_true hj1) (h0 _ e1 e2 e3 ?_))))));have hp:=AM (b:=Ak) (by decide) i;rw[G7 _ _ _ _ (by omega),he,hv1]at eb ⊢;rcases show(r.getD i 0+c) % 18446744073709551616=r.getD i 0+c∨(r.getD i 0+c) % 18446744073709551616=r.getD i 0+c-18446744073709551616 by omega with g|g
  ·exfalso;rw[g,show r.getD i 0+c-r.getD i 0=c by omega]at eb;omega
  ·have ep:(Ak:Int)^(i+1)=(Ak:Int)^i*18446744073709551616:=ya ..;rw[g,show r.getD i 0+c-18446744073709551616-r.getD i 0=c-18446744073709551616 by omega,ye,ep];omega
 |k+1,i,r,c,hi,hr,hd,hz,hc,he=>by
  have gx:=AS hv i;have gy:=AS hd i;obtain⟨m1,m2,m3⟩:=JO gy gx hc;have hlw:decide (zk i j<(lo++r).length)=true:=lw hlo (by omega);have t1:(decide ((0:Int)≤(i:Int))&&decide ((i:Int)<((n+1:Nat):Int)))=true:=by simp;omega
  have e2:zc .i64 ((i:Int)+1)=((i+1:Nat):Int):=by rw[wr _ (by omega) (by omega)];omega
  refine Ends.At (I5 ..) (zr (by simp;omega) ?_);rw[zM,gw hlo,sw hlo,e2];refine zr t1 (zr hlw (zr (by simp;omega) (zr (Ac (Ac (Ac gy gx) (decide_eq_true hc.1)) (decide_eq_true hc.2)) (zr t1 (zr hlw ?_)))));refine EN v9 v10 v11n v12 v13n o1 o0 v0c v n j lo m q W o1' hn hn9 hm hlo hjv hj1 hv hW h0 k (i+1) _ _ (by omega) (by simp[hr]) (Gs hd i (yk m1)) (by rw[Iq _ _ _ _ (by omega)];exact hz) m2 ?_;rw[G7 _ _ _ _ (by omega),he,JG,AD];have e:(Ak:Int)^i*(Hk (r.getD i 0) (v.getD i 0) c-r.getD i 0)-(Ak:Int)^i*c=(Ak:Int)^i*v.getD i 0-(Ak:Int)^i*(18446744073709551616*OY (r.getD i 0) (v.getD i 0) c):=by
   rw[←ye, ←ye];congr 1;omega
  omega
theorem lQ(v9:Int)(v10:List Int)(v11n:Nat)(v12:Int)(v13n:Nat)(o1 o0:List Int)(v0c:Nat)(v:List Int)(n j:Nat)(lo:List Int)(m:Nat)(r0 o1':List Int)
  (hn:v.length=n) (hn9:n≤9000) (hm:n+1≤m) (hlo:lo.length=j) (hjv:j<v13n) (hj1:j<o1'.length) (hv:Au Ak v)
  (hr:r0.length=m) (hd:Au Ak r0) (hz:zw Ak (r0.drop (n+1))=0)
  (hfin:∀(q:Int) (r:List Int),r.length=m→Au Ak r→(0≤q∧q<18446744073709551616)→zw Ak r<zw Ak v→zw Ak r=zw Ak r0-q*zw Ak v→Ends IK (L4 v9 v10 v11n v12 v13n (zc .i64 ((j:Int)-1)) (o1'.set j q) (lo++r)) Q)
  (q:Int) (hq:zy q=true) (h1:zw Ak r0<(q+1)*zw Ak v) (h2:q*zw Ak v<zw Ak r0+zw Ak v):
  Ends IK (L7 v9 v10 v11n v12 v13n j o1 o0 j (n+1) v0c v n q 0 0 n 0 o1' (lo++r0)) Q:=by
 have gq:=yk hq;have hW0:=Ay (b:=Ak) (by decide) hd;have hV0:=Ay (b:=Ak) (by decide) hv;rw[zz,zP]at h1;refine Cd v9 v10 v11n v12 v13n o1 o0 v0c v n j lo m q (zw Ak r0) o1' hn hn9 hm hlo hjv hj1 hv hq (fun r a b c d=>hfin q r a b gq (by omega) d) (fun r a b c d=>?_) n 0 r0 0 0 (by omega) hr hd hz (by decide) (by decide) (by simp[zw]);have hb:=Qi (b:=Ak) (by decide) b (n:=n+1) (by omega) c;have hq1:1≤q:=by
  rcases Int.lt_or_le 0 q with g|g
  ·exact g
  ·have:q=0:=by omega
   subst this;rw[Int.zero_mul]at d;omega
 have ew:zc .u64 (q-1)=q-1:=wu _ (by omega) (by omega);refine EN v9 v10 v11n v12 v13n o1 o0 v0c v n j lo m q (zw Ak r0-q*zw Ak v) o1' hn hn9 hm hlo hjv hj1 hv (by omega) (fun r' a' b' c' d'=>?_) n 0 r 0 (by omega) a b c (by decide) (by rw[d];simp[zw]);rw[ew];refine hfin (q-1) r' a' b' (by omega) (by omega) ?_;rw[d',Int.sub_mul,zP];omega
end T230
end Go.Pe
end
