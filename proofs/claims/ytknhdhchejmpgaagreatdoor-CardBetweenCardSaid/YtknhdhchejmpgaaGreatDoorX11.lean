import Derived.Test.YtknhdhchejmpgaaGreatDoorX10
import Derived.Lib.ItoaMem
/- A part of a proof (no law is stated here). Made by program out of texts by AI agents. -/
noncomputable section
open Go.IntKind renaming wrap -> zc, u64 -> ze, u8 -> yj, i64 -> yp
open Go.Pe.Sh renaming int -> zg, nlist -> zh, list -> zj, bool -> zl, str -> zm, pair -> zo, T -> y8
open Nat renaming add -> zk, sub -> z8, add_sub_cancel -> yi
open UInt8 renaming toNat -> zn, ofNat -> yv
open Int renaming mul_le_mul_of_nonneg_right -> zp, mul_assoc -> zq, mul_comm -> zu, add_mul -> zz, mul_add -> z7, toNat_natCast -> ya, tmod -> yc, one_mul -> yd, mul_le_mul_of_nonneg_left -> ye, le_of_lt -> yf, mul_nonneg -> yg, mul_ediv_add_emod -> yo, tdiv -> yq, pow_succ -> yt, mul_sub -> yx, mul_zero -> yz, add_zero -> y7
open Go.Pe.Ends renaming tt -> zr
open Go.Pe.PV renaming agg -> zt
open Go.Sp renaming val -> zw, u64 -> zy, first -> yw, vI -> y9, A0 -> qc
open List renaming getD_eq_getElem?_getD -> zx, getElem?_eq_getElem -> yh, replicate -> yk, append_assoc -> ym, take_of_length_le -> yn, map -> yr, drop_eq_getElem_cons -> yu
open Option renaming getD -> yb
open Min renaming min -> yy
namespace Go.Sp
def DQ(a:List UInt8):Bool:=decide (a.length<=20)&&decide ((Ay (AY a)).length<=9)&&decide ((AM (AY a)).length<=9)
def IF(a:List UInt8):Int:=if preB a=true then -AB 0 (Ay (AY a))else AB 0 (Ay (AY a))
def SW(a:List UInt8):Int:=if Bn (AY a)=true then AB 0 (AM (AY a))else 1
def FA(a:List UInt8):Int:=if a=[48]then 0 else if a.getD 0 0=45 then -1 else 1
def KL(a:List UInt8):List UInt8:=if a=[48]then a else if a.getD 0 0=45 then a.drop 1 else 45::a
def HF:Nat->Nat->Nat->List UInt8->List UInt8
 |0,_,_,acc=>acc
 |f+1,n,l,acc=>if n=0/\l<=acc.length then acc else HF f (n/10) l (yv (48+n % 10)::acc)
def HU(n l:Int):List UInt8:=HF 64 n.toNat l.toNat []
def vW(a b:Int):Bool:=decide (0<=a)&&decide (a<9223372036854775808)&&decide (0<=b)&&decide (b<9223372036854775808)
end Go.Sp
namespace Go.Pe
open Go.Det
def qF:Ap:=⟨[i64,i64],fun i=>Sp.vW i.1 i.2,[i64],fun i=>Sp.gI i.1 i.2,false⟩
def Pf:Ap:=⟨[.str],fun s=>decide (s.length<=1000000),[i64],fun s=>Sp.FA s,false⟩
def bV:Ap:=⟨[.str],fun s=>decide (s.length<=1000000),[.str],fun s=>Sp.KL s,false⟩
def N6:Ap:=⟨[i64,i64],fun i=>decide (0<=(i.1:Int))&&decide ((i.1:Int)<9223372036854775808)&&decide (0<=(i.2:Int))&&decide ((i.2:Int)<=20),[.str],fun i=>Sp.HU i.1 i.2,false⟩
def Na:A1:=Z3 [(95,[5,7,11,13])] [] [(95,[(5,[5,6]),(7,[5,6]),(11,[5,6,7,8,9]),(13,[6,8,9])])] [(165,S0),(89,LY)]
def XO2:A1:=X7 [(41,Pf)]
end Go.Pe
namespace Go.Sp
open Go.Lib
theorem FF(a d:Nat)(ha:0<a)(hd:d<10):decDigits (10*a+d)=decDigits a++[yv (48+d)]:=by
 rw[decDigits,dif_neg (by omega),show(10*a+d)/10=a from by omega,show(10*a+d) % 10=d from by omega]
theorem bK(a d:Nat)(ha:0<a)(hd:d<10):nDigits (10*a+d)=nDigits a+1:=by
 rw[nDigits_big (by omega),show(10*a+d)/10=a from by omega]
def FX(k b:Nat):List UInt8:=yk (k-nDigits b) 48++decDigits b
theorem QJ(k b d:Nat)(hk:1<=k)(hd:d<10):FX (k+1) (10*b+d)=FX k b++[yv (48+d)]:=by
 unfold FX;rcases Nat.eq_zero_or_pos b with rfl|hb
 ·rw[Nat.mul_zero,Nat.zero_add,nDigits_small hd,decDigits_one hd,nDigits_small (by omega),decDigits_one (by omega)];obtain⟨j,rfl⟩:∃j,k=j+1:=⟨k-1,by omega⟩;have e:(48:UInt8)=yv (48+0):=rfl;rw[yi,yi, <-e,List.replicate_succ',ym]
 ·rw[bK b d hb hd,FF b d hb hd, <-ym,Nat.add_sub_add_right]
theorem SN:∀(k a b:Nat),1<=k->0<a->b<10^k->decDigits (a*10^k+b)=decDigits a++FX k b
 |0,_,_,h,_,_=>by omega
 |1,a,b,_,ha,hb=>by
  rw[Nat.pow_one]at*;rw[Nat.mul_comm,FF a b ha hb];unfold FX;rw[nDigits_small hb,decDigits_one hb];rfl
 |k+2,a,b,_,ha,hb=>by
  have h1:b=10*(b/10)+b % 10:=by omega
  have h2:b/10<10^(k+1):=by
   rw[Nat.pow_succ 10 (k+1)]at hb;omega
  have h3:a*10^(k+2)+b=10*(a*10^(k+1)+b/10)+b % 10:=by
   rw[Nat.pow_succ 10 (k+1), <-Nat.mul_assoc];omega
  have hp:0<a*10^(k+1):=Nat.mul_pos ha (Nat.pow_pos (by omega));have ih:=SN (k+1) a (b/10) (by omega) ha h2;have hs:=QJ (k+1) (b/10) (b % 10) (by omega) (by omega);rw[h3,FF _ _ (by omega) (by omega),ih,ym, <-hs, <-h1]
def Cd:Nat->Nat->List (List UInt8)
 |0,_=>[]
 |f+1,v=>if v<10^18 then[decDigits v]else FX 18 (v % 10^18)::Cd f (v/10^18)
theorem II:∀(f v:Nat),v<f->(Cd f v).reverse.flatten=decDigits v
 |0,_,h=>by omega
 |f+1,v,h=>by
  unfold Cd;split
  ·simp
  ·next c=>
   have hp:1<=v/10^18:=by omega
   have h1:v/10^18<f:=by omega
   have h2:=II f (v/10^18) h1;rw[List.reverse_cons,List.flatten_append,h2];have h3:=SN 18 (v/10^18) (v % 10^18) (by omega) (by omega) (Nat.mod_lt _ (by decide));rw[show v/10^18*10^18+v % 10^18=v from by omega]at h3;rw[h3];simp
end Go.Sp
namespace Go.Pe
open Sp
open Go.Det
section
open List Int Prod
namespace T87
def T(s:List UInt8):Tr:=tree jF false 9 87 (Af ([zm]) s)
theorem Am(s:List UInt8):T s=let a':=zh (zg ze);let b':=Dd (Ay s);let c':=C5 (Ay s);.ite (rP s [(47:UInt8)]) (.ite (!Bn s) (.ite (D7 (Ay s)) (.ite true (.leaf (zt [.dat i64 b',.dat a' c',.dat i64 (1:Int),.dat a' (Cv 1)]) ([(zk (zk 0 1) 1,.box [.dat i64 b',.dat a' c',.dat i64 (1:Int),.dat a' (Cv 1)]),(zk 0 1,.box [.dat i64 b',.dat a' c']),(0,.box [.dat i64 b',.dat a' c',.dat i64 (1:Int),.dat a' (Cv 1)])])) .fail) .fail) (.ite (D7 (Ay s)) (.ite (D7 (Sp.AM s)) (.leaf (zt [.dat i64 b',.dat a' c',.dat i64 (Dd (Sp.AM s)),.dat a' (C5 (Sp.AM s))]) ([(0,.box [.dat i64 b',.dat a' c',.dat i64 (Dd (Sp.AM s)),.dat a' (C5 (Sp.AM s))])])) .fail) .fail)) .fail:=by kernel_rfl
end T87
namespace T175
def T(a b:Int×List Int):Tr:=tree jF false 9 175 (Af ([zo i64 (zh (zg ze)),zo i64 (zh (zg ze))]) (a,b))
def L1(o2 o1:Int)(o1_1:List Int)(o0:Int)(o0_1:List Int):Tr:=re ((T (0,[]) (0,[])).L.L.L.L) (AG 21 [(2,.ptr 0 0),(3,.ptr 1 0),(4,.ptr 2 0)] [(2,.box [.dat i64 o2,.nil]),(1,.box [.dat i64 o1,.dat (zh (zg ze)) o1_1]),(0,.box [.dat i64 o0,.dat (zh (zg ze)) o0_1])] 3)
theorem Am(a b:Int×List Int):T a b=.ite (Dh (fst b,snd b)) (.ite (decide (HO (fst b,snd b)<0)) (.ite (Dh (fst a,snd a)) (.ite (Dh (fst b,snd b)) (L1 0 (D3 (fst b,snd b)) (Ed (fst b,snd b)) (D3 (fst a,snd a)) (Ed (fst a,snd a))) .fail) .fail) (L1 0 (fst b) (snd b) (fst a) (snd a))) .fail:=by kernel_rfl
theorem Ar(o2 o1:Int)(o1_1:List Int)(o0:Int)(o0_1:List Int):stepT jF (L1 o2 o1 o1_1 o0 o0_1)=let a':=zh (zg ze);let b':=Yw (o0,o0_1) (o1,o1_1);let c':=Xd (o0,o0_1) (o1,o1_1);.ite (A6 (o0,o0_1)&&A6 (o1,o1_1)&&decide (0<y9 (o1,o1_1))) (.leaf (zt [.dat i64 b',.dat a' c']) ([(zk 3 1,.box [.dat i64 (Tq (o0,o0_1) (o1,o1_1)),.dat a' (UB (o0,o0_1) (o1,o1_1))]),(3,.box [.dat i64 b',.dat a' c']),(2,.box [.dat i64 b',.dat a' c']),(1,.box [.dat i64 o1,.dat a' o1_1]),(0,.box [.dat i64 o0,.dat a' o0_1])])) .fail:=by kernel_rfl
end T175
namespace T104
def T(n d:Int×List Int):Tr:=tree tY false 9 104 (Af ([zo i64 (zh (zg ze)),zo i64 (zh (zg ze))]) (n,d))
def L1(o2 o2_1 o1:Int)(o1_1:List Int)(o0:Int)(o0_1:List Int):Tr:=re ((T (0,[]) (0,[])).L.L.L.L) (AG 34 [(2,.ptr 0 0),(3,.ptr 1 0),(4,.ptr 2 0)] [(2,.box [.dat i64 o2,.nil,.dat i64 o2_1,.nil]),(1,.box [.dat i64 o1,.dat (zh (zg ze)) o1_1]),(0,.box [.dat i64 o0,.dat (zh (zg ze)) o0_1])] 3)
theorem Am(n d:Int×List Int):T n d=.ite (Dh (fst d,snd d)) (.ite (decide (HO (fst d,snd d)<0)) (.ite (Dh (fst n,snd n)) (.ite (Dh (fst d,snd d)) (L1 0 0 (D3 (fst d,snd d)) (Ed (fst d,snd d)) (D3 (fst n,snd n)) (Ed (fst n,snd n))) .fail) .fail) (L1 0 0 (fst d) (snd d) (fst n) (snd n))) .fail:=by kernel_rfl
def L2(o3:Int)(o3_1:List Int)(o2 o2_1 o1:Int)(o1_1:List Int)(o0:Int)(o0_1:List Int):Tr:=re ((stepT tY (L1 0 0 0 [] 0 [])).L.R.L) (AG 34 [(2,.ptr 0 0),(3,.ptr 1 0),(4,.ptr 2 0),(5,.ptr 3 0)] [(3,.box [.dat i64 o3,.dat (zh (zg ze)) o3_1]),(2,.box [.dat i64 o2,.nil,.dat i64 o2_1,.nil]),(1,.box [.dat i64 o1,.dat (zh (zg ze)) o1_1]),(0,.box [.dat i64 o0,.dat (zh (zg ze)) o0_1])] 4)
theorem Ar(o2 o2_1 o1:Int)(o1_1:List Int)(o0:Int)(o0_1:List Int):stepT tY (L1 o2 o2_1 o1 o1_1 o0 o0_1)=let a':=zh (zg ze);let b':Tr:=.ite (A6 (o0,o0_1)&&A6 (o1,o1_1)) (L2 (MO (o0,o0_1) (o1,o1_1)) (Mt (o0,o0_1) (o1,o1_1)) o2 o2_1 o1 o1_1 o0 o0_1) .fail;.ite (!decide (0<length o1_1)) (.ite (o1==1) (.leaf (zt [.dat i64 o0,.dat a' o0_1,.dat i64 o1,.dat a' o1_1]) ([(2,.box [.dat i64 o0,.dat a' o0_1,.dat i64 o1,.dat a' o1_1]),(1,.box [.dat i64 o1,.dat a' o1_1]),(0,.box [.dat i64 o0,.dat a' o0_1])])) b') b':=by kernel_rfl
theorem AZ(o3:Int)(o3_1:List Int)(o2 o2_1 o1:Int)(o1_1:List Int)(o0:Int)(o0_1:List Int):stepT tY (L2 o3 o3_1 o2 o2_1 o1 o1_1 o0 o0_1)=let a':=zh (zg ze);let b':=yR (o0,o0_1) (o3,o3_1);let c':=zD (o0,o0_1) (o3,o3_1);let d':=yR (o1,o1_1) (o3,o3_1);let e':=zD (o1,o1_1) (o3,o3_1);.ite (Lg (o0,o0_1) (o3,o3_1)) (.ite (Lg (o1,o1_1) (o3,o3_1)) (.leaf (zt [.dat i64 b',.dat a' c',.dat i64 d',.dat a' e']) ([(3,.box [.dat i64 o3,.dat a' o3_1]),(2,.box [.dat i64 b',.dat a' c',.dat i64 d',.dat a' e']),(1,.box [.dat i64 o1,.dat a' o1_1]),(0,.box [.dat i64 o0,.dat a' o0_1])])) .fail) .fail:=by kernel_rfl
end T104
namespace T156
def T(a:(Int×List Int)×Int×List Int):Tr:=tree jF false 9 156 (Af ([zo (zo i64 (zh (zg ze))) (zo i64 (zh (zg ze)))]) a)
theorem Am(a:(Int×List Int)×Int×List Int):T a=let b':=zh (zg ze);let a':=[(0,.box [.dat i64 (fst (fst a)),.dat b' (snd (fst a)),.dat i64 (fst (snd a)),.dat b' (snd (snd a))])];.ite (!decide (0<length (snd (snd a)))) (.leaf (.dat zl (fst (snd a)==1)) a') (.leaf (.bl false) a'):=by kernel_rfl
end T156
namespace T157
def T(n:Int×List Int):Tr:=tree jF false 9 157 (Af ([zo i64 (zh (zg ze))]) n)
theorem Am(n:Int×List Int):T n=let a':=zh (zg ze);.ite true (.leaf (zt [.dat i64 (fst n),.dat a' (snd n),.dat i64 (1:Int),.dat a' (Cv 1)]) ([(zk 0 1,.box [.dat i64 (fst n),.dat a' (snd n),.dat i64 (1:Int),.dat a' (Cv 1)]),(0,.box [.dat i64 (fst n),.dat a' (snd n)])])) .fail:=by kernel_rfl
end T157
namespace T160
def T(a:(Int×List Int)×Int×List Int):Tr:=tree jF false 9 160 (Af ([zo (zo i64 (zh (zg ze))) (zo i64 (zh (zg ze)))]) a)
theorem Am(a:(Int×List Int)×Int×List Int):T a=let a':=zh (zg ze);let b':=(fst (fst a),snd (fst a));.ite (Dh b') (.leaf (zt [.dat i64 (D3 b'),.dat a' (Ed b'),.dat i64 (fst (snd a)),.dat a' (snd (snd a))]) ([(zk 0 1,.box [.dat i64 (D3 b'),.dat a' (Ed b'),.dat i64 (fst (snd a)),.dat a' (snd (snd a))]),(0,.box [.dat i64 (fst (fst a)),.dat a' (snd (fst a)),.dat i64 (fst (snd a)),.dat a' (snd (snd a))])])) .fail:=by kernel_rfl
end T160
namespace T80
def T(a:(Int×List Int)×Int×List Int)(b:(Int×List Int)×Int×List Int):Tr:=tree tN false 9 80 (Af ([zo (zo i64 (zh (zg ze))) (zo i64 (zh (zg ze))),zo (zo i64 (zh (zg ze))) (zo i64 (zh (zg ze)))]) (a,b))
def L1(o2 o2_1 o1:Int)(o1_1:List Int)(o1_2:Int)(o1_3:List Int)(o0:Int)(o0_1:List Int)(o0_2:Int)(o0_3:List Int):Tr:=re ((T ((0,[]),(0,[])) ((0,[]),(0,[]))).L.L.L.R) (AG 34 [(2,.ptr 0 0),(3,.ptr 1 0),(4,.ptr 2 0)] [(2,.box [.dat i64 o2,.nil,.dat i64 o2_1,.nil]),(1,.box [.dat i64 o1,.dat (zh (zg ze)) o1_1,.dat i64 o1_2,.dat (zh (zg ze)) o1_3]),(0,.box [.dat i64 o0,.dat (zh (zg ze)) o0_1,.dat i64 o0_2,.dat (zh (zg ze)) o0_3])] 3)
theorem Am(a:(Int×List Int)×Int×List Int)(b:(Int×List Int)×Int×List Int):T a b=let a':=zh (zg ze);let b':=L1 0 0 (fst (fst b)) (snd (fst b)) (fst (snd b)) (snd (snd b)) (fst (fst a)) (snd (fst a)) (fst (snd a)) (snd (snd a));let c':=(fst (fst a),snd (fst a));let d':=(fst (fst b),snd (fst b));.ite true (.ite (CJ (fst (snd a),snd (snd a))) (.ite true (.ite (CJ (fst (snd b),snd (snd b))) (.ite (A6 c'&&A6 d') (.ite true (.leaf (zt [.dat i64 (H2 c' d'),.dat a' (Iu c' d'),.dat i64 (1:Int),.dat a' (Cv 1)]) ([(zk (zk 0 1) 1,.box [.dat i64 (H2 c' d'),.dat a' (Iu c' d'),.dat i64 (1:Int),.dat a' (Cv 1)]),(zk 0 1,.box [.dat i64 (fst (fst b)),.dat a' (snd (fst b)),.dat i64 (fst (snd b)),.dat a' (snd (snd b))]),(0,.box [.dat i64 (fst (fst a)),.dat a' (snd (fst a)),.dat i64 (fst (snd a)),.dat a' (snd (snd a))])])) .fail) .fail) b') .fail) b') .fail:=by kernel_rfl
theorem Ar(o2 o2_1 o1:Int)(o1_1:List Int)(o1_2:Int)(o1_3:List Int)(o0:Int)(o0_1:List Int)(o0_2:Int)(o0_3:List Int):stepT tN (L1 o2 o2_1 o1 o1_1 o1_2 o1_3 o0 o0_1 o0_2 o0_3)=let b':=(EW (o0_2,o0_3) (o1_2,o1_3),EK (o0_2,o0_3) (o1_2,o1_3));let c':=zh (zg ze);let d':=(EW (o0,o0_1) (o1_2,o1_3),EK (o0,o0_1) (o1_2,o1_3));let e':=(EW (o1,o1_1) (o0_2,o0_3),EK (o1,o1_1) (o0_2,o0_3));let a':=(H2 d' e',Iu d' e');.ite (A6 (o0,o0_1)&&A6 (o1_2,o1_3)) (.ite (A6 (o1,o1_1)&&A6 (o0_2,o0_3)) (.ite (A6 d'&&A6 e') (.ite (A6 (o0_2,o0_3)&&A6 (o1_2,o1_3)) (.ite (Lg a' b') (.leaf (zt [.dat i64 (Wg a' b'),.dat c' (Vj a' b'),.dat i64 (Vz a' b'),.dat c' (Ww a' b')]) ([(2,.box [.dat i64 (Wg a' b'),.dat c' (Vj a' b'),.dat i64 (Vz a' b'),.dat c' (Ww a' b')]),(1,.box [.dat i64 o1,.dat c' o1_1,.dat i64 o1_2,.dat c' o1_3]),(0,.box [.dat i64 o0,.dat c' o0_1,.dat i64 o0_2,.dat c' o0_3])])) .fail) .fail) .fail) .fail) .fail:=by kernel_rfl
end T80
namespace T82
def T(a:(Int×List Int)×Int×List Int)(b:(Int×List Int)×Int×List Int):Tr:=tree tN false 9 82 (Af ([zo (zo i64 (zh (zg ze))) (zo i64 (zh (zg ze))),zo (zo i64 (zh (zg ze))) (zo i64 (zh (zg ze)))]) (a,b))
theorem Am(a:(Int×List Int)×Int×List Int)(b:(Int×List Int)×Int×List Int):T a b=let c':=zh (zg ze);let d':=(fst (fst a),snd (fst a));let e':=(fst (fst b),snd (fst b));let f':=(fst (snd a),snd (snd a));let g':=(fst (snd b),snd (snd b));let a':=(EW d' e',EK d' e');let b':=(EW f' g',EK f' g');.ite (A6 d'&&A6 e') (.ite (A6 f'&&A6 g') (.ite (Lg a' b') (.leaf (zt [.dat i64 (Wg a' b'),.dat c' (Vj a' b'),.dat i64 (Vz a' b'),.dat c' (Ww a' b')]) ([(zk (zk 0 1) 1,.box [.dat i64 (Wg a' b'),.dat c' (Vj a' b'),.dat i64 (Vz a' b'),.dat c' (Ww a' b')]),(zk 0 1,.box [.dat i64 (fst (fst b)),.dat c' (snd (fst b)),.dat i64 (fst (snd b)),.dat c' (snd (snd b))]),(0,.box [.dat i64 (fst (fst a)),.dat c' (snd (fst a)),.dat i64 (fst (snd a)),.dat c' (snd (snd a))])])) .fail) .fail) .fail:=by kernel_rfl
end T82
namespace T161
def T(a:(Int×List Int)×Int×List Int):Tr:=tree tN false 9 161 (Af ([zo (zo i64 (zh (zg ze))) (zo i64 (zh (zg ze)))]) a)
theorem Am(a:(Int×List Int)×Int×List Int):T a=let a':=(fst (snd a),snd (snd a));let b':=(fst (fst a),snd (fst a));let c':=zh (zg ze);.ite (Lg a' b') (.leaf (zt [.dat i64 (Wg a' b'),.dat c' (Vj a' b'),.dat i64 (Vz a' b'),.dat c' (Ww a' b')]) ([(zk 0 1,.box [.dat i64 (Wg a' b'),.dat c' (Vj a' b'),.dat i64 (Vz a' b'),.dat c' (Ww a' b')]),(0,.box [.dat i64 (fst (fst a)),.dat c' (snd (fst a)),.dat i64 (fst (snd a)),.dat c' (snd (snd a))])])) .fail:=by kernel_rfl
end T161
namespace T81
def T(a:(Int×List Int)×Int×List Int)(b:(Int×List Int)×Int×List Int):Tr:=tree zG false 9 81 (Af ([zo (zo i64 (zh (zg ze))) (zo i64 (zh (zg ze))),zo (zo i64 (zh (zg ze))) (zo i64 (zh (zg ze)))]) (a,b))
theorem Am(a:(Int×List Int)×Int×List Int)(b:(Int×List Int)×Int×List Int):T a b=let b':=((fst (fst a),snd (fst a)),fst (snd a),snd (snd a));let c':=zh (zg ze);let d':=(fst (fst b),snd (fst b));let a':=((D3 d',Ed d'),fst (snd b),snd (snd b));.ite (Dh d') (.ite (Sp.CF b'&&Sp.CF a') (.leaf (zt [.dat i64 (aV b' a'),.dat c' (eU b' a'),.dat i64 (bE b' a'),.dat c' (dL b' a')]) ([(zk (zk 0 1) 1,.box [.dat i64 (aV b' a'),.dat c' (eU b' a'),.dat i64 (bE b' a'),.dat c' (dL b' a')]),(zk 0 1,.box [.dat i64 (fst (fst b)),.dat c' (snd (fst b)),.dat i64 (fst (snd b)),.dat c' (snd (snd b))]),(0,.box [.dat i64 (fst (fst a)),.dat c' (snd (fst a)),.dat i64 (fst (snd a)),.dat c' (snd (snd a))])])) .fail) .fail:=by kernel_rfl
end T81
namespace T86
def T(a:(Int×List Int)×Int×List Int)(b:(Int×List Int)×Int×List Int):Tr:=tree zG false 9 86 (Af ([zo (zo i64 (zh (zg ze))) (zo i64 (zh (zg ze))),zo (zo i64 (zh (zg ze))) (zo i64 (zh (zg ze)))]) (a,b))
theorem Am(a:(Int×List Int)×Int×List Int)(b:(Int×List Int)×Int×List Int):T a b=let b':=((fst (fst a),snd (fst a)),fst (snd a),snd (snd a));let c':=zh (zg ze);let e':=(fst (fst b),snd (fst b));let d':=(e',fst (snd b),snd (snd b));let a':=Un d';.ite (Sp.CF d'&&decide (y9 e'≠0)) (.ite (Sp.CF b'&&Sp.CF a') (.leaf (zt [.dat i64 (iO b' a'),.dat c' (fH b' a'),.dat i64 (dD b' a'),.dat c' (aL b' a')]) ([(zk (zk 0 1) 1,.box [.dat i64 (iO b' a'),.dat c' (fH b' a'),.dat i64 (dD b' a'),.dat c' (aL b' a')]),(zk 0 1,.box [.dat i64 (fst (fst b)),.dat c' (snd (fst b)),.dat i64 (fst (snd b)),.dat c' (snd (snd b))]),(0,.box [.dat i64 (fst (fst a)),.dat c' (snd (fst a)),.dat i64 (fst (snd a)),.dat c' (snd (snd a))])])) .fail) .fail:=by kernel_rfl
end T86
namespace T88
def T(a:(Int×List Int)×Int×List Int)(b:(Int×List Int)×Int×List Int):Tr:=tree jF false 9 88 (Af ([zo (zo i64 (zh (zg ze))) (zo i64 (zh (zg ze))),zo (zo i64 (zh (zg ze))) (zo i64 (zh (zg ze)))]) (a,b))
theorem Am(a:(Int×List Int)×Int×List Int)(b:(Int×List Int)×Int×List Int):T a b=let c':=zh (zg ze);let d':=(fst (fst a),snd (fst a));let e':=(fst (snd b),snd (snd b));let f':=(fst (fst b),snd (fst b));let g':=(fst (snd a),snd (snd a));let a':=(EW d' e',EK d' e');let b':=(EW f' g',EK f' g');.ite (A6 d'&&A6 e') (.ite (A6 f'&&A6 g') (.ite (A6 a'&&A6 b') (.leaf (.dat i64 (YJ a' b')) ([(zk 0 1,.box [.dat i64 (fst (fst b)),.dat c' (snd (fst b)),.dat i64 (fst (snd b)),.dat c' (snd (snd b))]),(0,.box [.dat i64 (fst (fst a)),.dat c' (snd (fst a)),.dat i64 (fst (snd a)),.dat c' (snd (snd a))])])) .fail) .fail) .fail:=by kernel_rfl
end T88
namespace T112
def T(a:(Int×List Int)×Int×List Int):Tr:=tree jF false 9 112 (Af ([zo (zo i64 (zh (zg ze))) (zo i64 (zh (zg ze)))]) a)
theorem Am(a:(Int×List Int)×Int×List Int):T a=let a':=(fst (snd a),snd (snd a));let b':=(fst (fst a),snd (fst a));let c':=zh (zg ze);let d':=Yw b' a';let e':=Xd b' a';.ite (A6 b'&&A6 a'&&decide (0<y9 a')) (.leaf (zt [.dat i64 d',.dat c' e']) ([(zk (zk (zk 0 1) 1) 1,.box [.dat i64 (Tq b' a'),.dat c' (UB b' a')]),(zk (zk 0 1) 1,.box [.dat i64 d',.dat c' e']),(zk 0 1,.box [.dat i64 d',.dat c' e']),(0,.box [.dat i64 (fst (fst a)),.dat c' (snd (fst a)),.dat i64 (fst (snd a)),.dat c' (snd (snd a))])])) .fail:=by kernel_rfl
end T112
namespace T89
def T(s:List UInt8):Tr:=tree M5 false 9 89 (Af ([zm]) s)
def L1(v0:List UInt8)(v3:Int):Tr:=re ((T [])) (AG 17 [(0,.dat zm v0),(3,.dat i64 v3)] [] 0)
theorem Am(s:List UInt8):T s=L1 s 0:=by kernel_rfl
theorem Ar(v0:List UInt8)(v3:Int):stepT M5 (L1 v0 v3)=let a':=(length v0:Int);.ite (decide (v3<a')) (.ite (decide (0<=v3)&&decide (v3<a')) (.ite ((↑(zn (getD v0 (toNat v3) (0:UInt8))):Int)==47) (.leaf (.dat i64 v3) []) (L1 v0 (zc .i64 (v3+1)))) .fail) (.leaf (.dat i64 a') []):=by kernel_rfl
end T89
namespace T90
def T(s:List UInt8):Tr:=tree M5 false 9 90 (Af ([zm]) s)
def L1(s v0:List UInt8)(v3:Int):Tr:=re ((T s).R.L.L.R) (AG 20 [(0,.dat zm v0),(3,.dat i64 v3)] [] 0)
def L2(s v0:List UInt8)(v3:Int):Tr:=re ((T s).R.R) (AG 20 [(0,.dat zm v0),(3,.dat i64 v3)] [] 0)
theorem Am(s:List UInt8):T s=let a':=(length s:Int);.ite (a'==0) (.leaf (.bl false) []) (.ite (decide (a'>1)) (.ite (decide (0<a')) (.ite ((↑(zn (getD s 0 (0:UInt8))):Int)==48) (.leaf (.bl false) []) (L1 s s 0)) .fail) (L2 s s 0)):=by kernel_rfl
theorem Ar(s v0:List UInt8)(v3:Int):stepT M5 (L1 s v0 v3)=let a':=decide (v3<(length v0:Int));let b':=(↑(zn (getD v0 (toNat v3) (0:UInt8))):Int);.ite (a') (.ite (decide (0<=v3)&&a') (.ite (decide (b'<48)) (.leaf (.bl false) []) (.ite (decide (0<=v3)&&a') (.ite (decide (b'>57)) (.leaf (.bl false) []) (L1 s v0 (zc .i64 (v3+1)))) .fail)) .fail) (.leaf (.bl true) []):=by kernel_rfl
theorem AZ(s v0:List UInt8)(v3:Int):stepT M5 (L2 s v0 v3)=let a':=decide (v3<(length v0:Int));let b':=(↑(zn (getD v0 (toNat v3) (0:UInt8))):Int);.ite (a') (.ite (decide (0<=v3)&&a') (.ite (decide (b'<48)) (.leaf (.bl false) []) (.ite (decide (0<=v3)&&a') (.ite (decide (b'>57)) (.leaf (.bl false) []) (L2 s v0 (zc .i64 (v3+1)))) .fail)) .fail) (.leaf (.bl true) []):=by kernel_rfl
end T90
namespace T107
def T(n:Int):Tr:=tree qS false 9 107 (Af ([zg yp]) n)
def L1(v0:Int)(v4:Bool):Tr:=re ((T 0)) (AG 25 [(0,.dat i64 v0),(2,.ptr 0 0),(3,.nil),(4,.dat zl v4)] [(0,.box [.bl false,.nil])] 1)
theorem Am(n:Int):T n=L1 n (decide (n<0)):=by kernel_rfl
def L2(v0:Int)(v3n:Nat)(v4:Bool)(o1:List Int):Tr:=re ((stepT qS (L1 0 false)).L.L.L.L.L) (AG 25 [(0,.dat i64 v0),(2,.ptr 0 0),(3,.sl 1 1 0 v3n none),(4,.dat zl v4)] [(1,.arr false 3 i64 o1),(0,.box [.bl false,.nil])] 2)
theorem Ar(v0:Int)(v4:Bool):stepT qS (L1 v0 v4)=let a':=decide (1<=1)&&decide (0<1)&&decide ((2*1+1000)*8<=281474976710656);let b':=zc .i64 (yq v0 1000000000);.ite (v0 !=0) (.ite true (.ite (decide (yc v0 1000000000<0)) (.ite a' (.ite true (L2 b' 1 v4 ([zc .i64 (0-yc v0 1000000000)])) .fail) .fail) (.ite a' (.ite true (L2 b' 1 v4 ([yc v0 1000000000])) .fail) .fail)) .fail) (.ite (decide (0<=20000)) (.leaf (zt [.dat zl (Sp.BK v4 []),.dat (zj i64) (Sp.Aq [])]) ([(0,.box [.dat zl (Sp.BK v4 []),.dat (zj i64) (Sp.Aq [])])])) .fail):=by kernel_rfl
theorem AZ(v0:Int)(v3n:Nat)(v4:Bool)(o1:List Int):stepT qS (L2 v0 v3n v4 o1)=let a':=decide (1<=1)&&true&&decide (v3n=length o1)&&decide ((2*(v3n+1)+1000)*8<=281474976710656);let b':=zc .i64 (yq v0 1000000000);let c':=Sp.BK v4 (take v3n o1);let d':=Sp.Aq (take v3n o1);.ite (v0 !=0) (.ite true (.ite (decide (yc v0 1000000000<0)) (.ite a' (.ite true (L2 b' (zk v3n 1) v4 (o1++[zc .i64 (0-yc v0 1000000000)])) .fail) .fail) (.ite a' (.ite true (L2 b' (zk v3n 1) v4 (o1++[yc v0 1000000000])) .fail) .fail)) .fail) (.ite (decide (0+v3n<=length o1)&&true&&decide (length (take v3n o1)<=20000)) (.leaf (zt [.dat zl c',.dat (zj i64) d']) ([(1,.arr true 3 i64 o1),(0,.box [.dat zl c',.dat (zj i64) d'])])) .fail):=by kernel_rfl
end T107
namespace T91
def T(a:List UInt8):Tr:=tree XK3 false 9 91 (Af ([zm]) a)
theorem Am(a:List UInt8):T a=let b':=take (toNat (AX a)) a;let c':=zc .i64 (AX a+1);let a':=take (z8 (length a) (toNat c')) (drop (toNat c') a);.ite (decide (length a<=1000000)) (.ite (AX a==(length a:Int)) (.ite (D7 a) (.ite true (.leaf (.tup [zt [.dat zl (EY a),.dat (zj i64) (E3 a)],zt [.dat zl false,.dat (zj i64) (Sp.rW 1)]]) ([(zk 0 1,.box [.dat zl false,.dat (zj i64) (Sp.rW 1)]),(0,.box [.dat zl (EY a),.dat (zj i64) (E3 a)])])) .fail) .fail) (.ite (decide (0<=AX a)&&decide (0<=toNat (AX a))&&decide (toNat (AX a)<=length a)) (.ite (decide (0<=zc .i64 (AX a+1))&&true&&decide (toNat c'<=length a)&&decide (length a<=length a)) (.ite (D7 b') (.ite (D7 a') (.leaf (.tup [zt [.dat zl (EY b'),.dat (zj i64) (E3 b')],zt [.dat zl (EY a'),.dat (zj i64) (E3 a')]]) ([(zk 0 1,.box [.dat zl (EY a'),.dat (zj i64) (E3 a')]),(0,.box [.dat zl (EY b'),.dat (zj i64) (E3 b')])])) .fail) .fail) .fail) .fail)) .fail:=by kernel_rfl
end T91
namespace T24
def T(a:List UInt8):Tr:=tree T8 false 9 24 (Af ([zm]) a)
def L1(v0 v3:List UInt8):Tr:=re ((T []).L.L.L.L) (AG 96 [(0,.dat zm v0),(3,.dat zm v3)] [] 0)
theorem Am(a:List UInt8):T a=.ite (decide ((length a:Int)>0)) (.ite (decide (0<(length a:Int))) (.ite ((↑(zn (getD a 0 (0:UInt8))):Int)==45) (.ite (decide (1<=length a)&&decide (length a<=length a)) (L1 a (take (z8 (length a) 1) (drop 1 a))) .fail) (L1 a a)) .fail) (L1 a a):=by kernel_rfl
def L2(v3:List UInt8)(v4:Int):Tr:=re ((stepT T8 (L1 [] [])).L.L.L.R.L.L.L.R) (AG 96 [(3,.dat zm v3),(4,.dat i64 v4)] [] 0)
theorem Ar(v0 v3:List UInt8):stepT T8 (L1 v0 v3)=let b':=AX v3;let c':Tr:=.leaf (.dat i64 (1:Int)) [];let a':=decide (0<=AX v3)&&decide (0<=toNat b')&&decide (toNat b'<=length v3);.ite (decide (length v3<=1000000)) (.ite a' (.ite (decide (length (take (toNat b') v3)<=1000000)) (.ite (!AT (take (toNat b') v3)) c' (.ite (decide (0<(length v0:Int))) (.ite ((↑(zn (getD v0 0 (0:UInt8))):Int)==45) (.ite a' (.ite (take (toNat b') v3==[(48:UInt8)]) c' (L2 v3 b')) .fail) (L2 v3 b')) .fail)) .fail) .fail) .fail:=by kernel_rfl
def L3(v3:List UInt8)(v4:Int):Tr:=re ((stepT T8 (L2 [] 0)).L.L.L.R.L.R.L.R) (AG 96 [(3,.dat zm v3),(4,.dat i64 v4)] [] 0)
theorem AZ(v3:List UInt8)(v4:Int):stepT T8 (L2 v3 v4)=let d':Tr:=.leaf (.dat i64 (1:Int)) [];let e':=zc .i64 (v4+1);let a':=decide (0<=zc .i64 (v4+1))&&true&&decide (toNat e'<=length v3)&&decide (length v3<=length v3);let b':=toNat e';let c':=z8 (length v3) b';.ite (decide (v4<(length v3:Int))) (.ite a' (.ite (decide (length (take c' (drop b' v3))<=1000000)) (.ite (!AT (take c' (drop b' v3))) d' (.ite a' (.ite (take c' (drop b' v3)==[(48:UInt8)]) d' (.ite a' (.ite (take c' (drop b' v3)==[(49:UInt8)]) d' (L3 v3 v4)) .fail)) .fail)) .fail) .fail) (L3 v3 v4):=by kernel_rfl
def L4(v3:List UInt8)(v4:Int):Tr:=re ((stepT T8 (L3 [] 0)).R.R) (AG 96 [(3,.dat zm v3),(4,.dat i64 v4)] [] 0)
theorem C2(v3:List UInt8)(v4:Int):stepT T8 (L3 v3 v4)=let a':Tr:=.leaf (.dat i64 (4:Int)) [];.ite (decide (v4>600)) a' (.ite (decide (zc .i64 (zc .i64 ((length v3:Int)-v4)-1)>600)) a' (L4 v3 v4)):=by kernel_rfl
def L5(o1:Bool)(o1_1:List Int)(o0:Bool)(o0_1:List Int):Tr:=re ((stepT T8 (L4 [] 0)).L.L) (AG 96 [(5,.ptr 0 0),(6,.ptr 1 0)] [(1,.box [.dat zl o1,.dat (zj i64) o1_1]),(0,.box [.dat zl o0,.dat (zj i64) o0_1])] 2)
theorem DD(v3:List UInt8)(v4:Int):stepT T8 (L4 v3 v4)=.ite (decide (v4<(length v3:Int))) (.ite (FL v3) (L5 (A8 v3) (A5 v3) (Bo v3) (Bi v3)) .fail) (.leaf (.dat i64 (0:Int)) []):=by kernel_rfl
def L6(v7:List Int):Tr:=re ((stepT T8 (L5 false [] false [])).L) (AG 96 [(7,.dat (zj i64) v7)] [] 0)
theorem GO(o1:Bool)(o1_1:List Int)(o0:Bool)(o0_1:List Int):stepT T8 (L5 o1 o1_1 o0 o0_1)=.ite (A4 o0_1&&A4 o1_1&&decide (length o0_1<=9000)&&decide (length o1_1<=9000)) (L6 (Cf o0_1 o1_1)) .fail:=by kernel_rfl
theorem HP(v7:List Int):stepT T8 (L6 v7)=let a':Tr:=.leaf (.dat i64 (1:Int)) [];.ite ((length v7:Int) !=1) a' (.ite (decide (0<(length v7:Int))) (.ite (getD v7 0 0 !=1) a' (.leaf (.dat i64 (0:Int)) [])) .fail):=by kernel_rfl
end T24
namespace T83
def T(l:List Int):Tr:=tree M5 false 9 83 (Af ([zj i64]) l)
def L1(v5:List Int)(v6 v7:Int):Tr:=re ((T [])) (AG 15 [(5,.dat (zj i64) v5),(6,.dat i64 v6),(7,.dat i64 v7)] [] 0)
theorem Am(l:List Int):T l=L1 l ((length l:Int)) 0:=by kernel_rfl
theorem Ar(v5:List Int)(v6 v7:Int):stepT M5 (L1 v5 v6 v7)=.ite (decide (v7<v6)) (.ite (decide (0<=v7)&&decide (v7<(length v5:Int))) (.ite (getD v5 (toNat v7) 0 !=0) (.leaf (.dat i64 (getD v5 (toNat v7) 0)) []) (L1 v5 v6 (zc .i64 (v7+1)))) .fail) (.leaf (.dat i64 (0:Int)) []):=by kernel_rfl
end T83
namespace T85
def T(b:Bool)(e:Int):Tr:=tree M5 false 9 85 (Af ([zl,zg yp]) (b,e))
theorem Am(b:Bool)(e:Int):T b e=.ite b (.leaf (.dat i64 e) []) (.leaf (.dat i64 (0:Int)) []):=by kernel_rfl
end T85
namespace T77
def T(a:List UInt8):Tr:=tree Lt false 9 77 (Af ([zm]) a)
def L1(v5 v6:List UInt8)(v7:Bool):Tr:=re ((T []).L.L.L.L.L) (AG 76 [(5,.dat zm v5),(6,.dat zm v6),(7,.dat zl v7),(8,.bl true)] [] 0)
def L2(v5 v6:List UInt8)(v7 v8:Bool):Tr:=re ((T []).L.L.L.L.R) (AG 76 [(5,.dat zm v5),(6,.dat zm v6),(7,.dat zl v7),(8,.dat zl v8)] [] 0)
def L3(v5 v6:List UInt8)(v7:Bool):Tr:=re ((T []).L.L.L.R) (AG 76 [(5,.dat zm v5),(6,.dat zm v6),(7,.dat zl v7),(8,.bl false)] [] 0)
theorem Am(a:List UInt8):T a=let a':=Ay (AY a);let b':=Sp.AM (AY a);let c':=Bn (AY a);.ite (Sa a [(45:UInt8)]) (.ite (rP (AY a) [(47:UInt8)]) (.ite (decide (length a'<=1000000)) (.ite (AT a') (.ite (!Sp.preB a) (L1 a' b' c') (L2 a' b' c' (!Ay (AY a)==[(48:UInt8)]))) (L3 a' b' c')) .fail) .fail) .fail:=by kernel_rfl
def L4(v5 v6:List UInt8)(v7 v8:Bool):Tr:=re ((stepT Lt (L1 [] [] false)).L.L.L.L) (AG 76 [(5,.dat zm v5),(6,.dat zm v6),(7,.dat zl v7),(8,.dat zl v8)] [] 0)
def L5(v5 v6:List UInt8)(v7:Bool):Tr:=re ((stepT Lt (L1 [] [] false)).L.L.L.R) (AG 76 [(5,.dat zm v5),(6,.dat zm v6),(7,.dat zl v7),(8,.bl false)] [] 0)
def L6(v5 v6:List UInt8)(v7:Bool):Tr:=re ((stepT Lt (L1 [] [] false)).R) (AG 76 [(5,.dat zm v5),(6,.dat zm v6),(7,.dat zl v7),(8,.bl true)] [] 0)
theorem Ar(v5 v6:List UInt8)(v7:Bool):stepT Lt (L1 v5 v6 v7)=.ite v7 (.ite (decide (length v6<=1000000)) (.ite (AT v6) (.ite (!v6==[(48:UInt8)]) (L4 v5 v6 v7 (!v6==[(49:UInt8)])) (L5 v5 v6 v7)) (L5 v5 v6 v7)) .fail) (L6 v5 v6 v7):=by kernel_rfl
theorem AZ(v5 v6:List UInt8)(v7 v8:Bool):stepT Lt (L2 v5 v6 v7 v8)=.ite v7 (.ite v8 (.ite (decide (length v6<=1000000)) (.ite (AT v6) (.ite (!v6==[(48:UInt8)]) (L4 v5 v6 v7 (!v6==[(49:UInt8)])) (L5 v5 v6 v7)) (L5 v5 v6 v7)) .fail) (L5 v5 v6 v7)) (L4 v5 v6 v7 v8):=by kernel_rfl
theorem C2(v5 v6:List UInt8)(v7:Bool):stepT Lt (L3 v5 v6 v7)=.ite v7 (L5 v5 v6 v7) (L5 v5 v6 v7):=by kernel_rfl
def L7(v5 v6:List UInt8)(v7:Bool)(v9:Int):Tr:=re ((stepT Lt (L4 [] [] false false)).L.L.L.L) (AG 76 [(5,.dat zm v5),(6,.dat zm v6),(7,.dat zl v7),(9,.dat i64 v9)] [] 0)
theorem DD(v5 v6:List UInt8)(v7 v8:Bool):stepT Lt (L4 v5 v6 v7 v8)=let a':=decide (2<=2)&&true&&decide (2<=1000000);.ite true (.ite (decide ((length v5:Int)>600)) (.ite true (.ite a' (L7 v5 v6 v7 (yw [Lq (!v8) 1,Lq true 4])) .fail) .fail) (.ite true (.ite a' (L7 v5 v6 v7 (yw [Lq (!v8) 1,Lq (decide ((length v6:Int)>600)) 4])) .fail) .fail)) .fail:=by kernel_rfl
theorem GO(v5 v6:List UInt8)(v7:Bool):stepT Lt (L5 v5 v6 v7)=.ite true (.ite (decide ((length v5:Int)>600)) (.ite true (.ite true (L7 v5 v6 v7 (yw [Lq true 1,Lq true 4])) .fail) .fail) (.ite true (.ite (decide (2<=2)&&true&&decide (2<=1000000)) (L7 v5 v6 v7 (yw [Lq true 1,Lq (decide ((length v6:Int)>600)) 4])) .fail) .fail)) .fail:=by kernel_rfl
theorem HP(v5 v6:List UInt8)(v7:Bool):stepT Lt (L6 v5 v6 v7)=.ite true (.ite (decide ((length v5:Int)>600)) (.ite true (.ite true (L7 v5 v6 v7 (yw [Lq false 1,Lq true 4])) .fail) .fail) (.ite true (.ite (decide (2<=2)&&true&&decide (2<=1000000)) (L7 v5 v6 v7 (yw [Lq false 1,Lq (decide ((length v6:Int)>600)) 4])) .fail) .fail)) .fail:=by kernel_rfl
def L8(v5 v6:List UInt8)(v7:Bool):Tr:=re ((stepT Lt (L7 [] [] false 0)).R) (AG 76 [(5,.dat zm v5),(6,.dat zm v6),(7,.dat zl v7)] [] 0)
theorem F9(v5 v6:List UInt8)(v7:Bool)(v9:Int):stepT Lt (L7 v5 v6 v7 v9)=.ite (v9 !=0) (.leaf (.dat i64 v9) []) (L8 v5 v6 v7):=by kernel_rfl
def L9(v10:Bool):Tr:=re ((stepT Lt (L8 [] [] false)).L.L.L.L.L.L) (AG 76 [(10,.dat zl v10)] [] 0)
def L10:Tr:=re ((stepT Lt (L8 [] [] false)).R) (AG 76 [(10,.bl false)] [] 0)
theorem Jz(v5 v6:List UInt8)(v7:Bool):stepT Lt (L8 v5 v6 v7)=let a':=(MO (Dd v5,C5 v5) (Dd v6,C5 v6),Mt (Dd v5,C5 v5) (Dd v6,C5 v6));.ite v7 (.ite (D7 v5) (.ite (D7 v6) (.ite (A6 (Dd v5,C5 v5)&&A6 (Dd v6,C5 v6)) (.ite true (.ite (A6 a'&&A6 (1,Cv 1)) (L9 (YJ a' (1,Cv 1) !=0)) .fail) .fail) .fail) .fail) .fail) L10:=by kernel_rfl
theorem wM(v10:Bool):stepT Lt (L9 v10)=.ite true (.leaf (.dat i64 (Lq v10 1)) []) .fail:=by kernel_rfl
theorem tF:stepT Lt L10=.ite true (.leaf (.dat i64 (Lq false 1)) []) .fail:=by kernel_rfl
end T77
namespace T153
def T(s:List UInt8):Tr:=tree P4 false 9 153 (Af ([zm]) s)
def L1(v0:List UInt8)(v3:Bool)(o1 o0:Int):Tr:=re ((T []).L.L.L.L.L.L) (AG 41 [(0,.dat zm v0),(2,.ptr 0 0),(3,.dat zl v3),(4,.ptr 1 0)] [(1,.box [.dat i64 o1,.nil]),(0,.box [.dat i64 o0,.nil])] 2)
def L2(v0:List UInt8)(o1 o0:Int):Tr:=re ((T []).R.L.L.L.L) (AG 41 [(0,.dat zm v0),(2,.ptr 0 0),(3,.bl false),(4,.ptr 1 0)] [(1,.box [.dat i64 o1,.nil]),(0,.box [.dat i64 o0,.nil])] 2)
theorem Am(s:List UInt8):T s=let a':=take 1 s==[(45:UInt8)];let b':=decide ((length s:Int)>=1);let c':=decide (1<=length s)&&decide (length s<=length s);let d':=decide (1<=length s);let e':=take (z8 (length s) 1) (drop 1 s);.ite b' (.ite d' (.ite b' (.ite d' (.ite a' (.ite c' (L1 e' a' 0 0) .fail) (L1 s a' 0 0)) .fail) (L1 s a' 0 0)) .fail) (.ite b' (.ite d' (.ite a' (.ite c' (L2 e' 0 0) .fail) (L2 s 0 0)) .fail) (L2 s 0 0)):=by kernel_rfl
def L3(v0:List UInt8)(v3:Bool)(o1 o0:Int)(v5:List UInt8)(v6:Int)(v47n:Nat)(v48 v49:Int)(o2:List Int)(o1':Int)(o0':Int):Tr:=re ((stepT P4 (L1 v0 v3 o1 o0)).L.L.L.L.L.L.L.R) (AG 77 [(5,.dat zm v5),(6,.dat i64 v6),(47,.sl 2 1 0 v47n none),(48,.dat i64 v48),(49,.dat i64 v49)] [(2,.arr false 5 (zg yj) o2),(1,.box [.dat i64 o1',.nil]),(0,.box [.dat i64 o0',.nil])] 3)
theorem Ar(v0:List UInt8)(v3:Bool)(o1 o0:Int):stepT P4 (L1 v0 v3 o1 o0)=let d':=(length v0:Int);let g':=zh (zg ze);let a':=take (toNat (Es 18 d')) v0;let b':=take (z8 (length a') 1) (drop 1 a');let c':=(↑(length a'):Int);let e':=decide (1<=length a')&&decide (length a'<=length a');let f':=(↑(zn (getD a' 0 (0:UInt8))):Int);let h':=decide (0<c');.ite (decide (d'>0)) (.ite (decide (0<=Es 18 d')&&decide (0<=toNat (Es 18 d'))&&decide (toNat (Es 18 d')<=length v0)) (.ite h' (.ite (decide (c'<19)) (.ite h' (.ite (f'==45) (.ite e' (.ite (decide ((↑(length b'):Int)<1)) .fail (L3 v0 v3 o1 o0 a' 0 (length b') ((↑(length b'):Int)) 0 (yr (fun b=>(↑(zn b):Int)) b') o1 o0)) .fail) (.ite h' (.ite (f'==43) (.ite e' (.ite (decide ((↑(length b'):Int)<1)) .fail (L3 v0 v3 o1 o0 a' 0 (length b') ((↑(length b'):Int)) 0 (yr (fun b=>(↑(zn b):Int)) b') o1 o0)) .fail) (L3 v0 v3 o1 o0 a' 0 (length a') (c') 0 (yr (fun b=>(↑(zn b):Int)) a') o1 o0)) .fail)) .fail) (.ite false .fail .fail)) (.ite false .fail .fail)) .fail) (.ite v3 (.ite (Dh (o1,[])) (.leaf (zt [.dat i64 (D3 (o1,[])),.dat g' (Ed (o1,[]))]) ([(1,.box [.dat i64 o1,.nil]),(0,.box [.dat i64 (D3 (o1,[])),.dat g' (Ed (o1,[]))])])) .fail) (.leaf (zt [.dat i64 o1,.nil]) ([(1,.box [.dat i64 o1,.nil]),(0,.box [.dat i64 o1,.nil])]))):=by kernel_rfl
def L4(v0:List UInt8)(o1 o0:Int)(v5:List UInt8)(v6:Int)(v47n:Nat)(v48 v49:Int)(o2:List Int)(o1':Int)(o0':Int):Tr:=re ((stepT P4 (L2 v0 o1 o0)).L.L.L.L.L.L.L.R) (AG 77 [(5,.dat zm v5),(6,.dat i64 v6),(47,.sl 2 1 0 v47n none),(48,.dat i64 v48),(49,.dat i64 v49)] [(2,.arr false 5 (zg yj) o2),(1,.box [.dat i64 o1',.nil]),(0,.box [.dat i64 o0',.nil])] 3)
theorem AZ(v0:List UInt8)(o1 o0:Int):stepT P4 (L2 v0 o1 o0)=let d':=(length v0:Int);let a':=take (toNat (Es 18 d')) v0;let b':=take (z8 (length a') 1) (drop 1 a');let c':=(↑(length a'):Int);let e':=decide (1<=length a')&&decide (length a'<=length a');let f':=(↑(zn (getD a' 0 (0:UInt8))):Int);let g':=decide (0<c');.ite (decide (d'>0)) (.ite (decide (0<=Es 18 d')&&decide (0<=toNat (Es 18 d'))&&decide (toNat (Es 18 d')<=length v0)) (.ite g' (.ite (decide (c'<19)) (.ite g' (.ite (f'==45) (.ite e' (.ite (decide ((↑(length b'):Int)<1)) .fail (L4 v0 o1 o0 a' 0 (length b') ((↑(length b'):Int)) 0 (yr (fun b=>(↑(zn b):Int)) b') o1 o0)) .fail) (.ite g' (.ite (f'==43) (.ite e' (.ite (decide ((↑(length b'):Int)<1)) .fail (L4 v0 o1 o0 a' 0 (length b') ((↑(length b'):Int)) 0 (yr (fun b=>(↑(zn b):Int)) b') o1 o0)) .fail) (L4 v0 o1 o0 a' 0 (length a') (c') 0 (yr (fun b=>(↑(zn b):Int)) a') o1 o0)) .fail)) .fail) (.ite false .fail .fail)) (.ite false .fail .fail)) .fail) (.leaf (zt [.dat i64 o1,.nil]) ([(1,.box [.dat i64 o1,.nil]),(0,.box [.dat i64 o1,.nil])])):=by kernel_rfl
def L5(v0:List UInt8)(v3:Bool)(o1:Int)(o1_1:List Int)(o0:Int):Tr:=re ((stepT P4 (L3 [] false 0 0 [] 0 0 0 0 [] 0 0)).R.L.L.L.L.L.L.L.L) (AG 41 [(0,.dat zm v0),(2,.ptr 0 0),(3,.dat zl v3),(4,.ptr 1 0)] [(1,.box [.dat i64 o1,.dat (zh (zg ze)) o1_1]),(0,.box [.dat i64 o0,.nil])] 2)
theorem C2(v0:List UInt8)(v3:Bool)(o1 o0:Int)(v5:List UInt8)(v6:Int)(v47n:Nat)(v48 v49:Int)(o2:List Int)(o1':Int)(o0':Int):stepT P4 (L3 v0 v3 o1 o0 v5 v6 v47n v48 v49 o2 o1' o0')=let b':=Es 18 (length v0:Int);let d':=(zc .i64 (0-v6),Cv (zc .i64 (0-v6)));let i':=getD o2 (toNat v49) 0-48;let a':=(S4 (10,Cv 10) b',UL (10,Cv 10) b');let e':=decide (0<=Es 18 (length v0:Int))&&true&&decide (toNat b'<=length v0)&&decide (length v0<=length v0);let f':=take (z8 (length v0) (toNat b')) (drop (toNat b') v0);let g':=A6 (10,Cv 10)&&hZ (y9 (10,Cv 10)) b';let c':=(EW (o1',[]) a',EK (o1',[]) a');let h':=A6 (o1',[])&&A6 a';.ite (decide (v49<v48)) (.ite (decide (0<=v49)&&decide (v49<(↑v47n:Int))) (.ite (decide (toNat v49<length o2)) (.ite (decide (zc .u8 i'>9)) .fail (L3 v0 v3 o1 o0 v5 (zc .i64 (zc .i64 (v6*10)+zc .i64 (zc .u8 i'))) v47n v48 (zc .i64 (v49+1)) o2 o1' o0')) .fail) .fail) (.ite (decide (0<(length v5:Int))) (.ite ((↑(zn (getD v5 0 (0:UInt8))):Int)==45) (.ite true (.ite g' (.ite h' (.ite true (.ite (A6 c'&&A6 d') (.ite e' (L5 f' v3 (H2 c' d') (Iu c' d') o0') .fail) .fail) .fail) .fail) .fail) .fail) (.ite true (.ite g' (.ite h' (.ite true (.ite (A6 c'&&A6 (v6,Cv v6)) (.ite e' (L5 f' v3 (H2 c' (v6,Cv v6)) (Iu c' (v6,Cv v6)) o0') .fail) .fail) .fail) .fail) .fail) .fail)) .fail):=by kernel_rfl
def L7(v0:List UInt8)(v3:Bool)(o1:Int)(o1_1:List Int)(o0:Int)(v5:List UInt8)(v6:Int)(v47n:Nat)(v48 v49:Int)(o2:List Int)(o1':Int)(o1_1':List Int)(o0':Int):Tr:=re ((stepT P4 (L5 v0 v3 o1 o1_1 o0)).L.L.L.L.L.L.L.R) (AG 77 [(5,.dat zm v5),(6,.dat i64 v6),(47,.sl 2 1 0 v47n none),(48,.dat i64 v48),(49,.dat i64 v49)] [(2,.arr false 5 (zg yj) o2),(1,.box [.dat i64 o1',.dat (zh (zg ze)) o1_1']),(0,.box [.dat i64 o0',.nil])] 3)
theorem GO(v0:List UInt8)(v3:Bool)(o1:Int)(o1_1:List Int)(o0:Int):stepT P4 (L5 v0 v3 o1 o1_1 o0)=let c':=zh (zg ze);let e':=(length v0:Int);let a':=take (toNat (Es 18 e')) v0;let b':=take (z8 (length a') 1) (drop 1 a');let d':=(↑(length a'):Int);let f':=decide (1<=length a')&&decide (length a'<=length a');let g':=(↑(zn (getD a' 0 (0:UInt8))):Int);let h':=decide (0<d');.ite (decide (e'>0)) (.ite (decide (0<=Es 18 e')&&decide (0<=toNat (Es 18 e'))&&decide (toNat (Es 18 e')<=length v0)) (.ite h' (.ite (decide (d'<19)) (.ite h' (.ite (g'==45) (.ite f' (.ite (decide ((↑(length b'):Int)<1)) .fail (L7 v0 v3 o1 o1_1 o0 a' 0 (length b') ((↑(length b'):Int)) 0 (yr (fun b=>(↑(zn b):Int)) b') o1 o1_1 o0)) .fail) (.ite h' (.ite (g'==43) (.ite f' (.ite (decide ((↑(length b'):Int)<1)) .fail (L7 v0 v3 o1 o1_1 o0 a' 0 (length b') ((↑(length b'):Int)) 0 (yr (fun b=>(↑(zn b):Int)) b') o1 o1_1 o0)) .fail) (L7 v0 v3 o1 o1_1 o0 a' 0 (length a') (d') 0 (yr (fun b=>(↑(zn b):Int)) a') o1 o1_1 o0)) .fail)) .fail) (.ite false .fail .fail)) (.ite false .fail .fail)) .fail) (.ite v3 (.ite (Dh (o1,o1_1)) (.leaf (zt [.dat i64 (D3 (o1,o1_1)),.dat c' (Ed (o1,o1_1))]) ([(1,.box [.dat i64 o1,.dat c' o1_1]),(0,.box [.dat i64 (D3 (o1,o1_1)),.dat c' (Ed (o1,o1_1))])])) .fail) (.leaf (zt [.dat i64 o1,.dat c' o1_1]) ([(1,.box [.dat i64 o1,.dat c' o1_1]),(0,.box [.dat i64 o1,.dat c' o1_1])]))):=by kernel_rfl
theorem F9(v0:List UInt8)(v3:Bool)(o1:Int)(o1_1:List Int)(o0:Int)(v5:List UInt8)(v6:Int)(v47n:Nat)(v48 v49:Int)(o2:List Int)(o1':Int)(o1_1':List Int)(o0':Int):stepT P4 (L7 v0 v3 o1 o1_1 o0 v5 v6 v47n v48 v49 o2 o1' o1_1' o0')=let c':=Es 18 (length v0:Int);let d':=(zc .i64 (0-v6),Cv (zc .i64 (0-v6)));let i':=getD o2 (toNat v49) 0-48;let a':=(S4 (10,Cv 10) c',UL (10,Cv 10) c');let e':=decide (0<=Es 18 (length v0:Int))&&true&&decide (toNat c'<=length v0)&&decide (length v0<=length v0);let f':=take (z8 (length v0) (toNat c')) (drop (toNat c') v0);let g':=A6 (10,Cv 10)&&hZ (y9 (10,Cv 10)) c';let b':=(EW (o1',o1_1') a',EK (o1',o1_1') a');let h':=A6 (o1',o1_1')&&A6 a';.ite (decide (v49<v48)) (.ite (decide (0<=v49)&&decide (v49<(↑v47n:Int))) (.ite (decide (toNat v49<length o2)) (.ite (decide (zc .u8 i'>9)) .fail (L7 v0 v3 o1 o1_1 o0 v5 (zc .i64 (zc .i64 (v6*10)+zc .i64 (zc .u8 i'))) v47n v48 (zc .i64 (v49+1)) o2 o1' o1_1' o0')) .fail) .fail) (.ite (decide (0<(length v5:Int))) (.ite ((↑(zn (getD v5 0 (0:UInt8))):Int)==45) (.ite true (.ite g' (.ite h' (.ite true (.ite (A6 b'&&A6 d') (.ite e' (L5 f' v3 (H2 b' d') (Iu b' d') o0') .fail) .fail) .fail) .fail) .fail) .fail) (.ite true (.ite g' (.ite h' (.ite true (.ite (A6 b'&&A6 (v6,Cv v6)) (.ite e' (L5 f' v3 (H2 b' (v6,Cv v6)) (Iu b' (v6,Cv v6)) o0') .fail) .fail) .fail) .fail) .fail) .fail)) .fail):=by kernel_rfl
end T153
namespace T211
def T(s t:List UInt8):Tr:=tree ZE false 9 211 (Af ([zm,zm]) (s,t))
def L1(s t v0:List UInt8)(v4:Int)(o0:List Bool):Tr:=re ((T s t).R.R.L.L.R) (AG 21 [(0,.dat zm v0),(2,.ptr 0 0),(4,.dat i64 v4)] [(0,.arr false 281 zl o0)] 1)
def L2(s t v0:List UInt8)(v4:Int)(o0:List Bool):Tr:=re ((T s t).R.R.R) (AG 21 [(0,.dat zm v0),(2,.ptr 0 0),(4,.dat i64 v4)] [(0,.arr false 281 zl o0)] 1)
theorem Am(s t:List UInt8):T s t=let a':=decide (0<(length t:Int));let b':Tr:=.leaf (.dat zm s) [];.ite (s==[]) b' (.ite (t==[]) b' (.ite ((length t:Int)==1) (.ite a' (.ite (decide ((↑(zn (getD t 0 (0:UInt8))):Int)<128)) (.ite a' (.ite a' (.ite false (.ite false b' .fail) .fail) .fail) .fail) (L1 s t t 0 Sp.qN)) .fail) (L2 s t t 0 Sp.qN))):=by kernel_rfl
def L4(s t v0:List UInt8)(v4:Int)(o0:List Bool)(v0':List UInt8)(o1:List Bool)(o0':List Bool):Tr:=re ((stepT ZE (L2 s t v0 v4 o0)).R.L.L.L.L) (AG 22 [(0,.dat zm v0'),(1,.ptr 1 0)] [(1,.arr false 281 zl o1),(0,.arr false 281 zl o0')] 2)
theorem AZ(s t v0:List UInt8)(v4:Int)(o0:List Bool):stepT ZE (L2 s t v0 v4 o0)=let a':=(↑(zn (getD v0 (toNat v4) (0:UInt8))):Int);let b':=decide (length o0=256);let c':=decide (v4<(length v0:Int));.ite (c') (.ite (decide (0<=v4)&&c') (.ite (decide (a'>=128)) (.ite b' (.ite b' (.ite (decide (256=256)) (.ite true (.ite false (.ite false (.leaf (.dat zm s) ([(1,.arr false 281 zl (Sp.Yd o0)),(0,.arr false 281 zl (Sp.Yd o0))])) .fail) .fail) .fail) .fail) .fail) .fail) (.ite (decide ((0:y8 (zg yj))<=a')&&decide (a'<(↑256:Int))) (.ite (decide (toNat a'<length o0)) (L2 s t v0 (zc .i64 (v4+1)) (set o0 (toNat a') true)) .fail) .fail)) .fail) (.ite b' (.ite b' (.ite (decide (256=256)) (.ite true (L4 s t v0 v4 o0 s ((Sp.Yd o0)) ((Sp.Yd o0))) .fail) .fail) .fail) .fail):=by kernel_rfl
def L7(s t v0:List UInt8)(v4:Int)(o0:List Bool)(v0':List UInt8)(o1:List Bool)(o0':List Bool)(v0'':List UInt8)(o1':List Bool)(o0'':List Bool):Tr:=re ((stepT ZE (L4 s t v0 v4 o0 v0' o1 o0')).L.L.L.L.L) (AG 16 [(0,.dat zm v0''),(1,.ptr 1 0)] [(1,.arr false 281 zl o1'),(0,.arr false 281 zl o0'')] 2)
def L8(s t v0:List UInt8)(v4:Int)(o0:List Bool)(v0':List UInt8)(o1:List Bool)(o0':List Bool)(v0'':List UInt8)(o1':List Bool)(o0'':List Bool):Tr:=re ((stepT ZE (L4 s t v0 v4 o0 v0' o1 o0')).R) (AG 16 [(0,.dat zm v0''),(1,.ptr 1 0)] [(1,.arr false 281 zl o1'),(0,.arr false 281 zl o0'')] 2)
theorem DD(s t v0:List UInt8)(v4:Int)(o0:List Bool)(v0':List UInt8)(o1:List Bool)(o0':List Bool):stepT ZE (L4 s t v0 v4 o0 v0' o1 o0')=let b':=(↑(length v0'):Int);let c':=zc .i64 (b'-1);let d':=decide (0<=zc .i64 (b'-1));let a':=(↑(zn (getD v0' (toNat c') (0:UInt8))):Int);.ite (decide (b'>0)) (.ite (d'&&decide (zc .i64 (b'-1)<b')) (.ite (decide ((0:y8 (zg yj))<=a')&&decide (a'<(↑256:Int))) (.ite (decide (toNat a'<length o1)) (.ite (!getD o1 (toNat a') false) (L7 s t v0 v4 o0 v0' o1 o0' v0' o1 o0') (.ite (d'&&decide (0<=toNat c')&&decide (toNat c'<=length v0')) (L4 s t v0 v4 o0 (take (toNat c') v0') o1 o0') .fail)) .fail) .fail) .fail) (L8 s t v0 v4 o0 v0' o1 o0' v0' o1 o0'):=by kernel_rfl
theorem F9(s t v0:List UInt8)(v4:Int)(o0:List Bool)(v0':List UInt8)(o1:List Bool)(o0':List Bool)(v0'':List UInt8)(o1':List Bool)(o0'':List Bool):stepT ZE (L7 s t v0 v4 o0 v0' o1 o0' v0'' o1' o0'')=let a':=(↑(zn (getD v0'' 0 (0:UInt8))):Int);let b':Tr:=.leaf (.dat zm v0'') ([(1,.arr false 281 zl o1'),(0,.arr false 281 zl o0'')]);.ite (decide ((↑(length v0''):Int)>0)) (.ite (decide (0<(↑(length v0''):Int))) (.ite (decide ((0:y8 (zg yj))<=a')&&decide (a'<(↑256:Int))) (.ite (decide (toNat a'<length o1')) (.ite (!getD o1' (toNat a') false) b' (.ite (decide (1<=length v0'')&&decide (length v0''<=length v0'')) (L7 s t v0 v4 o0 v0' o1 o0' (take (z8 (length v0'') 1) (drop 1 v0'')) o1' o0'') .fail)) .fail) .fail) .fail) b':=by kernel_rfl
theorem Jz(s t v0:List UInt8)(v4:Int)(o0:List Bool)(v0':List UInt8)(o1:List Bool)(o0':List Bool)(v0'':List UInt8)(o1':List Bool)(o0'':List Bool):stepT ZE (L8 s t v0 v4 o0 v0' o1 o0' v0'' o1' o0'')=let a':=(↑(zn (getD v0'' 0 (0:UInt8))):Int);let b':Tr:=.leaf (.dat zm v0'') ([(1,.arr false 281 zl o1'),(0,.arr false 281 zl o0'')]);.ite (decide ((↑(length v0''):Int)>0)) (.ite (decide (0<(↑(length v0''):Int))) (.ite (decide ((0:y8 (zg yj))<=a')&&decide (a'<(↑256:Int))) (.ite (decide (toNat a'<length o1')) (.ite (!getD o1' (toNat a') false) b' (.ite (decide (1<=length v0'')&&decide (length v0''<=length v0'')) (L8 s t v0 v4 o0 v0' o1 o0' (take (z8 (length v0'') 1) (drop 1 v0'')) o1' o0'') .fail)) .fail) .fail) .fail) b':=by kernel_rfl
end T211
namespace T151
def T(s:List UInt8):Tr:=tree zS false 9 151 (Af ([zm]) s)
theorem Am(s:List UInt8):T s=.ite (!s==[]) (.ite (Sp.qP s [(48:UInt8),(49:UInt8),(50:UInt8),(51:UInt8),(52:UInt8),(53:UInt8),(54:UInt8),(55:UInt8),(56:UInt8),(57:UInt8)]) (.ite (Sp.Ou s==[]) (.ite (decide (0<(length s:Int))) (.ite ((↑(zn (getD s 0 (0:UInt8))):Int) !=48) (.leaf (.bl true) []) (.leaf (.dat zl (s==[(48:UInt8)])) [])) .fail) (.leaf (.bl false) [])) .fail) (.leaf (.bl false) []):=by kernel_rfl
end T151
namespace T149
def T(s t:List UInt8):Tr:=tree M5 false 9 149 (Af ([zm,zm]) (s,t))
theorem Am(s t:List UInt8):T s t=let a':=(length t:Int);let b':Tr:=.leaf (.tup [.dat zm s,.bl false]) [];let c':=decide (toNat a'<=length s);.ite (decide ((length s:Int)>=a')) (.ite (decide (0<=a')&&decide (0<=toNat a')&&c') (.ite (!take (toNat a') s==t) b' (.ite (decide (0<=a')&&true&&c'&&decide (length s<=length s)) (.leaf (.tup [.dat zm (take (z8 (length s) (toNat a')) (drop (toNat a') s)),.bl true]) []) .fail)) .fail) b':=by kernel_rfl
end T149
namespace T150
def T(s t:List UInt8):Tr:=tree XH2 false 9 150 (Af ([zm,zm]) (s,t))
theorem Am(s t:List UInt8):T s t=let b':=(↑(zn (getD t 0 (0:UInt8))):Int);let c':=(length t:Int);let d':Tr:=.leaf (.tup [.dat zm s,.dat zm [],.bl false]) [];let g':=decide (length s<=length s);let i':=BC [zg yj];let e':=zc .i64 (Sp.Oa s b'+c');let f':=zc .i64 ((-1)+c');let h':=zc .i64 (0+c');let j':=Sp.Oa s b';let a':Tr:=.ite true (.ite (decide (0<=length s)) (.ite (decide (0<=zc .i64 (0+c'))&&true&&decide (toNat h'<=length s)&&g') (.leaf (.tup [.dat zm (take 0 s),.dat zm (take (z8 (length s) (toNat h')) (drop (toNat h') s)),.bl true]) []) .fail) .fail) d';.ite (c'==0) a' (.ite (t==s) a' (.ite (c'==1) (.ite (decide (0<c')) (.ite (decide ((0:y8 i')<=b')&&decide (b'<(256:y8 i'))) (.ite (decide (Sp.Oa s b'>=0)) (.ite (decide (0<=Sp.Oa s b')&&decide (0<=toNat j')&&decide (toNat j'<=length s)) (.ite (decide (0<=zc .i64 (Sp.Oa s b'+c'))&&true&&decide (toNat e'<=length s)&&g') (.leaf (.tup [.dat zm (take (toNat j') s),.dat zm (take (z8 (length s) (toNat e')) (drop (toNat e') s)),.bl true]) []) .fail) .fail) d') .fail) .fail) (.ite (decide (c'>=(length s:Int))) (.ite false (.ite (false&&decide (0<=length s)) (.ite (decide (0<=zc .i64 ((-1)+c'))&&true&&decide (toNat f'<=length s)&&g') (.leaf (.tup [.dat zm (take 0 s),.dat zm (take (z8 (length s) (toNat f')) (drop (toNat f') s)),.bl true]) []) .fail) .fail) d') .fail))):=by kernel_rfl
end T150
namespace T227
def T(w:List Int):Tr:=tree jH false 9 227 (Af ([zj i64]) w)
def L1(v0:List Int):Tr:=re ((T [])) (AG 21 [(0,.dat (zj i64) v0)] [] 0)
theorem Am(w:List Int):T w=L1 w:=by kernel_rfl
theorem Ar(v0:List Int):stepT jH (L1 v0)=let b':=(length v0:Int);let d':Tr:=.leaf (.dat (zj i64) v0) [];let a':=zc .i64 (b'-1);let c':=decide (0<=zc .i64 (b'-1));.ite (decide (b'>0)) (.ite (c'&&decide (zc .i64 (b'-1)<b')) (.ite (getD v0 (toNat a') 0==0) (.ite (c'&&decide (0<=toNat a')&&decide (toNat a'<=length v0)) (L1 (take (toNat a') v0)) .fail) d') .fail) d':=by kernel_rfl
end T227
namespace T168
def T(n:Bool)(w:List Int):Tr:=tree Z0 false 9 168 (Af ([zl,zj i64]) (n,w))
theorem Am(n:Bool)(w:List Int):T n w=let a':=decide ((↑(length (Aq w)):Int)>0);.ite (decide (length w<=20000)) (.ite n (.leaf (zt [.dat zl a',.dat (zj i64) (Aq w)]) ([(0,.box [.dat zl a',.dat (zj i64) (Aq w)])])) (.leaf (zt [.bl false,.dat (zj i64) (Aq w)]) ([(0,.box [.bl false,.dat (zj i64) (Aq w)])]))) .fail:=by kernel_rfl
end T168
namespace T170
def T(a b:List Int):Tr:=tree jH false 9 170 (Af ([zj i64,zj i64]) (a,b))
def L1(v0 v1:List Int)(v5:Int):Tr:=re ((T [] []).R) (AG 41 [(0,.dat (zj i64) v0),(1,.dat (zj i64) v1),(5,.dat i64 v5)] [] 0)
theorem Am(a b:List Int):T a b=let a':=(length a:Int);.ite (a' !=(length b:Int)) (.ite (decide (a'<(length b:Int))) (.leaf (.dat i64 (-1:Int)) []) (.leaf (.dat i64 (1:Int)) [])) (L1 a b (zc .i64 (a'-1))):=by kernel_rfl
theorem Ar(v0 v1:List Int)(v5:Int):stepT jH (L1 v0 v1 v5)=let a':=decide (0<=v5)&&decide (v5<(length v0:Int));let b':=decide (0<=v5)&&decide (v5<(length v1:Int));.ite (decide (v5>=0)) (.ite a' (.ite b' (.ite (decide (getD v0 (toNat v5) 0<getD v1 (toNat v5) 0)) (.leaf (.dat i64 (-1:Int)) []) (.ite a' (.ite b' (.ite (decide (getD v0 (toNat v5) 0>getD v1 (toNat v5) 0)) (.leaf (.dat i64 (1:Int)) []) (L1 v0 v1 (zc .i64 (v5-1)))) .fail) .fail)) .fail) .fail) (.leaf (.dat i64 (0:Int)) []):=by kernel_rfl
end T170
namespace T172
def T(a b:List Int):Tr:=tree Z0 false 9 172 (Af ([zj i64,zj i64]) (a,b))
def L1(v0 v1:List Int)(v5n:Nat)(v6:Int)(o0:List Int):Tr:=re ((T [] []).L) (AG 72 [(0,.dat (zj i64) v0),(1,.dat (zj i64) v1),(5,.sl 0 1 0 v5n none),(6,.dat i64 v6)] [(0,.arr false 3 i64 o0)] 1)
theorem Am(a b:List Int):T a b=let a':=(length a:Int)+(length b:Int);let b':=zc .i64 a';.ite (decide (0<=zc .i64 a')&&decide (zc .i64 a'=zc .i64 a')&&decide (8*toNat b'<=281474976710656)&&decide (zc .i64 a'<9223372036854775808)) (L1 a b (toNat b') 0 (replicate (toNat b') 0)) .fail:=by kernel_rfl
def L2(v0 v1:List Int)(v5n:Nat)(v6 v7 v8:Int)(o0:List Int):Tr:=re ((stepT Z0 (L1 [] [] 0 0 [])).L) (AG 72 [(0,.dat (zj i64) v0),(1,.dat (zj i64) v1),(5,.sl 0 1 0 v5n none),(6,.dat i64 v6),(7,.dat i64 v7),(8,.dat i64 v8)] [(0,.arr false 3 i64 o0)] 1)
theorem Ar(v0 v1:List Int)(v5n:Nat)(v6:Int)(o0:List Int):stepT Z0 (L1 v0 v1 v5n v6 o0)=.ite (decide (v6<(length v0:Int))) (L2 v0 v1 v5n v6 0 0 o0) (.ite (decide (0+v5n<=length o0)&&true&&decide (length (take v5n o0)<=20000)) (.leaf (.dat (zj i64) (Aq (take v5n o0))) ([(0,.arr true 3 i64 o0)])) .fail):=by kernel_rfl
theorem AZ(v0 v1:List Int)(v5n:Nat)(v6 v7 v8:Int)(o0:List Int):stepT Z0 (L2 v0 v1 v5n v6 v7 v8 o0)=let c':=decide (0<=zc .i64 (v6+v8))&&decide (zc .i64 (v6+v8)<(↑v5n:Int));let d':=zc .i64 (v6+v8);let i':=(length v1:Int);let a':=zc .i64 (zc .i64 (getD o0 (toNat d') 0+zc .i64 (getD v0 (toNat v6) 0*getD v1 (toNat v8) 0))+v7);let b':=v6+i';let g':=decide (toNat d'<length o0);let e':=decide (0<=zc .i64 b')&&decide (zc .i64 b'<(↑v5n:Int));let f':=zc .i64 b';let h':=decide (toNat f'<length o0);.ite (decide (v8<i')) (.ite c' (.ite g' (.ite (decide (0<=v6)&&decide (v6<(length v0:Int))) (.ite (decide (0<=v8)&&decide (v8<i')) (.ite true (.ite c' (.ite g' (.ite true (L2 v0 v1 v5n v6 (zc .i64 (yq a' 1000000000)) (zc .i64 (v8+1)) (set o0 (toNat d') (yc a' 1000000000))) .fail) .fail) .fail) .fail) .fail) .fail) .fail) .fail) (.ite e' (.ite h' (.ite e' (.ite h' (L1 v0 v1 v5n (zc .i64 (v6+1)) (set o0 (toNat f') (zc .i64 (getD o0 (toNat f') 0+v7)))) .fail) .fail) .fail) .fail):=by kernel_rfl
end T172
namespace T226
def T(a:List Int)(d:Int):Tr:=tree Z0 false 9 226 (Af ([zj i64,zg yp]) (a,d))
def L1(v0:List Int)(v1:Int)(v6n:Nat)(v7 v8:Int)(o0:List Int):Tr:=re ((T [] 0).L) (AG 39 [(0,.dat (zj i64) v0),(1,.dat i64 v1),(6,.sl 0 1 0 v6n none),(7,.dat i64 v7),(8,.dat i64 v8)] [(0,.arr false 3 i64 o0)] 1)
theorem Am(a:List Int)(d:Int):T a d=let a':=(length a:Int);.ite (decide (0<=a')&&decide (a'=a')&&decide (8*toNat a'<=281474976710656)&&decide (a'<9223372036854775808)) (L1 a d (toNat a') 0 (zc .i64 (a'-1)) (replicate (toNat a') 0)) .fail:=by kernel_rfl
theorem Ar(v0:List Int)(v1:Int)(v6n:Nat)(v7 v8:Int)(o0:List Int):stepT Z0 (L1 v0 v1 v6n v7 v8 o0)=let a':=zc .i64 (zc .i64 (v7*1000000000)+getD v0 (toNat v8) 0);.ite (decide (v8>=0)) (.ite (decide (0<=v8)&&decide (v8<(length v0:Int))) (.ite (decide (v1≠0)) (.ite (decide (0<=v8)&&decide (v8<(↑v6n:Int))) (.ite (decide (toNat v8<length o0)) (.ite (decide (v1≠0)) (L1 v0 v1 v6n (yc a' v1) (zc .i64 (v8-1)) (set o0 (toNat v8) (zc .i64 (yq a' v1)))) .fail) .fail) .fail) .fail) .fail) (.ite (decide (0+v6n<=length o0)&&true&&decide (length (take v6n o0)<=20000)) (.leaf (.tup [.dat (zj i64) (Aq (take v6n o0)),.dat i64 v7]) ([(0,.arr true 3 i64 o0)])) .fail):=by kernel_rfl
end T226
namespace T164
def T(a b:List Int):Tr:=tree LV false 9 164 (Af ([zj i64,zj i64]) (a,b))
def L1(v0:List Int)(v8n:Nat)(v9:List Int)(v10:Int)(v11n:Nat)(o1 o0:List Int):Tr:=re ((T [] []).L.R.R.L.L.L.L.L) (AG 206 [(0,.dat (zj i64) v0),(8,.sl 0 1 0 v8n none),(9,.dat (zj i64) v9),(10,.dat i64 v10),(11,.sl 1 1 0 v11n none)] [(1,.arr false 3 i64 o1),(0,.arr true 3 i64 o0)] 2)
theorem Am(a b:List Int):T a b=let c':=(length b:Int);let e':=getD b (toNat (zc .i64 (c'-1))) 0+1;let a':=yq 1000000000 (zc .i64 e');let b':=Ai a*Ai [zc .i64 a'];let d':=By (Ai b*Ai [zc .i64 a']);.ite (A4 a&&A4 b) (.ite (decide (BZ (Ai a) (Ai b)<0)) (.leaf (.tup [.nil,.dat (zj i64) a]) []) (.ite (c'==1) (.ite (decide (0<c')) (.ite (JH a&&decide (0<getD b 0 0)&&decide (getD b 0 0<1000000000)) (.ite (decide (1<=1)&&true&&decide (1<=20000)) (.leaf (.tup [.dat (zj i64) (By (Ai a/getD b 0 0)),.dat (zj i64) (Aq [Ai a % getD b 0 0])]) ([(0,.arr true 3 i64 [Ai a % getD b 0 0])])) .fail) .fail) .fail) (.ite (decide (0<=zc .i64 (c'-1))&&decide (zc .i64 (c'-1)<c')) (.ite (decide (zc .i64 e'≠0)) (.ite (decide (1<=1)&&true&&(Sp.hR b&&Sp.hR [zc .i64 a'])) (.ite (decide (1<=1)&&true&&(Sp.hR a&&Sp.hR [zc .i64 a'])) (.ite (decide ((2*(0+length (By b'))+1000)*8<=281474976710656)) (L1 a 1 d' ((↑(length d'):Int)) (zk 0 (length (By b'))) ([]++By b') ([zc .i64 a'])) .fail) .fail) .fail) .fail) .fail))) .fail:=by kernel_rfl
def L2(v8n:Nat)(v9:List Int)(v10:Int)(v11n v12n:Nat)(v13:Int)(o2 o1 o0:List Int):Tr:=re ((stepT LV (L1 [] 0 [] 0 0 [] [])).R.L) (AG 206 [(8,.sl 0 1 0 v8n none),(9,.dat (zj i64) v9),(10,.dat i64 v10),(11,.sl 1 1 0 v11n none),(12,.sl 2 1 0 v12n none),(13,.dat i64 v13)] [(2,.arr false 3 i64 o2),(1,.arr false 3 i64 o1),(0,.arr true 3 i64 o0)] 3)
theorem Ar(v0:List Int)(v8n:Nat)(v9:List Int)(v10:Int)(v11n:Nat)(o1 o0:List Int):stepT LV (L1 v0 v8n v9 v10 v11n o1 o0)=let a':=(↑v11n:Int)-v10;let b':=zc .i64 a';.ite (decide ((↑v11n:Int)<zc .i64 ((length v0:Int)+1))) (.ite (decide (v11n=length o1)&&decide ((2*(v11n+1)+1000)*8<=281474976710656)) (L1 v0 v8n v9 v10 (zk v11n 1) (o1++[0]) o0) .fail) (.ite (decide (0<=zc .i64 a')&&decide (zc .i64 a'=zc .i64 a')&&decide (8*toNat b'<=281474976710656)&&decide (zc .i64 a'<9223372036854775808)) (L2 v8n v9 v10 v11n (toNat b') (zc .i64 (zc .i64 a'-1)) (replicate (toNat b') 0) o1 o0) .fail):=by kernel_rfl
def L3(v8n:Nat)(v9:List Int)(v10:Int)(v11n v12n:Nat)(v13:Int)(o2 o1 o0:List Int)(v0n:Nat)(v1:List Int)(v2 v7:Int)(v9':Int)(v10':Int)(o2':List Int)(o1':List Int)(o0':List Int):Tr:=re ((stepT LV (L2 v8n v9 v10 v11n v12n v13 o2 o1 o0)).L.L.L.L.L.L.L.L.L) (AG 77 [(0,.sl 1 1 0 v0n none),(1,.dat (zj i64) v1),(2,.dat i64 v2),(7,.dat i64 v7),(9,.dat i64 v9'),(10,.dat i64 v10')] [(2,.arr false 3 i64 o2'),(1,.arr false 3 i64 o1'),(0,.arr true 3 i64 o0')] 3)
theorem AZ(v8n:Nat)(v9:List Int)(v10:Int)(v11n v12n:Nat)(v13:Int)(o2 o1 o0:List Int):stepT LV (L2 v8n v9 v10 v11n v12n v13 o2 o1 o0)=let a':=(length v9:Int);let f':=take (toNat v10) o1;let c':=toNat (zc .i64 (a'-1));let d':=zc .i64 (v13+a')-1;let e':=decide (0<=zc .i64 (a'-1))&&decide (zc .i64 (a'-1)<a');let g':=zc .i64 (v13+a');let b':=zc .i64 (zc .i64 (getD o1 (toNat g') 0*1000000000)+getD o1 (toNat (zc .i64 d')) 0);let h':=decide (getD v9 c' 0≠0);.ite (decide (v13>=0)) (.ite (decide (0<=zc .i64 (v13+a'))&&decide (zc .i64 (v13+a')<(↑v11n:Int))) (.ite (decide (toNat g'<length o1)) (.ite (decide (0<=zc .i64 d')&&decide (zc .i64 d'<(↑v11n:Int))) (.ite (decide (toNat (zc .i64 d')<length o1)) (.ite e' (.ite h' (.ite e' (.ite h' (L3 v8n v9 v10 v11n v12n v13 o2 o1 o0 v11n v9 v13 (a') (zc .i64 (yq b' (getD v9 c' 0))) (yc b' (getD v9 c' 0)) o2 o1 o0) .fail) .fail) .fail) .fail) .fail) .fail) .fail) .fail) (.ite (decide (0<=v10)&&true&&decide (0<=toNat v10)&&decide (toNat v10<=yb none v11n)&&decide (yb none v11n<=yb none v11n)&&true) (.ite (decide (0<(↑v8n:Int))) (.ite (decide (0<length o0)) (.ite (decide (0+toNat v10<=length o1)&&true&&decide (length f'<=20000)) (.ite (JH (Aq f')&&decide (0<getD o0 0 0)&&decide (getD o0 0 0<1000000000)) (.ite (decide (0+v12n<=length o2)&&true&&decide (length (take v12n o2)<=20000)) (.leaf (.tup [.dat (zj i64) (Aq (take v12n o2)),.dat (zj i64) (By (Ai (Aq f')/getD o0 0 0))]) ([(2,.arr true 3 i64 o2),(1,.arr true 3 i64 o1),(0,.arr true 3 i64 o0)])) .fail) .fail) .fail) .fail) .fail) .fail):=by kernel_rfl
def L4(v8n:Nat)(v9:List Int)(v10:Int)(v11n v12n:Nat)(v13 v14 v15 v16:Int)(o2 o1 o0:List Int):Tr:=re ((stepT LV (L3 0 [] 0 0 0 0 [] [] [] 0 [] 0 0 0 0 [] [] [])).L.L.L) (AG 206 [(8,.sl 0 1 0 v8n none),(9,.dat (zj i64) v9),(10,.dat i64 v10),(11,.sl 1 1 0 v11n none),(12,.sl 2 1 0 v12n none),(13,.dat i64 v13),(14,.dat i64 v14),(15,.dat i64 v15),(16,.dat i64 v16)] [(2,.arr false 3 i64 o2),(1,.arr false 3 i64 o1),(0,.arr true 3 i64 o0)] 3)
theorem C2(v8n:Nat)(v9:List Int)(v10:Int)(v11n v12n:Nat)(v13:Int)(o2 o1 o0:List Int)(v0n:Nat)(v1:List Int)(v2 v7:Int)(v9':Int)(v10':Int)(o2':List Int)(o1':List Int)(o0':List Int):stepT LV (L3 v8n v9 v10 v11n v12n v13 o2 o1 o0 v0n v1 v2 v7 v9' v10' o2' o1' o0')=let b':=zc .i64 (v2+v7)-2;let c':=v10'+getD v1 (toNat (zc .i64 (v7-1))) 0;let d':=zc .i64 (v9'-1);let a':Tr:=.ite (decide (0<=zc .i64 (v7-1))&&decide (zc .i64 (v7-1)<(length v1:Int))) (.ite (decide (zc .i64 c'>=1000000000)) (L4 v8n v9 v10 v11n v12n v13 d' 0 0 o2' o1' o0') (L3 v8n v9 v10 v11n v12n v13 o2 o1 o0 v0n v1 v2 v7 d' (zc .i64 c') o2' o1' o0')) .fail;.ite (decide (v9'>=1000000000)) a' (.ite (decide (0<=zc .i64 (v7-2))&&decide (zc .i64 (v7-2)<(length v1:Int))) (.ite (decide (0<=zc .i64 b')&&decide (zc .i64 b'<(↑v0n:Int))) (.ite (decide (toNat (zc .i64 b')<length o1')) (.ite (decide (zc .i64 (v9'*getD v1 (toNat (zc .i64 (v7-2))) 0)>zc .i64 (zc .i64 (v10'*1000000000)+getD o1' (toNat (zc .i64 b')) 0))) a' (L4 v8n v9 v10 v11n v12n v13 v9' 0 0 o2' o1' o0')) .fail) .fail) .fail):=by kernel_rfl
def L5(v8n:Nat)(v9:List Int)(v10:Int)(v11n v12n:Nat)(v13 v14 v19 v20:Int)(o2 o1 o0:List Int):Tr:=re ((stepT LV (L4 0 [] 0 0 0 0 0 0 0 [] [] [])).R.L.L.L.L.L.L.L) (AG 206 [(8,.sl 0 1 0 v8n none),(9,.dat (zj i64) v9),(10,.dat i64 v10),(11,.sl 1 1 0 v11n none),(12,.sl 2 1 0 v12n none),(13,.dat i64 v13),(14,.dat i64 v14),(19,.dat i64 v19),(20,.dat i64 v20)] [(2,.arr false 3 i64 o2),(1,.arr false 3 i64 o1),(0,.arr true 3 i64 o0)] 3)
theorem DD(v8n:Nat)(v9:List Int)(v10:Int)(v11n v12n:Nat)(v13 v14 v15 v16:Int)(o2 o1 o0:List Int):stepT LV (L4 v8n v9 v10 v11n v12n v13 v14 v15 v16 o2 o1 o0)=let c':=decide (0<=zc .i64 (v16+v13))&&decide (zc .i64 (v16+v13)<(↑v11n:Int));let d':=decide (0<=zc .i64 (v13+v10))&&decide (zc .i64 (v13+v10)<(↑v11n:Int));let e':=zc .i64 (zc .i64 (v14*getD v9 (toNat v16) 0)+v15);let f':=zc .i64 (v16+v13);let g':=zc .i64 (v13+v10);let j':=zc .i64 (v16+1);let a':=set o1 (toNat g') (zc .i64 (getD o1 (toNat g') 0-v15));let b':=getD o1 (toNat f') 0-yc e' 1000000000;let h':=decide (toNat f'<length o1);let i':=decide (toNat g'<length o1);let k':=yq e' 1000000000;.ite (decide (v16<v10)) (.ite (decide (0<=v16)&&decide (v16<(length v9:Int))) (.ite c' (.ite h' (.ite true (.ite true (.ite (decide (zc .i64 b'<0)) (.ite c' (.ite h' (L4 v8n v9 v10 v11n v12n v13 v14 (zc .i64 (zc .i64 k'+1)) j' o2 (set o1 (toNat f') (zc .i64 (zc .i64 b'+1000000000))) o0) .fail) .fail) (.ite c' (.ite h' (L4 v8n v9 v10 v11n v12n v13 v14 (zc .i64 k') j' o2 (set o1 (toNat f') (zc .i64 b')) o0) .fail) .fail)) .fail) .fail) .fail) .fail) .fail) (.ite d' (.ite i' (.ite d' (.ite i' (.ite d' (.ite (decide (toNat g'<length a')) (.ite (decide (getD a' (toNat g') 0<0)) (L5 v8n v9 v10 v11n v12n v13 (zc .i64 (v14-1)) 0 0 o2 a' o0) (.ite (decide (0<=v13)&&decide (v13<(↑v12n:Int))) (.ite (decide (toNat v13<length o2)) (L2 v8n v9 v10 v11n v12n (zc .i64 (v13-1)) (set o2 (toNat v13) v14) a' o0) .fail) .fail)) .fail) .fail) .fail) .fail) .fail) .fail):=by kernel_rfl
theorem GO(v8n:Nat)(v9:List Int)(v10:Int)(v11n v12n:Nat)(v13 v14 v19 v20:Int)(o2 o1 o0:List Int):stepT LV (L5 v8n v9 v10 v11n v12n v13 v14 v19 v20 o2 o1 o0)=let b':=decide (0<=zc .i64 (v20+v13))&&decide (zc .i64 (v20+v13)<(↑v11n:Int));let c':=decide (0<=zc .i64 (v13+v10))&&decide (zc .i64 (v13+v10)<(↑v11n:Int));let d':=zc .i64 (v20+v13);let e':=zc .i64 (v13+v10);let a':=zc .i64 (zc .i64 (getD o1 (toNat d') 0+getD v9 (toNat v20) 0)+v19);let f':=decide (toNat d'<length o1);let g':=decide (toNat e'<length o1);.ite (decide (v20<v10)) (.ite b' (.ite f' (.ite (decide (0<=v20)&&decide (v20<(length v9:Int))) (.ite true (.ite b' (.ite f' (.ite true (L5 v8n v9 v10 v11n v12n v13 v14 (zc .i64 (yq a' 1000000000)) (zc .i64 (v20+1)) o2 (set o1 (toNat d') (yc a' 1000000000)) o0) .fail) .fail) .fail) .fail) .fail) .fail) .fail) (.ite c' (.ite g' (.ite c' (.ite g' (.ite (decide (0<=v13)&&decide (v13<(↑v12n:Int))) (.ite (decide (toNat v13<length o2)) (L2 v8n v9 v10 v11n v12n (zc .i64 (v13-1)) (set o2 (toNat v13) v14) (set o1 (toNat e') (zc .i64 (getD o1 (toNat e') 0+v19))) o0) .fail) .fail) .fail) .fail) .fail) .fail):=by kernel_rfl
end T164
namespace T92
def T(a b:List Int):Tr:=tree vQ false 9 92 (Af ([zj i64,zj i64]) (a,b))
def L1(v0 v1:List Int):Tr:=re ((T [] [])) (AG 19 [(0,.dat (zj i64) v0),(1,.dat (zj i64) v1)] [] 0)
theorem Am(a b:List Int):T a b=L1 a b:=by kernel_rfl
theorem Ar(v0 v1:List Int):stepT vQ (L1 v0 v1)=.ite (decide ((length v1:Int)>0)) (.ite (A4 v0&&A4 v1&&decide (length v0<=9000)&&decide (length v1<=9000)&&decide (0<Ai v1)) (L1 v1 (By (Ai v0 % Ai v1))) .fail) (.leaf (.dat (zj i64) v0) []):=by kernel_rfl
end T92
namespace T165
def T(s:List UInt8):Tr:=tree jH false 9 165 (Af ([zm]) s)
def L1(v0:List UInt8)(v3 v4:Int):Tr:=re ((T [])) (AG 20 [(0,.dat zm v0),(3,.dat i64 v3),(4,.dat i64 v4)] [] 0)
theorem Am(s:List UInt8):T s=L1 s 0 0:=by kernel_rfl
theorem Ar(v0:List UInt8)(v3 v4:Int):stepT jH (L1 v0 v3 v4)=let a':=decide (v4<(length v0:Int));.ite (a') (.ite (decide (0<=v4)&&a') (L1 v0 (zc .i64 (zc .i64 (zc .i64 (10*v3)+zc .i64 (↑(zn (getD v0 (toNat v4) (0:UInt8))):Int))-48)) (zc .i64 (v4+1))) .fail) (.leaf (.dat i64 v3) []):=by kernel_rfl
end T165
namespace T163
def T(s:List UInt8):Tr:=tree Z4 false 9 163 (Af ([zm]) s)
def L1(v0:List UInt8)(v3:Bool):Tr:=re ((T []).L.L.L.L) (AG 40 [(0,.dat zm v0),(2,.ptr 0 0),(3,.dat zl v3),(4,.nil)] [(0,.box [.bl false,.nil])] 1)
def L2(v0:List UInt8):Tr:=re ((T []).R) (AG 40 [(0,.dat zm v0),(2,.ptr 0 0),(3,.bl false),(4,.nil)] [(0,.box [.bl false,.nil])] 1)
theorem Am(s:List UInt8):T s=let a':=(↑(zn (getD s 0 (0:UInt8))):Int)==45;.ite (decide ((length s:Int)>0)) (.ite (decide (0<(length s:Int))) (.ite a' (.ite (decide (1<=length s)&&decide (length s<=length s)) (L1 (take (z8 (length s) 1) (drop 1 s)) a') .fail) (L1 s a')) .fail) (L2 s):=by kernel_rfl
def L3(v0:List UInt8)(v3:Bool)(v4n:Nat)(o1:List Int):Tr:=re ((stepT Z4 (L1 [] false)).L.L.L.L.L) (AG 40 [(0,.dat zm v0),(2,.ptr 0 0),(3,.dat zl v3),(4,.sl 1 1 0 v4n none)] [(1,.arr false 3 i64 o1),(0,.box [.bl false,.nil])] 2)
theorem Ar(v0:List UInt8)(v3:Bool):stepT Z4 (L1 v0 v3)=let b':=decide (1<=1)&&decide (0<1)&&decide ((2*1+1000)*8<=281474976710656);let e':=(length v0:Int);let g':=BK v3 [Bw v0];let h':=Aq [Bw v0];let a':=zc .i64 (e'-9);let d':=decide (0<=zc .i64 (e'-9));let c':=take (z8 (length v0) (toNat a')) (drop (toNat a') v0);let f':=decide (toNat a'<=length v0);.ite (decide (e'>9)) (.ite (d'&&true&&f'&&decide (length v0<=length v0)) (.ite (DL c') (.ite b' (.ite (d'&&decide (0<=toNat a')&&f') (L3 (take (toNat a') v0) v3 1 ([Bw c'])) .fail) .fail) .fail) .fail) (.ite (DL v0) (.ite b' (.ite (decide (0+1<=1)&&true&&decide (1<=20000)) (.leaf (zt [.dat zl g',.dat (zj i64) h']) ([(zk 1 1,.arr true 3 i64 [Bw v0]),(1,.arr false 3 i64 [Bw v0]),(0,.box [.dat zl g',.dat (zj i64) h'])])) .fail) .fail) .fail):=by kernel_rfl
def L4(v0:List UInt8)(v4n:Nat)(o1:List Int):Tr:=re ((stepT Z4 (L2 [])).L.L.L.L.L) (AG 40 [(0,.dat zm v0),(2,.ptr 0 0),(3,.bl false),(4,.sl 1 1 0 v4n none)] [(1,.arr false 3 i64 o1),(0,.box [.bl false,.nil])] 2)
theorem AZ(v0:List UInt8):stepT Z4 (L2 v0)=let b':=decide (1<=1)&&decide (0<1)&&decide ((2*1+1000)*8<=281474976710656);let e':=BK false [Bw v0];let f':=(length v0:Int);let h':=Aq [Bw v0];let a':=zc .i64 (f'-9);let d':=decide (0<=zc .i64 (f'-9));let c':=take (z8 (length v0) (toNat a')) (drop (toNat a') v0);let g':=decide (toNat a'<=length v0);.ite (decide (f'>9)) (.ite (d'&&true&&g'&&decide (length v0<=length v0)) (.ite (DL c') (.ite b' (.ite (d'&&decide (0<=toNat a')&&g') (L4 (take (toNat a') v0) 1 ([Bw c'])) .fail) .fail) .fail) .fail) (.ite (DL v0) (.ite b' (.ite (decide (0+1<=1)&&true&&decide (1<=20000)) (.leaf (zt [.dat zl e',.dat (zj i64) h']) ([(zk 1 1,.arr true 3 i64 [Bw v0]),(1,.arr false 3 i64 [Bw v0]),(0,.box [.dat zl e',.dat (zj i64) h'])])) .fail) .fail) .fail):=by kernel_rfl
theorem C2(v0:List UInt8)(v3:Bool)(v4n:Nat)(o1:List Int):stepT Z4 (L3 v0 v3 v4n o1)=let c':=decide (1<=1)&&true&&decide (v4n=length o1)&&decide ((2*(v4n+1)+1000)*8<=281474976710656);let f':=o1++[Bw v0];let g':=(length v0:Int);let a':=zc .i64 (g'-9);let b':=take (zk v4n 1) f';let e':=decide (0<=zc .i64 (g'-9));let d':=take (z8 (length v0) (toNat a')) (drop (toNat a') v0);let h':=decide (toNat a'<=length v0);.ite (decide (g'>9)) (.ite (e'&&true&&h'&&decide (length v0<=length v0)) (.ite (DL d') (.ite c' (.ite (e'&&decide (0<=toNat a')&&h') (L3 (take (toNat a') v0) v3 (zk v4n 1) (o1++[Bw d'])) .fail) .fail) .fail) .fail) (.ite (DL v0) (.ite c' (.ite (decide (0+zk v4n 1<=length f')&&true&&decide (length b'<=20000)) (.leaf (zt [.dat zl (BK v3 b'),.dat (zj i64) (Aq b')]) ([(zk 2 1,.arr true 3 i64 f'),(2,.arr false 3 i64 [Bw v0]),(0,.box [.dat zl (BK v3 b'),.dat (zj i64) (Aq b')])])) .fail) .fail) .fail):=by kernel_rfl
theorem DD(v0:List UInt8)(v4n:Nat)(o1:List Int):stepT Z4 (L4 v0 v4n o1)=let c':=decide (1<=1)&&true&&decide (v4n=length o1)&&decide ((2*(v4n+1)+1000)*8<=281474976710656);let f':=o1++[Bw v0];let g':=(length v0:Int);let a':=zc .i64 (g'-9);let b':=take (zk v4n 1) f';let e':=decide (0<=zc .i64 (g'-9));let d':=take (z8 (length v0) (toNat a')) (drop (toNat a') v0);let h':=decide (toNat a'<=length v0);.ite (decide (g'>9)) (.ite (e'&&true&&h'&&decide (length v0<=length v0)) (.ite (DL d') (.ite c' (.ite (e'&&decide (0<=toNat a')&&h') (L4 (take (toNat a') v0) (zk v4n 1) (o1++[Bw d'])) .fail) .fail) .fail) .fail) (.ite (DL v0) (.ite c' (.ite (decide (0+zk v4n 1<=length f')&&true&&decide (length b'<=20000)) (.leaf (zt [.dat zl (BK false b'),.dat (zj i64) (Aq b')]) ([(zk 2 1,.arr true 3 i64 f'),(2,.arr false 3 i64 [Bw v0]),(0,.box [.dat zl (BK false b'),.dat (zj i64) (Aq b')])])) .fail) .fail) .fail):=by kernel_rfl
end T163
namespace T105n
def T(n:Int):Tr:=tree XF0 false 9 105 (Af ([zg yp]) n)
theorem Am(n:Int):T n=.leaf (zt [.dat i64 n,.nil]) ([(0,.box [.dat i64 n,.nil])]):=by kernel_rfl
end T105n
namespace T176
def T(a b:Int×List Int):Tr:=tree vE false 9 176 (Af ([zo i64 (zh (zg ze)),zo i64 (zh (zg ze))]) (a,b))
def L1(v8:Bool)(v12 v13:List Int)(o2 o1 o0:Int)(o0_1:List Int):Tr:=re ((T (0,[]) (0,[])).L.L.R.L.L.L) (AG 84 [(3,.ptr 0 0),(4,.ptr 1 0),(5,.ptr 2 0),(8,.dat zl v8),(12,.dat (zj (zg ze)) v12),(13,.dat (zj (zg ze)) v13)] [(2,.box [.dat i64 o2,.nil]),(1,.box [.dat i64 o1,.nil]),(0,.box [.dat i64 o0,.dat (zh (zg ze)) o0_1])] 3)
theorem Am(a b:Int×List Int):T a b=let b':=zh (zg ze);let c':=Bs (Ae (y9 (fst a,snd a)));let d':=Bs (Ae (y9 (fst b,snd b)));let e':=yq (fst a) (fst b);let f':=zc .i64 (yc (fst a) (fst b)+fst b);let h':=yc (fst a) (fst b);let i':=zk (zk 0 1) 1;let a':Tr:=.ite (Dh (fst a,snd a)) (.ite (Dh (fst b,snd b)) (.ite (RW c' d') (L1 (decide (y9 (fst a,snd a)<0)) (Bs (Ao c'/Ao d')) (Bs (Ao c' % Ao d')) 0 0 (fst b) (snd b)) .fail) .fail) .fail;let g':=zc .i64 (zc .i64 e'-1);.ite (!decide (0<length (snd a))) (.ite (!decide (0<length (snd b))) (.ite (fst a !=(-9223372036854775808)) (.ite (decide (fst b≠0)) (.ite (decide (fst b≠0)) (.ite (decide (yc (fst a) (fst b)<0)) (.leaf (.tup [zt [.dat i64 g',.nil],zt [.dat i64 f',.nil]]) ([(zk i' 1,.box [.dat i64 f',.nil]),(zk (zk 0 1) 1,.box [.dat i64 g',.nil]),(zk 0 1,.box [.dat i64 (fst b),.dat b' (snd b)]),(0,.box [.dat i64 (fst a),.dat b' (snd a)])])) (.leaf (.tup [zt [.dat i64 (zc .i64 e'),.nil],zt [.dat i64 h',.nil]]) ([(zk i' 1,.box [.dat i64 h',.nil]),(zk (zk 0 1) 1,.box [.dat i64 (zc .i64 e'),.nil]),(zk 0 1,.box [.dat i64 (fst b),.dat b' (snd b)]),(0,.box [.dat i64 (fst a),.dat b' (snd a)])]))) .fail) .fail) a') a') a':=by kernel_rfl
def L2(o4:Int)(o4_1:List Int)(o3:Int)(o3_1:List Int)(o2 o1 o0:Int)(o0_1:List Int):Tr:=re ((stepT vE (L1 false [] [] 0 0 0 [])).L.L) (AG 84 [(3,.ptr 0 0),(4,.ptr 1 0),(5,.ptr 2 0),(14,.ptr 3 0),(15,.ptr 4 0)] [(4,.box [.dat i64 o4,.dat (zh (zg ze)) o4_1]),(3,.box [.dat i64 o3,.dat (zh (zg ze)) o3_1]),(2,.box [.dat i64 o2,.nil]),(1,.box [.dat i64 o1,.nil]),(0,.box [.dat i64 o0,.dat (zh (zg ze)) o0_1])] 5)
theorem Ar(v8:Bool)(v12 v13:List Int)(o2 o1 o0:Int)(o0_1:List Int):stepT vE (L1 v8 v12 v13 o2 o1 o0 o0_1)=let a':=Sp.sg v8 (Ao v13);let b':=Sp.sg v8 (Ao v12);.ite (B5 v12) (.ite (B5 v13) (L2 (Cw a') (Cu a') (Cw b') (Cu b') o2 o1 o0 o0_1) .fail) .fail:=by kernel_rfl
theorem AZ(o4:Int)(o4_1:List Int)(o3:Int)(o3_1:List Int)(o2 o1 o0:Int)(o0_1:List Int):stepT vE (L2 o4 o4_1 o3 o3_1 o2 o1 o0 o0_1)=let a':=zh (zg ze);let b':=eN (o3,o3_1) (1,Cv 1);let c':=gD (o3,o3_1) (1,Cv 1);let d':=H2 (o4,o4_1) (o0,o0_1);let e':=Iu (o4,o4_1) (o0,o0_1);.ite (Dh (o4,o4_1)) (.ite (decide (HO (o4,o4_1)<0)) (.ite true (.ite (A6 (o3,o3_1)&&A6 (1,Cv 1)) (.ite (A6 (o4,o4_1)&&A6 (o0,o0_1)) (.leaf (.tup [zt [.dat i64 b',.dat a' c'],zt [.dat i64 d',.dat a' e']]) ([(4,.box [.dat i64 d',.dat a' e']),(3,.box [.dat i64 b',.dat a' c']),(2,.box [.dat i64 d',.dat a' e']),(1,.box [.dat i64 b',.dat a' c']),(0,.box [.dat i64 o0,.dat a' o0_1])])) .fail) .fail) .fail) (.leaf (.tup [zt [.dat i64 o3,.dat a' o3_1],zt [.dat i64 o4,.dat a' o4_1]]) ([(4,.box [.dat i64 o4,.dat a' o4_1]),(3,.box [.dat i64 o3,.dat a' o3_1]),(2,.box [.dat i64 o4,.dat a' o4_1]),(1,.box [.dat i64 o3,.dat a' o3_1]),(0,.box [.dat i64 o0,.dat a' o0_1])]))) .fail:=by kernel_rfl
end T176
namespace T152
def T(a b:Int×List Int):Tr:=tree xO false 9 152 (Af ([zo i64 (zh (zg ze)),zo i64 (zh (zg ze))]) (a,b))
def L1(o2 o1:Int)(o1_1:List Int)(o0:Int)(o0_1:List Int):Tr:=re ((T (0,[]) (0,[])).L.L) (AG 23 [(2,.ptr 0 0),(3,.ptr 1 0),(4,.ptr 2 0)] [(2,.box [.dat i64 o2,.nil]),(1,.box [.dat i64 o1,.dat (zh (zg ze)) o1_1]),(0,.box [.dat i64 o0,.dat (zh (zg ze)) o0_1])] 3)
theorem Am(a b:Int×List Int):T a b=.ite (Dh (fst a,snd a)) (.ite (Dh (fst b,snd b)) (L1 0 (Om (fst b,snd b)) (Pp (fst b,snd b)) (Om (fst a,snd a)) (Pp (fst a,snd a))) .fail) .fail:=by kernel_rfl
theorem Ar(o2 o1:Int)(o1_1:List Int)(o0:Int)(o0_1:List Int):stepT xO (L1 o2 o1 o1_1 o0 o0_1)=let a':=zh (zg ze);.ite (Dh (o1,o1_1)) (.ite (HO (o1,o1_1) !=0) (.ite (A6 (o0,o0_1)&&A6 (o1,o1_1)&&decide (0<y9 (o1,o1_1))) (L1 o2 (Tq (o0,o0_1) (o1,o1_1)) (UB (o0,o0_1) (o1,o1_1)) o1 o1_1) .fail) (.leaf (zt [.dat i64 o0,.dat a' o0_1]) ([(2,.box [.dat i64 o0,.dat a' o0_1]),(1,.box [.dat i64 o1,.dat a' o1_1]),(0,.box [.dat i64 o0,.dat a' o0_1])]))) .fail:=by kernel_rfl
end T152
namespace T216
def T(a:Int×List Int)(k:Int):Tr:=tree vC false 9 216 (Af ([zo i64 (zh (zg ze)),zg yp]) (a,k))
def L1(v1 o2:Int)(o2_1:List Int)(o1 o0:Int)(o0_1:List Int):Tr:=re ((T (0,[]) 0).L) (AG 23 [(1,.dat i64 v1),(2,.ptr 0 0),(4,.ptr 1 0),(5,.ptr 2 0)] [(2,.box [.dat i64 o2,.dat (zh (zg ze)) o2_1]),(1,.box [.dat i64 o1,.nil]),(0,.box [.dat i64 o0,.dat (zh (zg ze)) o0_1])] 3)
theorem Am(a:Int×List Int)(k:Int):T a k=.ite true (L1 k 1 (Cv 1) 0 (fst a) (snd a)) .fail:=by kernel_rfl
theorem Ar(v1 o2:Int)(o2_1:List Int)(o1 o0:Int)(o0_1:List Int):stepT vC (L1 v1 o2 o2_1 o1 o0 o0_1)=let a':=zh (zg ze);let b':=Int.fdiv v1 (2^1);let c':=A6 (o0,o0_1)&&A6 (o0,o0_1);let d':=EW (o2,o2_1) (o0,o0_1);let e':=EK (o2,o2_1) (o0,o0_1);let f':=EW (o0,o0_1) (o0,o0_1);let g':=EK (o0,o0_1) (o0,o0_1);.ite (decide (v1>0)) (.ite (Hc yp v1 1==1) (.ite (A6 (o2,o2_1)&&A6 (o0,o0_1)) (.ite (decide (v1>1)) (.ite c' (.ite true (L1 b' d' e' o1 f' g') .fail) .fail) (.ite true (L1 b' d' e' o1 o0 o0_1) .fail)) .fail) (.ite (decide (v1>1)) (.ite c' (.ite true (L1 b' o2 o2_1 o1 f' g') .fail) .fail) (.ite true (L1 b' o2 o2_1 o1 o0 o0_1) .fail))) (.leaf (zt [.dat i64 o2,.dat a' o2_1]) ([(2,.box [.dat i64 o2,.dat a' o2_1]),(1,.box [.dat i64 o2,.dat a' o2_1]),(0,.box [.dat i64 o0,.dat a' o0_1])])):=by kernel_rfl
end T216
namespace T230
def T(a b:List Int):Tr:=tree Jq false 9 230 (Af ([zj (zg ze),zj (zg ze)]) (a,b))
def L1(v0 v1:List Int)(v6n:Nat)(v7 v8:Int)(o0:List Int):Tr:=re ((T [] []).L.R.L.L) (AG 137 [(0,.dat (zj (zg ze)) v0),(1,.dat (zj (zg ze)) v1),(6,.sl 0 1 0 v6n none),(7,.dat (zg ze) v7),(8,.dat i64 v8)] [(0,.arr false 130 (zg ze) o0)] 1)
def L2(a b:List Int)(v1:Int)(v5n:Nat)(v12:List Int)(v13 v14:Int)(o0:List Int):Tr:=re ((T a b).L.R.R.L.L.L) (AG 40 [(1,.dat i64 v1),(5,.sl 0 1 0 v5n none),(12,.dat (zj (zg ze)) v12),(13,.dat i64 v13),(14,.dat i64 v14)] [(0,.arr false 130 (zg ze) o0)] 1)
theorem Am(a b:List Int):T a b=let a':=(length b:Int);let b':=(length a:Int);let c':=zc .i64 (a'+1);let d':=getD b (toNat (zc .i64 (a'-1))) 0;.ite (B5 a&&B5 b) (.ite (decide (BZ (Ao a) (Ao b)<0)) (.leaf (.tup [.nil,.dat (zj (zg ze)) a]) []) (.ite (a'==1) (.ite (decide (0<=b')&&decide (b'=b')&&decide (8*toNat b'<=281474976710656)&&decide (b'<9223372036854775808)) (L1 a b (toNat b') 0 (zc .i64 (b'-1)) (replicate (toNat b') 0)) .fail) (.ite (decide (0<=zc .i64 (a'-1))&&decide (zc .i64 (a'-1)<a')) (.ite (zy d') (.ite (decide (0<=zc .i64 (a'+1))&&decide (zc .i64 (a'+1)=zc .i64 (a'+1))&&decide (8*toNat c'<=281474976710656)&&decide (zc .i64 (a'+1)<9223372036854775808)) (L2 a b (Sp.lz d') (toNat c') b (a') 0 (replicate (toNat c') 0)) .fail) .fail) .fail))) .fail:=by kernel_rfl
theorem Ar(v0 v1:List Int)(v6n:Nat)(v7 v8:Int)(o0:List Int):stepT Jq (L1 v0 v1 v6n v7 v8 o0)=let a':=zg ze;let b':=getD v0 (toNat v8) 0;.ite (decide (v8>=0)) (.ite (decide (0<=v8)&&decide (v8<(length v0:Int))) (.ite (decide (0<(length v1:Int))) (.ite (zy v7&&zy b'&&zy (getD v1 0 0)&&decide (v7<getD v1 0 0)) (.ite (decide (0<=v8)&&decide (v8<(↑v6n:Int))) (.ite (decide (toNat v8<length o0)) (L1 v0 v1 v6n (Sp.dr v7 b' (getD v1 0 0)) (zc .i64 (v8-1)) (set o0 (toNat v8) (Sp.dq v7 b' (getD v1 0 0)))) .fail) .fail) .fail) .fail) .fail) (.ite (decide (0+v6n<=length o0)&&true&&CI (take v6n o0)) (.ite (decide (1<=1)&&true&&CI [v7]) (.leaf (.tup [.dat (zj a') (Aq (take v6n o0)),.dat (zj a') (Aq [v7])]) ([(1,.arr true 130 a' [v7]),(0,.arr true 130 a' o0)])) .fail) .fail):=by kernel_rfl
def L3(a b:List Int)(v1:Int)(v5n:Nat)(v12:List Int)(v13 v14:Int)(o0:List Int)(v1':Int)(v5n':Nat)(v12':List Int)(v13':Int)(v14':Int)(o1:List Int)(o0':List Int):Tr:=re ((stepT Jq (L2 a b v1 v5n v12 v13 v14 o0)).R.L.L) (AG 40 [(1,.dat i64 v1'),(5,.sl 1 1 0 v5n' none),(12,.dat (zj (zg ze)) v12'),(13,.dat i64 v13'),(14,.dat i64 v14')] [(1,.arr false 130 (zg ze) o1),(0,.arr true 130 (zg ze) o0')] 2)
theorem AZ(a b:List Int)(v1:Int)(v5n:Nat)(v12:List Int)(v13 v14:Int)(o0:List Int):stepT Jq (L2 a b v1 v5n v12 v13 v14 o0)=let a':=set o0 (toNat v14) (Yy ze (getD o0 (toNat v14) 0) (zc .u64 (getD v12 (toNat v14) 0*2^yy (toNat v1) 64)));let b':=(length a:Int)+1;let c':=zc .i64 (v14+1);let e':=decide (0<=v14)&&decide (v14<(↑v5n:Int));let f':=decide (toNat v14<length o0);let d':=zc .i64 b';.ite (decide (v14<v13)) (.ite (decide (0<=v14)&&decide (v14<(length v12:Int))) (.ite e' (.ite f' (.ite (decide (0<=v1)) (.ite e' (.ite f' (.ite (decide (v1>0)) (.ite (decide (0<=zc .i64 (64-v1))) (.ite (decide (0<=zc .i64 (v14+1))&&decide (zc .i64 (v14+1)<(↑v5n:Int))) (.ite (decide (toNat c'<length a')) (L2 a b v1 v5n v12 v13 c' (set a' (toNat c') (Int.fdiv (getD v12 (toNat v14) 0) (2^yy (toNat (zc .i64 (64-v1))) 64)))) .fail) .fail) .fail) (L2 a b v1 v5n v12 v13 c' a')) .fail) .fail) .fail) .fail) .fail) .fail) (.ite (decide (0+v5n<=length o0)&&true&&CI (take v5n o0)) (.ite (decide (0<=zc .i64 b')&&decide (zc .i64 b'=zc .i64 b')&&decide (8*toNat d'<=281474976710656)&&decide (zc .i64 b'<9223372036854775808)) (L3 a b v1 v5n v12 v13 v14 o0 (Sp.lz (getD b (toNat (zc .i64 ((length b:Int)-1))) 0)) (toNat d') a ((length a:Int)) 0 (replicate (toNat d') 0) o0) .fail) .fail):=by kernel_rfl
def L4(v9:Int)(v10:List Int)(v11n:Nat)(v12:Int)(v13n:Nat)(v14:Int)(o1 o0:List Int):Tr:=re ((stepT Jq (L3 [] [] 0 0 [] 0 0 [] 0 0 [] 0 0 [] [])).R.L) (AG 137 [(9,.dat i64 v9),(10,.dat (zj (zg ze)) v10),(11,.sl 0 1 0 v11n none),(12,.dat i64 v12),(13,.sl 1 1 0 v13n none),(14,.dat i64 v14)] [(1,.arr false 130 (zg ze) o1),(0,.arr false 130 (zg ze) o0)] 2)
theorem C2(a b:List Int)(v1:Int)(v5n:Nat)(v12:List Int)(v13 v14:Int)(o0:List Int)(v1':Int)(v5n':Nat)(v12':List Int)(v13':Int)(v14':Int)(o1:List Int)(o0':List Int):stepT Jq (L3 a b v1 v5n v12 v13 v14 o0 v1' v5n' v12' v13' v14' o1 o0')=let b':=set o1 (toNat v14') (Yy ze (getD o1 (toNat v14') 0) (zc .u64 (getD v12' (toNat v14') 0*2^yy (toNat v1') 64)));let c':=zc .i64 (v14'+1);let e':=decide (0<=v14')&&decide (v14'<(↑v5n':Int));let g':=decide (toNat v14'<length o1);let h':=Aq (take v5n o0);let d':=(↑(length h'):Int);let a':=zc .i64 ((length a:Int)-d')+1;let f':=zc .i64 a';.ite (decide (v14'<v13')) (.ite (decide (0<=v14')&&decide (v14'<(↑(length v12'):Int))) (.ite e' (.ite g' (.ite (decide (0<=v1')) (.ite e' (.ite g' (.ite (decide (v1'>0)) (.ite (decide (0<=zc .i64 (64-v1'))) (.ite (decide (0<=zc .i64 (v14'+1))&&decide (zc .i64 (v14'+1)<(↑v5n':Int))) (.ite (decide (toNat c'<length b')) (L3 a b v1 v5n v12 v13 v14 o0 v1' v5n' v12' v13' c' (set b' (toNat c') (Int.fdiv (getD v12' (toNat v14') 0) (2^yy (toNat (zc .i64 (64-v1'))) 64))) o0') .fail) .fail) .fail) (L3 a b v1 v5n v12 v13 v14 o0 v1' v5n' v12' v13' c' b' o0')) .fail) .fail) .fail) .fail) .fail) .fail) (.ite (decide (0<=zc .i64 a')&&decide (zc .i64 a'=zc .i64 a')&&decide (8*toNat f'<=281474976710656)&&decide (zc .i64 a'<9223372036854775808)) (L4 (Sp.lz (getD b (toNat (zc .i64 ((length b:Int)-1))) 0)) h' v5n' (d') (toNat f') (zc .i64 ((length a:Int)-d')) (replicate (toNat f') 0) o1) .fail):=by kernel_rfl
def L5(v9:Int)(v10:List Int)(v11n:Nat)(v12:Int)(v13n:Nat)(v14:Int)(o1 o0:List Int)(v0o v0n v0c:Nat)(v1:List Int)(v5 v6 v7 v8:Int)(o1':List Int)(o0':List Int):Tr:=re ((stepT Jq (L4 v9 v10 v11n v12 v13n v14 o1 o0)).L.L.L.L.L.L.L.L.L.L) (AG 186 [(0,.sl 0 1 v0o v0n (Option.some v0c)),(1,.dat (zj (zg ze)) v1),(5,.dat i64 v5),(6,.dat (zg ze) v6),(7,.dat (zg ze) v7),(8,.dat (zg ze) v8)] [(1,.arr false 130 (zg ze) o1'),(0,.arr false 130 (zg ze) o0')] 2)
def L6(v9:Int)(v11n:Nat)(v12:Int)(v13n:Nat)(v96 v97:Int)(o1 o0:List Int):Tr:=re ((stepT Jq (L4 0 [] 0 0 0 0 [] [])).R) (AG 137 [(9,.dat i64 v9),(11,.sl 0 1 0 v11n none),(12,.dat i64 v12),(13,.sl 1 1 0 v13n none),(96,.dat i64 v96),(97,.dat i64 v97)] [(1,.arr false 130 (zg ze) o1),(0,.arr false 130 (zg ze) o0)] 2)
theorem DD(v9:Int)(v10:List Int)(v11n:Nat)(v12:Int)(v13n:Nat)(v14:Int)(o1 o0:List Int):stepT Jq (L4 v9 v10 v11n v12 v13n v14 o1 o0)=let c':=(length v10:Int);let d':=zk 0 (toNat v14);let k':=z8 (yb none v11n) (toNat v14);let p':=zc .i64 (v14+v12)+1;let a':=toNat (zc .i64 (c'-1));let g':=zc .i64 p';let h':=zk (toNat c') d';let l':=decide (zk (toNat c') d'<length o0);let n':=decide (0<=zc .i64 (c'-1));let b':=z8 (toNat g') (toNat v14);let e':=n'&&decide (zc .i64 (c'-1)<c');let f':=getD o0 (zk a' d') 0;let j':=getD v10 a' 0;let o':=decide (zk a' d'<length o0);let q':=getD o0 h' 0;let i':=n'&&decide (zc .i64 (c'-1)<(↑b':Int));let m':=decide (0<=c')&&decide (c'<(↑b':Int));.ite (decide (v14>=0)) (.ite (decide (0<=v14)&&decide (0<=zc .i64 p')&&true&&decide (toNat v14<=toNat g')&&decide (toNat g'<=yb none v11n)&&decide (yb none v11n<=yb none v11n)&&true) (.ite m' (.ite l' (.ite e' (.ite (decide (getD o0 h' 0>=getD v10 a' 0)) (.ite i' (.ite o' (.ite e' (.ite (zy f'&&zy j'&&decide ((0:y8 (BC [u64]))<=0)&&decide (0<=(1:y8 (BC [u64])))) (L5 v9 v10 v11n v12 v13n v14 o1 o0 d' b' k' v10 (c') 18446744073709551615 (HN f' j' 0) (Pa f' j' 0) o1 o0) .fail) .fail) .fail) .fail) (.ite m' (.ite l' (.ite i' (.ite o' (.ite e' (.ite (zy q'&&zy f'&&zy j'&&decide (getD o0 h' 0<getD v10 a' 0)) (L5 v9 v10 v11n v12 v13n v14 o1 o0 d' b' k' v10 (c') (Sp.dq q' f' j') (Sp.dr q' f' j') 0 o1 o0) .fail) .fail) .fail) .fail) .fail) .fail)) .fail) .fail) .fail) .fail) (L6 v9 v11n v12 v13n v12 0 o1 o0):=by kernel_rfl
def L7(v9:Int)(v10:List Int)(v11n:Nat)(v12:Int)(v13n:Nat)(v14:Int)(o1 o0:List Int)(v0o v0n v0c:Nat)(v1:List Int)(v5 v6 v11:Int)(v12':Int)(v104 v105:Int)(o1':List Int)(o0':List Int):Tr:=re ((stepT Jq (L5 v9 v10 v11n v12 v13n v14 o1 o0 0 0 0 [] 0 0 0 0 [] [])).L.L.L.L) (AG 186 [(0,.sl 0 1 v0o v0n (Option.some v0c)),(1,.dat (zj (zg ze)) v1),(5,.dat i64 v5),(6,.dat (zg ze) v6),(11,.dat (zg ze) v11),(12,.dat (zg ze) v12'),(104,.dat i64 v104),(105,.dat i64 v105)] [(1,.arr false 130 (zg ze) o1'),(0,.arr false 130 (zg ze) o0')] 2)
theorem GO(v9:Int)(v10:List Int)(v11n:Nat)(v12:Int)(v13n:Nat)(v14:Int)(o1 o0:List Int)(v0o v0n v0c:Nat)(v1:List Int)(v5 v6 v7 v8:Int)(o1':List Int)(o0':List Int):stepT Jq (L5 v9 v10 v11n v12 v13n v14 o1 o0 v0o v0n v0c v1 v5 v6 v7 v8 o1' o0')=let b':=toNat (zc .i64 (v5-2));let c':=L7 v9 v10 v11n v12 v13n v14 o1 o0 v0o v0n v0c v1 v5 v6 0 0 v5 0 o1' o0';let d':=getD v1 (toNat (zc .i64 (v5-1))) 0;let f':=decide (0<=zc .i64 (v5-2));let a':Tr:=.ite (decide (0<=zc .i64 (v5-1))&&decide (zc .i64 (v5-1)<(length v1:Int))) (.ite (zy v7&&zy d'&&decide ((0:y8 (BC [u64]))<=0)&&decide (0<=(1:y8 (BC [u64])))) (L5 v9 v10 v11n v12 v13n v14 o1 o0 v0o v0n v0c v1 v5 (zc .u64 (v6-1)) (HN v7 d' 0) (Pa v7 d' 0) o1' o0') .fail) .fail;let e':=getD v1 b' 0;.ite (v8==0) (.ite (f'&&decide (zc .i64 (v5-2)<(length v1:Int))) (.ite (zy v6&&zy e') (.ite (decide (QL v6 e'<v7)) c' (.ite (QL v6 e'==v7) (.ite (f'&&decide (zc .i64 (v5-2)<(↑v0n:Int))) (.ite (decide (zk b' v0o<length o0')) (.ite (decide (Ia v6 e'<=getD o0' (zk b' v0o) 0)) c' a') .fail) .fail) a')) .fail) .fail) c':=by kernel_rfl
theorem HP(v9:Int)(v11n:Nat)(v12:Int)(v13n:Nat)(v96 v97:Int)(o1 o0:List Int):stepT Jq (L6 v9 v11n v12 v13n v96 v97 o1 o0)=let a':=set o0 (toNat v97) (Int.fdiv (getD o0 (toNat v97) 0) (2^yy (toNat v9) 64));let b':=decide (0<=v97)&&decide (v97<(↑v11n:Int));let c':=zc .i64 (v97+1);let d':=zg ze;let e':=decide (zc .i64 (v97+1)<(↑v11n:Int));let g':=decide (toNat v97<length o0);let f':=L6 v9 v11n v12 v13n v96 c' o1 a';let h':=decide (toNat v97<length a');.ite (decide (v97<v96)) (.ite b' (.ite g' (.ite (decide (0<=v9)) (.ite b' (.ite g' (.ite (decide (v9>0)) (.ite (e') (.ite b' (.ite h' (.ite (decide (0<=zc .i64 (v97+1))&&e') (.ite (decide (toNat c'<length a')) (.ite (decide (0<=zc .i64 (64-v9))) (.ite b' (.ite h' (L6 v9 v11n v12 v13n v96 c' o1 (set a' (toNat v97) (Yy ze (getD a' (toNat v97) 0) (zc .u64 (getD a' (toNat c') 0*2^yy (toNat (zc .i64 (64-v9))) 64))))) .fail) .fail) .fail) .fail) .fail) .fail) .fail) f') f') .fail) .fail) .fail) .fail) .fail) (.ite (decide (0<=v12)&&true&&decide (0<=toNat v12)&&decide (toNat v12<=yb none v11n)&&decide (yb none v11n<=yb none v11n)&&true) (.ite (decide (0+v13n<=length o1)&&true&&CI (take v13n o1)) (.ite (decide (0+toNat v12<=length o0)&&true&&CI (take (toNat v12) o0)) (.leaf (.tup [.dat (zj d') (Aq (take v13n o1)),.dat (zj d') (Aq (take (toNat v12) o0))]) ([(1,.arr true 130 d' o1),(0,.arr true 130 d' o0)])) .fail) .fail) .fail):=by kernel_rfl
def L8(v9:Int)(v10:List Int)(v11n:Nat)(v12:Int)(v13n:Nat)(v14:Int)(o1 o0:List Int)(v0o v0n v0c:Nat)(v1:List Int)(v5 v6 v17 v156 v157:Int)(o1':List Int)(o0':List Int):Tr:=re ((stepT Jq (L7 v9 v10 v11n v12 v13n v14 o1 o0 0 0 0 [] 0 0 0 0 0 0 [] [])).R.L.L.L.L.L.R) (AG 186 [(0,.sl 0 1 v0o v0n (Option.some v0c)),(1,.dat (zj (zg ze)) v1),(5,.dat i64 v5),(6,.dat (zg ze) v6),(17,.dat (zg ze) v17),(156,.dat i64 v156),(157,.dat i64 v157)] [(1,.arr false 130 (zg ze) o1'),(0,.arr false 130 (zg ze) o0')] 2)
theorem F9(v9:Int)(v10:List Int)(v11n:Nat)(v12:Int)(v13n:Nat)(v14:Int)(o1 o0:List Int)(v0o v0n v0c:Nat)(v1:List Int)(v5 v6 v11:Int)(v12':Int)(v104 v105:Int)(o1':List Int)(o0':List Int):stepT Jq (L7 v9 v10 v11n v12 v13n v14 o1 o0 v0o v0n v0c v1 v5 v6 v11 v12' v104 v105 o1' o0')=let b':=zk (toNat v5) v0o;let d':=getD v1 (toNat v105) 0;let e':=decide (zk (toNat v105) v0o<length o0');let g':=decide (zk (toNat v5) v0o<length o0');let h':=decide (0<=v105)&&decide (v105<(↑v0n:Int));let i':=(0:y8 (BC [u64]));let j':=(1:y8 (BC [u64]));let k':=decide (0<=v5)&&decide (v5<(↑v0n:Int));let n':=zk (toNat v105) v0o;let a':=Ia v6 d';let c':=getD o0' n' 0;let m':=getD o0' b' 0;let f':=set o0' b' (S2 m' v12' v11);let l':=HN a' v12' 0;.ite (decide (v105<v104)) (.ite (decide (0<=v105)&&decide (v105<(length v1:Int))) (.ite (zy v6&&zy d') (.ite (zy a'&&zy v12'&&decide (i'<=0)&&decide (0<=j')) (.ite h' (.ite e' (.ite (zy c'&&zy l'&&decide (i'<=v11)&&decide (v11<=j')) (.ite h' (.ite e' (L7 v9 v10 v11n v12 v13n v14 o1 o0 v0o v0n v0c v1 v5 v6 (PU c' l' v11) (zc .u64 (QL v6 d'+Pa a' v12' 0)) v104 (zc .i64 (v105+1)) o1' (set o0' n' (S2 c' l' v11))) .fail) .fail) .fail) .fail) .fail) .fail) .fail) .fail) (.ite k' (.ite g' (.ite (zy m'&&zy v12'&&decide (i'<=v11)&&decide (v11<=j')) (.ite k' (.ite g' (.ite (PU m' v12' v11==0) (.ite (decide (0<=v14)&&decide (v14<(↑v13n:Int))) (.ite (decide (toNat v14<length o1')) (L4 v9 v10 v11n v12 v13n (zc .i64 (v14-1)) (set o1' (toNat v14) v6) f') .fail) .fail) (L8 v9 v10 v11n v12 v13n v14 o1 o0 v0o v0n v0c v1 v5 v6 0 v5 0 o1' f')) .fail) .fail) .fail) .fail) .fail):=by kernel_rfl
theorem Jz(v9:Int)(v10:List Int)(v11n:Nat)(v12:Int)(v13n:Nat)(v14:Int)(o1 o0:List Int)(v0o v0n v0c:Nat)(v1:List Int)(v5 v6 v17 v156 v157:Int)(o1':List Int)(o0':List Int):stepT Jq (L8 v9 v10 v11n v12 v13n v14 o1 o0 v0o v0n v0c v1 v5 v6 v17 v156 v157 o1' o0')=let b':=decide (zk (toNat v157) v0o<length o0');let c':=getD v1 (toNat v157) 0;let d':=decide (zk (toNat v5) v0o<length o0');let e':=decide (0<=v157)&&decide (v157<(↑v0n:Int));let f':=decide (0<=v5)&&decide (v5<(↑v0n:Int));let g':=zk (toNat v157) v0o;let h':=zk (toNat v5) v0o;let a':=getD o0' g' 0;.ite (decide (v157<v156)) (.ite e' (.ite b' (.ite (decide (0<=v157)&&decide (v157<(length v1:Int))) (.ite (zy a'&&zy c'&&decide ((0:y8 (BC [u64]))<=v17)&&decide (v17<=(1:y8 (BC [u64])))) (.ite e' (.ite b' (L8 v9 v10 v11n v12 v13n v14 o1 o0 v0o v0n v0c v1 v5 v6 (Pa a' c' v17) v156 (zc .i64 (v157+1)) o1' (set o0' g' (HN a' c' v17))) .fail) .fail) .fail) .fail) .fail) .fail) (.ite f' (.ite d' (.ite f' (.ite d' (.ite (decide (0<=v14)&&decide (v14<(↑v13n:Int))) (.ite (decide (toNat v14<length o1')) (L4 v9 v10 v11n v12 v13n (zc .i64 (v14-1)) (set o1' (toNat v14) (zc .u64 (v6-1))) (set o0' h' (zc .u64 (getD o0' h' 0+v17)))) .fail) .fail) .fail) .fail) .fail) .fail):=by kernel_rfl
end T230
end
namespace T230
variable {Q:PV->Ob->Prop}
theorem dqr{r x d:Int}(hd:0<d)(hr:0<=r/\r<d)(hx:0<=x/\x<18446744073709551616):Sp.dq r x d*d+Sp.dr r x d=r*18446744073709551616+x/\0<=Sp.dq r x d/\Sp.dq r x d<18446744073709551616/\0<=Sp.dr r x d/\Sp.dr r x d<d:=by
 unfold Sp.dq Sp.dr;have h:=yo (r*18446744073709551616+x) d;rw[zu]at h;refine⟨h,Int.ediv_nonneg (by omega) (by omega),Int.ediv_lt_of_lt_mul hd (by omega),Int.emod_nonneg _ (by omega),Int.emod_lt_of_pos _ hd⟩
theorem Aj(a:List Int)(d:Int)(ha:Aw Ak a)(hd:0<d/\d<18446744073709551616)(hm:a.length<=20000)(hq:∀q r ob,Aw Ak q->(0<=r/\r<d)->Ao a=Ao q*d+r->Q (.tup [.dat Dc (Aq q),.dat Dc (Aq [r])]) ob):∀(i:Nat) (q:List Int) (r:Int),i+q.length=a.length->Aw Ak q->(0<=r/\r<d)->zw Ak (a.drop i)=zw Ak q*d+r->
  Ends Jq (L1 a [d] a.length r ((i:Int)-1) (yk i 0++q)) Q
 |0,q,r,hl,hdq,hr,he=>by
  have ht:((yk 0 0++q).take a.length)=q:=by
   rw[List.replicate_zero,List.nil_append];exact yn (by omega)
  refine Ends.Av (Ar ..) (Ends.ff (by simp) ?_);rw[ht];refine zr (Aa (by simp;omega) (D5 (by omega) hdq)) (zr (Aa rfl (D5 (by simp) (fun x hx=>by rw[List.mem_singleton]at hx;subst hx;exact⟨hr.1,by show x<18446744073709551616;omega⟩))) (Ends.leaf (hq q r _ hdq hr he)))
 |i+1,q,r,hl,hdq,hr,he=>by
  have e1:(((i+1:Nat):Int)-1)=(i:Int):=by omega
  have gx:=AV ha i;obtain⟨d1,d2,d3,d4,d5⟩:=dqr hd.1 hr (qc gx);have da:a.drop i=a.getD i 0::a.drop (i+1):=by
   rw[zx,yh (by omega)];exact yu (by omega)
  have es:∀x,(yk (i+1) (0:Int)++q).set i x=yk i 0++(x::q):=by
   intro x;rw[List.replicate_succ',ym];exact Di _ _ _ _ (by simp)
  rw[e1];refine Ends.Av (Ar ..) (zr (by simp) ?_);rw[ya,es,wr ((i:Int)-1) (by omega) (by omega)];refine zr (by simp;omega) (zr (by simp) (zr ?_ (zr (by simp;omega) (zr (by simp;omega) ?_))))
  ·exact Aa (Aa (Aa (CB hr.1 (by omega)) gx) (CB (by show 0<=d;omega) hd.2)) (w4 hr.2)
  ·refine Aj a d ha hd hm hq i _ _ (by simp;omega) (fun x hx=>?_) ⟨d4,d5⟩ ?_
   ·rcases List.mem_cons.1 hx with rfl|hx
    ·exact⟨d2,d3⟩
    ·exact hdq x hx
   ·rw[da];show a.getD i 0+(18446744073709551616:Int)*zw Ak (a.drop (i+1))=(Sp.dq r (a.getD i 0) d+(18446744073709551616:Int)*zw Ak q)*d+Sp.dr r (a.getD i 0) d;rw[he,zz,z7,zq];omega
end T230
end Go.Pe
namespace Go.Sp
theorem UK{B P u0 u1 u2 u' v1 v2 v' q r:Int}(hP:0<P)(hv:0<=v')(hu:u'<P)(hq:0<=q)(he:q*v1+r=u0*B+u1)(h:r*B+u2<q*v2):
  ((u0*B+u1)*B+u2)*P+u'<q*((v1*B+v2)*P+v'):=by
 have e:q*(v1*B+v2)=q*v1*B+q*v2:=by rw[z7,zq]
 have e2:(u0*B+u1)*B=q*v1*B+r*B:=by rw[<-he,zz]
 have h1:(u0*B+u1)*B+u2+1<=q*(v1*B+v2):=by rw[e,e2];omega
 have h2:=zp h1 (yf hP);have h3:0<=q*v':=yg hq hv;rw[z7 q, <-zq];rw[zz,yd]at h2;omega
theorem TN{B P u0 u1 u2 u' v1 v2 v' q r:Int}(hP:0<P)(hv:0<=v'/\v'<P)(hu:0<=u')(hq:0<=q/\q<B)(hv1:1<=v1)(hv2:0<=v2)(he:q*v1+r=u0*B+u1)(h:q*v2<=r*B+u2):
  q*((v1*B+v2)*P+v')<((u0*B+u1)*B+u2)*P+u'+((v1*B+v2)*P+v'):=by
 have e:q*(v1*B+v2)=q*v1*B+q*v2:=by rw[z7,zq]
 have e2:(u0*B+u1)*B=q*v1*B+r*B:=by rw[<-he,zz]
 have h1:q*(v1*B+v2)<=(u0*B+u1)*B+u2:=by rw[e,e2];omega
 have h2:=zp h1 (yf hP);have h3:q*v'<=(B-1)*P:=Int.le_trans (ye (yf hv.2) hq.1) (zp (by omega) (yf hP));have h4:B<=v1*B+v2:=by
  have:=zp hv1 (show 0<=B by omega);omega
 have h5:=zp h4 (yf hP);rw[Int.sub_mul,yd]at h3;rw[z7 q, <-zq];omega
theorem HI(b:Int):∀(l:List Int) (i:Nat) (x:Int),i<l.length->val b (l.set i x)=val b l+b^i*(x-l.getD i 0)
 |[],i,x,h=>by simp at h
 |d::l,0,x,_=>by
  show x+b*val b l=d+b*val b l+b^0*(x-d);rw[Int.pow_zero,yd];omega
 |d::l,i+1,x,h=>by
  have:=HI b l i x (by simpa using h);show d+b*val b (l.set i x)=d+b*val b l+b^(i+1)*(x-l.getD i 0);rw[this,z7,yt,zu (b^i) b,zq,Int.add_assoc]
theorem G3{b:Int}{l:List Int}(h:Aw b l)(i:Nat){x:Int}(hx:0<=x/\x<b):Aw b (l.set i x):=by
 intro d hd;rcases List.mem_or_eq_of_mem_set hd with hd|rfl
 ·exact h d hd
 ·exact hx
theorem EN{b:Int}{l r:List Int}(h1:Aw b l)(h2:Aw b r):Aw b (l++r):=by
 intro d hd;rcases List.mem_append.1 hd with hd|hd
 ·exact h1 d hd
 ·exact h2 d hd
theorem JO{b:Int}(hb:0<b){l:List Int}(h:Aw b l)(i:Nat):0<=l.getD i 0/\l.getD i 0<b:=by
 rcases Nat.lt_or_ge i l.length with hi|hi
 ·have:l.getD i 0∈l:=by rw[zx,yh hi];exact List.getElem_mem hi
  exact h _ this
 ·rw[zx,List.getElem?_eq_none hi];exact⟨Int.le_refl _,hb⟩
theorem Ca{l:List Int}{i:Nat}(h:i<l.length):l.drop i=l.getD i 0::l.drop (i+1):=by
 rw[zx,yh h];exact yu h
theorem GG(p r:List Int)(i j:Nat)(h:p.length=j):(p++r).getD (i+j) 0=r.getD i 0:=by
 subst h;rw[zx,zx,List.getElem?_append_right (by omega),yi]
theorem SP(p r:List Int)(i j:Nat)(x:Int)(h:p.length=j):(p++r).set (i+j) x=p++r.set i x:=by
 subst h;rw[List.set_append_right _ _ (by omega),yi]
theorem oY(b:Int)(r:List Int)(k:Nat)(hl:k+3<=r.length)(hz:val b (r.drop (k+3))=0):
  val b r=((r.getD (k+2) 0*b+r.getD (k+1) 0)*b+r.getD k 0)*b^k+val b (r.take k):=by
 have p1:b^(k+1)=b^k*b:=yt ..;have p2:b^(k+2)=b^k*b*b:=by rw[<-p1];exact yt ..
 rw[B7 b r (k+3) hl,hz,AE,AE,AE,p1,p2,yz,y7];generalize b^k=P;generalize r.getD (k+2) 0=x;generalize r.getD (k+1) 0=y;generalize r.getD k 0=z;have e1:P*b*b*x=x*b*b*P:=by rw[zu (P*b*b) x,zu P b,zq b P b,zu P b, <-zq, <-zq]
 have e2:P*b*y=y*b*P:=by rw[zu (P*b) y,zu P b,zq]
 have e3:P*z=z*P:=zu _ _;have e4:((x*b+y)*b+z)*P=x*b*b*P+y*b*P+z*P:=by rw[zz,zz,zz]
 rw[e4];omega
theorem lO(b:Int)(v:List Int)(k:Nat)(hl:v.length=k+2):
  val b v=(v.getD (k+1) 0*b+v.getD k 0)*b^k+val b (v.take k):=by
 have h0:val b (v.drop (k+2))=0:=by rw[List.drop_eq_nil_of_le (by omega)];rfl
 have p1:b^(k+1)=b^k*b:=yt ..;rw[B7 b v (k+2) (by omega),h0,AE,AE,p1,yz,y7];generalize b^k=P;generalize v.getD (k+1) 0=y;generalize v.getD k 0=z;have e2:P*b*y=y*b*P:=by rw[zu (P*b) y,zu P b,zq]
 have e3:P*z=z*P:=zu _ _;rw[e2,e3,zz];omega
theorem Z9{b:Int}(hb:2<=b){v:List Int}(hd:Aw b v)(hn:nz v){k:Nat}(h1:b^k<=val b v)(h2:val b v<b^(k+1)):v.length=k+1:=by
 have hp:=AN (show 0<b by omega) k;have hne:v≠[]:=by rintro rfl;simp[val]at h1;omega
 have a1:=Br (by omega) hd;have a2:=Db (by omega) hd hn hne;rcases Nat.lt_trichotomy v.length (k+1)with h|h|h
 ·have:=AH (show 1<=b by omega) (show v.length<=k by omega);omega
 ·exact h
 ·have:=AH (show 1<=b by omega) (show k+1<=v.length-1 by omega);omega
theorem I8{b:Int}(hb:2<=b){r:List Int}(hd:Aw b r){n:Nat}(hl:n<=r.length)(h:val b r<b^n):val b (r.drop n)=0:=by
 have h0:=AA (show 0<=b by omega) (EB hd n);have h1:=AA (show 0<=b by omega) (AL hd n);rw[B7 b r n hl]at h;have hp:=AN (show 0<b by omega) n;rcases Int.lt_or_le 0 (val b (r.drop n))with g|g
 ·have:=ye (show 1<=val b (r.drop n)by omega) (show 0<=b^n by omega);omega
 ·omega
theorem Q4{b:Int}(hb:2<=b){r:List Int}(hd:Aw b r){n:Nat}(hl:n<=r.length)(h:val b (r.drop n)=0):val b r<b^n:=by
 have:=Br (show 0<b by omega) (AL hd n);rw[List.length_take,Nat.min_eq_left hl]at this;rw[B7 b r n hl,h];omega
theorem eX{b c d x y X:Int}(hc:0<c)(hb:b=c*d):(x+b*(y+b*X))/c=(x/c+(y % c)*d)+b*((y+b*X)/c):=by
 subst hb;have h1:(x+c*d*(y+c*d*X))/c=x/c+d*(y+c*d*X):=by
  rw[zq c d,Int.add_mul_ediv_left _ _ (by omega)]
 have h2:(y+c*d*X)/c=y/c+d*X:=by
  rw[zq c d,Int.add_mul_ediv_left _ _ (by omega)]
 have h3:=yo y c;rw[h1,h2];have e1:d*(y+c*d*X)=d*(c*(y/c)+y % c+c*d*X):=by rw[h3]
 rw[e1,z7,z7,z7 (c*d)];have e2:d*(c*(y/c))=c*d*(y/c):=by rw[<-zq,zu d c]
 have e3:d*(y % c)=(y % c)*d:=zu _ _;have e4:d*(c*d*X)=c*d*(d*X):=by rw[<-zq,zu d (c*d),zq]
 rw[e2,e3,e4];omega
theorem TE{b c d x k:Int}(hc:0<c)(hd:0<d)(hb:b=c*d)(hk:0<=k/\k<c)(hx:0<=x/\x<b):
  (x*c) % b=(x % d)*c/\(x % d)*c+k<b/\0<=(x % d)*c/\0<=x/d/\x/d<c/\(x % d)*c+b*(x/d)=x*c:=by
 subst hb;have h3:=yo x d;have m0:=Int.emod_nonneg x (show d≠0 by omega);have m1:=Int.emod_lt_of_pos x hd;have q0:0<=x/d:=Int.ediv_nonneg hx.1 (by omega);have q1:x/d<c:=Int.ediv_lt_of_lt_mul hd (by have:=hx.2;omega);have p0:0<=(x % d)*c:=yg m0 (by omega);have p1:(x % d)*c<=(d-1)*c:=zp (by omega) (by omega);have p2:(d-1)*c=c*d-c:=by rw[Int.sub_mul,yd,zu]
 have e:(x % d)*c+c*d*(x/d)=x*c:=by
  conv=>rhs;rw[<-h3]
  rw[zz,zq c d,zu c (d*(x/d))];omega
 refine⟨?_,by omega,p0,q0,q1,e⟩;rw[<-e,Int.add_mul_emod_self_left];exact Int.emod_eq_of_lt p0 (by omega)
theorem MA{B P u0 u1 u2 u' v1 v2 v' q r:Int}(hP:0<P)(hB:0<B)(hq:0<=q)(hv:0<=v')(hv2:0<=v2)(hu:u'<P)(hu2:u2<B)(he:q*v1+r=u0*B+u1)(h:r<v1):
  ((u0*B+u1)*B+u2)*P+u'<(q+1)*((v1*B+v2)*P+v'):=by
 have h1:u0*B+u1+1<=(q+1)*v1:=by rw[zz,yd];omega
 have h2:=zp h1 (yf hB);have h3:(u0*B+u1)*B+u2+1<=(q+1)*v1*B:=by
  rw[zz,yd]at h2;omega
 have h4:=zp h3 (yf hP);rw[zz,yd]at h4;have h5:0<=(q+1)*(v2*P):=yg (by omega) (yg hv2 (yf hP));have h6:0<=(q+1)*v':=yg (by omega) hv;have e:(q+1)*((v1*B+v2)*P+v')=(q+1)*v1*B*P+(q+1)*(v2*P)+(q+1)*v':=by
  rw[zz (v1*B),z7,z7];congr 2;rw[zq,zq,zq]
 rw[e];omega
end Go.Sp
namespace Go.Pe
open Sp
open Go.Det
theorem TJ{q x y c b:Int}(hq:zy q=true)(hx:zy x=true)(hy:zy y=true)(hc:zy c=true)(hb:0<=b/\b<=1):
  zy (Ia q x)=true/\zy (HN (Ia q x) c 0)=true/\zc .u64 (QL q x+Pa (Ia q x) c 0)=(q*x+c)/18446744073709551616/\zy ((q*x+c)/18446744073709551616)=true/\
  zy (S2 y (HN (Ia q x) c 0) b)=true/\(0<=PU y (HN (Ia q x) c 0) b/\PU y (HN (Ia q x) c 0) b<=1)/\
  c+b+(S2 y (HN (Ia q x) c 0) b-y)=18446744073709551616*((q*x+c)/18446744073709551616+PU y (HN (Ia q x) c 0) b)-q*x:=by
 have hq:=qc hq;have hx:=qc hx;have hc:=qc hc;have h0:0<=q*x:=yg hq.1 hx.1;have h1:q*x<=18446744073709551615*18446744073709551615:=by
  have a:=ye (show x<=18446744073709551615 by omega) hq.1;have b:=zp (show q<=18446744073709551615 by omega) (show(0:Int)<=18446744073709551615 by omega);omega
 have hl:zy (HN (Ia q x) c 0)=true:=by unfold HN;exact CB (by omega) (by omega)
 obtain⟨s1,s2,s3⟩:=Sp.G4 hy hl hb;refine⟨?_,hl,?_,?_,s1,s2,?_⟩
 ·unfold Ia;exact CB (by omega) (by omega)
 ·unfold Ia QL Pa;rw[K0];generalize q*x=P at*;omega
 ·generalize q*x=P at*;exact CB (by omega) (by omega)
 ·generalize PU y (HN (Ia q x) c 0) b=h at*;generalize S2 y (HN (Ia q x) c 0) b=l at*;unfold HN Ia at s3;generalize q*x=P at*;omega
namespace T230
variable {Q:PV->Ob->Prop}
theorem gw{lo r:List Int}{j:Nat}(h:lo.length=j)(i:Nat):(lo++r).getD (zk i j) 0=r.getD i 0:=GG lo r i j h
theorem sw{lo r:List Int}{j:Nat}(h:lo.length=j)(i:Nat)(x:Int):(lo++r).set (zk i j) x=lo++r.set i x:=SP lo r i j x h
theorem lw{lo r:List Int}{j i:Nat}(h:lo.length=j)(hi:i<r.length):decide (zk i j<(lo++r).length)=true:=by
 refine w4 ?_;show i+j<_;rw[List.length_append];omega
theorem IW(r:List Int)(i n:Nat)(x:Int)(h:i<n):(r.set i x).drop n=r.drop n:=by
 rw[List.drop_set,wd h]
theorem Cg(v9:Int)(v10:List Int)(v11n:Nat)(v12:Int)(v13n:Nat)(o1 o0:List Int)(v0c:Nat)(v:List Int)(n j:Nat)(lo:List Int)(m:Nat)(q W:Int)(o1':List Int)
  (hn:v.length=n) (hn9:n<=9000) (hm:n+1<=m) (hlo:lo.length=j) (hjv:j<v13n) (hj1:j<o1'.length) (hv:Aw Ak v) (hq:zy q=true)
  (h0:∀r:List Int,r.length=m->Aw Ak r->zw Ak (r.drop (n+1))=0->zw Ak r=W-q*zw Ak v->Ends Jq (L4 v9 v10 v11n v12 v13n (zc .i64 ((j:Int)-1)) (o1'.set j q) (lo++r)) Q)
  (h1:∀r:List Int,r.length=m->Aw Ak r->zw Ak (r.drop (n+1))=0->zw Ak r=W-q*zw Ak v+(Ak:Int)^(n+1)->Ends Jq (L8 v9 v10 v11n v12 v13n j o1 o0 j (n+1) v0c v n q 0 n 0 o1' (lo++r)) Q):
  ∀(k i:Nat) (r:List Int) (b c:Int),i+k=n->r.length=m->Aw Ak r->zw Ak (r.drop (n+1))=0->zy c=true->(0<=b/\b<=1)->zw Ak r=W-q*zw Ak (v.take i)+(Ak:Int)^i*(c+b)->
   Ends Jq (L7 v9 v10 v11n v12 v13n j o1 o0 j (n+1) v0c v n q b c n i o1' (lo++r)) Q
 |0,i,r,b,c,hi,hr,hd,hz,hc,hb,he=>by
  have hi:i=n:=by omega
  subst hi;have gy:=AV hd i;obtain⟨s1,s2,s3⟩:=Sp.G4 gy hc hb;have hlw:decide (zk i j<(lo++r).length)=true:=lw hlo (by omega);have t1:(decide ((0:Int)<=(i:Int))&&decide ((i:Int)<((i+1:Nat):Int)))=true:=by simp;omega
  have hv1:v.take i=v:=yn (by omega);have hset:∀x:Int,0<=x/\x<18446744073709551616->(r.set i x).length=m/\Aw Ak (r.set i x)/\zw Ak ((r.set i x).drop (i+1))=0:=fun x hx=>
   ⟨by simp[hr],G3 hd i hx,by rw[IW _ _ _ _ (by omega)];exact hz⟩
  obtain⟨e1,e2,e3⟩:=hset _ (qc s1);have ev:zw Ak (r.set i (S2 (r.getD i 0) c b))=W-q*zw Ak v+(Ak:Int)^(i+1)*PU (r.getD i 0) c b:=by
   rw[HI _ _ _ _ (by omega),he,hv1,KX,Int.add_assoc, <-z7];congr 2;omega
  refine Ends.Av (F9 ..) (Ends.ff (by simp) ?_);rw[ya,ya,gw hlo,sw hlo];refine zr t1 (zr hlw (zr (Aa (Aa (Aa gy hc) (w4 hb.1)) (w4 hb.2)) (zr t1 (zr hlw (Ends.ite (fun c1=>?_) (fun c1=>?_))))))
  ·have c1:PU (r.getD i 0) c b=0:=by simpa using c1
   refine zr (by simp;omega) (zr (w4 hj1) (h0 _ e1 e2 e3 ?_));rw[ev,c1,yz,y7]
  ·have c1:PU (r.getD i 0) c b≠0:=by simpa using c1
   refine h1 _ e1 e2 e3 ?_;rw[ev,show PU (r.getD i 0) c b=1 by omega,Int.mul_one]
 |k+1,i,r,b,c,hi,hr,hd,hz,hc,hb,he=>by
  have gx:=AV hv i;have gy:=AV hd i;obtain⟨m1,m2,m3,m4,m5,m6,m7⟩:=TJ hq gx gy hc hb;have hlw:decide (zk i j<(lo++r).length)=true:=lw hlo (by omega);have t1:(decide ((0:Int)<=(i:Int))&&decide ((i:Int)<((n+1:Nat):Int)))=true:=by simp;omega
  have e2:zc .i64 ((i:Int)+1)=((i+1:Nat):Int):=by rw[wr _ (by omega) (by omega)];omega
  refine Ends.Av (F9 ..) (zr (by simp;omega) ?_);rw[ya,gw hlo,sw hlo,m3,e2];refine zr (by simp;omega) (zr (Aa hq gx) (zr (Aa (Aa (Aa m1 hc) rfl) rfl) (zr t1 (zr hlw (zr (Aa (Aa (Aa gy m2) (w4 hb.1)) (w4 hb.2)) (zr t1 (zr hlw ?_)))))));refine Cg v9 v10 v11n v12 v13n o1 o0 v0c v n j lo m q W o1' hn hn9 hm hlo hjv hj1 hv hq h0 h1 k (i+1) _ _ _ (by omega) (by simp[hr]) (G3 hd i (qc m5)) (by rw[IW _ _ _ _ (by omega)];exact hz) m4 m6 ?_;rw[HI _ _ _ _ (by omega),he,KX,AE,z7 q,Int.mul_left_comm q];have e:(Ak:Int)^i*(c+b)+(Ak:Int)^i*(S2 (r.getD i 0) (HN (Ia q (v.getD i 0)) c 0) b-r.getD i 0)=(Ak:Int)^i*(18446744073709551616*((q*v.getD i 0+c)/18446744073709551616+PU (r.getD i 0) (HN (Ia q (v.getD i 0)) c 0) b))-(Ak:Int)^i*(q*v.getD i 0):=by
   rw[<-z7, <-yx,m7]
  omega
theorem Fj(v9:Int)(v10:List Int)(v11n:Nat)(v12:Int)(v13n:Nat)(o1 o0:List Int)(v0c:Nat)(v:List Int)(n j:Nat)(lo:List Int)(m:Nat)(q W:Int)(o1':List Int)
  (hn:v.length=n) (hn9:n<=9000) (hm:n+1<=m) (hlo:lo.length=j) (hjv:j<v13n) (hj1:j<o1'.length) (hv:Aw Ak v)
  (hW:0<=W+zw Ak v)
  (h0:∀r:List Int,r.length=m->Aw Ak r->zw Ak (r.drop (n+1))=0->zw Ak r=W+zw Ak v->Ends Jq (L4 v9 v10 v11n v12 v13n (zc .i64 ((j:Int)-1)) (o1'.set j (zc .u64 (q-1))) (lo++r)) Q):
  ∀(k i:Nat) (r:List Int) (c:Int),i+k=n->r.length=m->Aw Ak r->zw Ak (r.drop (n+1))=0->(0<=c/\c<=1)->zw Ak r=W+(Ak:Int)^(n+1)+zw Ak (v.take i)-(Ak:Int)^i*c->
   Ends Jq (L8 v9 v10 v11n v12 v13n j o1 o0 j (n+1) v0c v n q c n i o1' (lo++r)) Q
 |0,i,r,c,hi,hr,hd,hz,hc,he=>by
  have hi:i=n:=by omega
  subst hi;have gy:=qc (AV hd i);have hlw:decide (zk i j<(lo++r).length)=true:=lw hlo (by omega);have t1:(decide ((0:Int)<=(i:Int))&&decide ((i:Int)<((i+1:Nat):Int)))=true:=by simp;omega
  have hv1:v.take i=v:=yn (by omega);have gm:0<=(r.getD i 0+c) % 18446744073709551616/\(r.getD i 0+c) % 18446744073709551616<18446744073709551616:=by omega
  have e1:(r.set i ((r.getD i 0+c) % 18446744073709551616)).length=m:=by simp[hr]
  have e2:Aw Ak (r.set i ((r.getD i 0+c) % 18446744073709551616)):=G3 hd i gm;have e3:zw Ak ((r.set i ((r.getD i 0+c) % 18446744073709551616)).drop (i+1))=0:=by rw[IW _ _ _ _ (by omega)];exact hz
  have eb:=Q4 (b:=Ak) (by decide) e2 (n:=i+1) (by omega) e3;refine Ends.Av (Jz ..) (Ends.ff (by simp) ?_);rw[ya,ya,gw hlo,sw hlo,K0 (r.getD i 0+c)];refine zr t1 (zr hlw (zr t1 (zr hlw (zr (by simp;omega) (zr (w4 hj1) (h0 _ e1 e2 e3 ?_))))));have hp:=AN (b:=Ak) (by decide) i;rw[HI _ _ _ _ (by omega),he,hv1]at eb ⊢;rcases show(r.getD i 0+c) % 18446744073709551616=r.getD i 0+c\/(r.getD i 0+c) % 18446744073709551616=r.getD i 0+c-18446744073709551616 by omega with g|g
  ·exfalso;rw[g,show r.getD i 0+c-r.getD i 0=c by omega]at eb;omega
  ·have ep:(Ak:Int)^(i+1)=(Ak:Int)^i*18446744073709551616:=yt ..;rw[g,show r.getD i 0+c-18446744073709551616-r.getD i 0=c-18446744073709551616 by omega,yx,ep];omega
 |k+1,i,r,c,hi,hr,hd,hz,hc,he=>by
  have gx:=AV hv i;have gy:=AV hd i;obtain⟨m1,m2,m3⟩:=K4 gy gx hc;have hlw:decide (zk i j<(lo++r).length)=true:=lw hlo (by omega);have t1:(decide ((0:Int)<=(i:Int))&&decide ((i:Int)<((n+1:Nat):Int)))=true:=by simp;omega
  have e2:zc .i64 ((i:Int)+1)=((i+1:Nat):Int):=by rw[wr _ (by omega) (by omega)];omega
  refine Ends.Av (Jz ..) (zr (by simp;omega) ?_);rw[ya,gw hlo,sw hlo,e2];refine zr t1 (zr hlw (zr (by simp;omega) (zr (Aa (Aa (Aa gy gx) (w4 hc.1)) (w4 hc.2)) (zr t1 (zr hlw ?_)))));refine Fj v9 v10 v11n v12 v13n o1 o0 v0c v n j lo m q W o1' hn hn9 hm hlo hjv hj1 hv hW h0 k (i+1) _ _ (by omega) (by simp[hr]) (G3 hd i (qc m1)) (by rw[IW _ _ _ _ (by omega)];exact hz) m2 ?_;rw[HI _ _ _ _ (by omega),he,KX,AE];have e:(Ak:Int)^i*(HN (r.getD i 0) (v.getD i 0) c-r.getD i 0)-(Ak:Int)^i*c=(Ak:Int)^i*v.getD i 0-(Ak:Int)^i*(18446744073709551616*Pa (r.getD i 0) (v.getD i 0) c):=by
   rw[<-yx, <-yx];congr 1;omega
  omega
theorem lT(v9:Int)(v10:List Int)(v11n:Nat)(v12:Int)(v13n:Nat)(o1 o0:List Int)(v0c:Nat)(v:List Int)(n j:Nat)(lo:List Int)(m:Nat)(r0 o1':List Int)
  (hn:v.length=n) (hn9:n<=9000) (hm:n+1<=m) (hlo:lo.length=j) (hjv:j<v13n) (hj1:j<o1'.length) (hv:Aw Ak v)
  (hr:r0.length=m) (hd:Aw Ak r0) (hz:zw Ak (r0.drop (n+1))=0)
  (hfin:∀(q:Int) (r:List Int),r.length=m->Aw Ak r->(0<=q/\q<18446744073709551616)->zw Ak r<zw Ak v->zw Ak r=zw Ak r0-q*zw Ak v->Ends Jq (L4 v9 v10 v11n v12 v13n (zc .i64 ((j:Int)-1)) (o1'.set j q) (lo++r)) Q)
  (q:Int) (hq:zy q=true) (h1:zw Ak r0<(q+1)*zw Ak v) (h2:q*zw Ak v<zw Ak r0+zw Ak v):
  Ends Jq (L7 v9 v10 v11n v12 v13n j o1 o0 j (n+1) v0c v n q 0 0 n 0 o1' (lo++r0)) Q:=by
 have gq:=qc hq;have hW0:=AA (b:=Ak) (by decide) hd;have hV0:=AA (b:=Ak) (by decide) hv;rw[zz,yd]at h1;refine Cg v9 v10 v11n v12 v13n o1 o0 v0c v n j lo m q (zw Ak r0) o1' hn hn9 hm hlo hjv hj1 hv hq (fun r a b c d=>hfin q r a b gq (by omega) d) (fun r a b c d=>?_) n 0 r0 0 0 (by omega) hr hd hz (by decide) (by decide) (by simp[zw]);have hb:=Q4 (b:=Ak) (by decide) b (n:=n+1) (by omega) c;have hq1:1<=q:=by
  rcases Int.lt_or_le 0 q with g|g
  ·exact g
  ·have:q=0:=by omega
   subst this;rw[Int.zero_mul]at d;omega
 have ew:zc .u64 (q-1)=q-1:=wu _ (by omega) (by omega);refine Fj v9 v10 v11n v12 v13n o1 o0 v0c v n j lo m q (zw Ak r0-q*zw Ak v) o1' hn hn9 hm hlo hjv hj1 hv (by omega) (fun r' a' b' c' d'=>?_) n 0 r 0 (by omega) a b c (by decide) (by rw[d];simp[zw]);rw[ew];refine hfin (q-1) r' a' b' (by omega) (by omega) ?_;rw[d',Int.sub_mul,yd];omega
end T230
end Go.Pe
