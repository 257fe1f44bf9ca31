import Derived.Test.YtmcnicakonagdaaGreatDoorX10
import Derived.Lib.ItoaMem
/- A part of a proof (no law is stated here). Made by program out of texts by AI agents. -/
noncomputable section
open Go.IntKind renaming wrap -> zc, u64 -> zd, u8 -> yf, i64 -> yk
open Go.Pe.Sh renaming int -> ze, nlist -> zf, list -> zg, bool -> zi, str -> zj, pair -> zn, T -> yz
open Nat renaming add -> zh, sub -> zy, add_sub_cancel -> ye
open UInt8 renaming toNat -> zk, ofNat -> yt
open Int renaming mul_le_mul_of_nonneg_right -> zl, mul_assoc -> zm, mul_comm -> zq, add_mul -> zw, mul_add -> zx, toNat_natCast -> zz, tmod -> z7, one_mul -> z8, mul_le_mul_of_nonneg_left -> ya, le_of_lt -> yb, mul_nonneg -> yc, mul_ediv_add_emod -> yj, tdiv -> yn, pow_succ -> yp, mul_sub -> yv, mul_zero -> yx, add_zero -> yy
open Go.Pe.Ends renaming tt -> zo
open Go.Pe.PV renaming agg -> zp
open Go.Sp renaming val -> zr, u64 -> zu, Dp -> yq, first -> yu, A2 -> y7
open List renaming getD_eq_getElem?_getD -> zt, getElem?_eq_getElem -> yd, replicate -> yg, append_assoc -> yh, take_of_length_le -> yi, map -> yo, drop_eq_getElem_cons -> yr
open Option renaming getD -> z6
open Min renaming min -> yw
namespace Go.Sp
def DU(a:List UInt8):Bool:=decide (a.length<=20)&&decide ((Ay (AZ a)).length<=9)&&decide ((AN (AZ a)).length<=9)
def ID(a:List UInt8):Int:=if preB a=true then -AB 0 (Ay (AZ a))else AB 0 (Ay (AZ a))
def Tj(a:List UInt8):Int:=if Bs (AZ a)=true then AB 0 (AN (AZ a))else 1
def Hf(a:List UInt8):Int:=if a=[48]then 0 else if a.getD 0 0=45 then -1 else 1
def Lm(a:List UInt8):List UInt8:=if a=[48]then a else if a.getD 0 0=45 then a.drop 1 else 45::a
def Hv:Nat->Nat->Nat->List UInt8->List UInt8
 |0,_,_,acc=>acc
 |f+1,n,l,acc=>if n=0/\l<=acc.length then acc else Hv f (n/10) l (yt (48+n % 10)::acc)
def H5(n l:Int):List UInt8:=Hv 64 n.toNat l.toNat []
def yV(a b:Int):Bool:=decide (0<=a)&&decide (a<9223372036854775808)&&decide (0<=b)&&decide (b<9223372036854775808)
end Go.Sp
namespace Go.Pe
open Go.Det
def uG:Ap:=⟨[i64,i64],fun i=>Sp.yV i.1 i.2,[i64],fun i=>Sp.gI i.1 i.2,false⟩
def SK:Ap:=⟨[.str],fun s=>decide (s.length<=1000000),[i64],fun s=>Sp.Hf s,false⟩
def bG:Ap:=⟨[.str],fun s=>decide (s.length<=1000000),[.str],fun s=>Sp.Lm s,false⟩
def Pa:Ap:=⟨[i64,i64],fun i=>decide (0<=(i.1:Int))&&decide ((i.1:Int)<9223372036854775808)&&decide (0<=(i.2:Int))&&decide ((i.2:Int)<=20),[.str],fun i=>Sp.H5 i.1 i.2,false⟩
def NI:A6:=aY [(80,[5,7,11,13])] [] [(80,[(5,[5,6]),(7,[5,6]),(11,[5,6,7,8,9]),(13,[6,8,9])])] [(151,SI),(127,OP)]
def XO2:A6:=X7 [(79,SK)]
end Go.Pe
namespace Go.Sp
open Go.Lib
theorem FE(a d:Nat)(ha:0<a)(hd:d<10):decDigits (10*a+d)=decDigits a++[yt (48+d)]:=by
 rw[decDigits,dif_neg (by omega),show(10*a+d)/10=a from by omega,show(10*a+d) % 10=d from by omega]
theorem fA(a d:Nat)(ha:0<a)(hd:d<10):nDigits (10*a+d)=nDigits a+1:=by
 rw[nDigits_big (by omega),show(10*a+d)/10=a from by omega]
def Gd(k b:Nat):List UInt8:=yg (k-nDigits b) 48++decDigits b
theorem Qx(k b d:Nat)(hk:1<=k)(hd:d<10):Gd (k+1) (10*b+d)=Gd k b++[yt (48+d)]:=by
 unfold Gd;rcases Nat.eq_zero_or_pos b with rfl|hb
 ·rw[Nat.mul_zero,Nat.zero_add,nDigits_small hd,decDigits_one hd,nDigits_small (by omega),decDigits_one (by omega)];obtain⟨j,rfl⟩:∃j,k=j+1:=⟨k-1,by omega⟩;have e:(48:UInt8)=yt (48+0):=rfl;rw[ye,ye, <-e,List.replicate_succ',yh]
 ·rw[fA b d hb hd,FE b d hb hd, <-yh,Nat.add_sub_add_right]
theorem RB:∀(k a b:Nat),1<=k->0<a->b<10^k->decDigits (a*10^k+b)=decDigits a++Gd k b
 |0,_,_,h,_,_=>by omega
 |1,a,b,_,ha,hb=>by
  rw[Nat.pow_one]at*;rw[Nat.mul_comm,FE a b ha hb];unfold Gd;rw[nDigits_small hb,decDigits_one hb];rfl
 |k+2,a,b,_,ha,hb=>by
  have h1:b=10*(b/10)+b % 10:=by omega
  have h2:b/10<10^(k+1):=by
   rw[Nat.pow_succ 10 (k+1)]at hb;omega
  have h3:a*10^(k+2)+b=10*(a*10^(k+1)+b/10)+b % 10:=by
   rw[Nat.pow_succ 10 (k+1), <-Nat.mul_assoc];omega
  have hp:0<a*10^(k+1):=Nat.mul_pos ha (Nat.pow_pos (by omega));have ih:=RB (k+1) a (b/10) (by omega) ha h2;have hs:=Qx (k+1) (b/10) (b % 10) (by omega) (by omega);rw[h3,FE _ _ (by omega) (by omega),ih,yh, <-hs, <-h1]
def Cm:Nat->Nat->List (List UInt8)
 |0,_=>[]
 |f+1,v=>if v<10^18 then[decDigits v]else Gd 18 (v % 10^18)::Cm f (v/10^18)
theorem Ia:∀(f v:Nat),v<f->(Cm f v).reverse.flatten=decDigits v
 |0,_,h=>by omega
 |f+1,v,h=>by
  unfold Cm;split
  ·simp
  ·next c=>
   have hp:1<=v/10^18:=by omega
   have h1:v/10^18<f:=by omega
   have h2:=Ia f (v/10^18) h1;rw[List.reverse_cons,List.flatten_append,h2];have h3:=RB 18 (v/10^18) (v % 10^18) (by omega) (by omega) (Nat.mod_lt _ (by decide));rw[show v/10^18*10^18+v % 10^18=v from by omega]at h3;rw[h3];simp
end Go.Sp
namespace Go.Pe
open Sp
open Go.Det
section
open List Int Prod
namespace T59
def T(s:List UInt8):Tr:=tree sV false 9 59 (Af ([zj]) s)
theorem An(s:List UInt8):T s=let a':=zf (ze zd);let b':=Dr (Ay s);let c':=Dg (Ay s);.ite (uR s [(47:UInt8)]) (.ite (!Bs s) (.ite (El (Ay s)) (.ite true (.leaf (zp [.dat i64 b',.dat a' c',.dat i64 (1:Int),.dat a' (Ca 1)]) ([(zh (zh 0 1) 1,.box [.dat i64 b',.dat a' c',.dat i64 (1:Int),.dat a' (Ca 1)]),(zh 0 1,.box [.dat i64 b',.dat a' c']),(0,.box [.dat i64 b',.dat a' c',.dat i64 (1:Int),.dat a' (Ca 1)])])) .fail) .fail) (.ite (El (Ay s)) (.ite (El (Sp.AN s)) (.leaf (zp [.dat i64 b',.dat a' c',.dat i64 (Dr (Sp.AN s)),.dat a' (Dg (Sp.AN s))]) ([(0,.box [.dat i64 b',.dat a' c',.dat i64 (Dr (Sp.AN s)),.dat a' (Dg (Sp.AN s))])])) .fail) .fail)) .fail:=by kernel_rfl
end T59
namespace T186
def T(a b:Int×List Int):Tr:=tree sV false 9 186 (Af ([zn i64 (zf (ze zd)),zn i64 (zf (ze zd))]) (a,b))
def L1(o2 o1:Int)(o1_1:List Int)(o0:Int)(o0_1:List Int):Tr:=re ((T (0,[]) (0,[])).L.L.L.L) (AF 21 [(2,.ptr 0 0),(3,.ptr 1 0),(4,.ptr 2 0)] [(2,.box [.dat i64 o2,.nil]),(1,.box [.dat i64 o1,.dat (zf (ze zd)) o1_1]),(0,.box [.dat i64 o0,.dat (zf (ze zd)) o0_1])] 3)
theorem An(a b:Int×List Int):T a b=.ite (yq (fst b,snd b)) (.ite (decide (H3 (fst b,snd b)<0)) (.ite (yq (fst a,snd a)) (.ite (yq (fst b,snd b)) (L1 0 (Ef (fst b,snd b)) (Em (fst b,snd b)) (Ef (fst a,snd a)) (Em (fst a,snd a))) .fail) .fail) (L1 0 (fst b) (snd b) (fst a) (snd a))) .fail:=by kernel_rfl
theorem Au(o2 o1:Int)(o1_1:List Int)(o0:Int)(o0_1:List Int):stepT sV (L1 o2 o1 o1_1 o0 o0_1)=let a':=zf (ze zd);let b':=tZ (o0,o0_1) (o1,o1_1);let c':=uJ (o0,o0_1) (o1,o1_1);.ite (Bc (o0,o0_1)&&Bc (o1,o1_1)&&decide (0<Sp.vI (o1,o1_1))) (.leaf (zp [.dat i64 b',.dat a' c']) ([(zh 3 1,.box [.dat i64 (Xn (o0,o0_1) (o1,o1_1)),.dat a' (Xk (o0,o0_1) (o1,o1_1))]),(3,.box [.dat i64 b',.dat a' c']),(2,.box [.dat i64 b',.dat a' c']),(1,.box [.dat i64 o1,.dat a' o1_1]),(0,.box [.dat i64 o0,.dat a' o0_1])])) .fail:=by kernel_rfl
end T186
namespace T135
def T(n d:Int×List Int):Tr:=tree xG false 9 135 (Af ([zn i64 (zf (ze zd)),zn i64 (zf (ze zd))]) (n,d))
def L1(o2 o2_1 o1:Int)(o1_1:List Int)(o0:Int)(o0_1:List Int):Tr:=re ((T (0,[]) (0,[])).L.L.L.L) (AF 34 [(2,.ptr 0 0),(3,.ptr 1 0),(4,.ptr 2 0)] [(2,.box [.dat i64 o2,.nil,.dat i64 o2_1,.nil]),(1,.box [.dat i64 o1,.dat (zf (ze zd)) o1_1]),(0,.box [.dat i64 o0,.dat (zf (ze zd)) o0_1])] 3)
theorem An(n d:Int×List Int):T n d=.ite (yq (fst d,snd d)) (.ite (decide (H3 (fst d,snd d)<0)) (.ite (yq (fst n,snd n)) (.ite (yq (fst d,snd d)) (L1 0 0 (Ef (fst d,snd d)) (Em (fst d,snd d)) (Ef (fst n,snd n)) (Em (fst n,snd n))) .fail) .fail) (L1 0 0 (fst d) (snd d) (fst n) (snd n))) .fail:=by kernel_rfl
def L2(o3:Int)(o3_1:List Int)(o2 o2_1 o1:Int)(o1_1:List Int)(o0:Int)(o0_1:List Int):Tr:=re ((stepT xG (L1 0 0 0 [] 0 [])).L.R.L) (AF 34 [(2,.ptr 0 0),(3,.ptr 1 0),(4,.ptr 2 0),(5,.ptr 3 0)] [(3,.box [.dat i64 o3,.dat (zf (ze zd)) o3_1]),(2,.box [.dat i64 o2,.nil,.dat i64 o2_1,.nil]),(1,.box [.dat i64 o1,.dat (zf (ze zd)) o1_1]),(0,.box [.dat i64 o0,.dat (zf (ze zd)) o0_1])] 4)
theorem Au(o2 o2_1 o1:Int)(o1_1:List Int)(o0:Int)(o0_1:List Int):stepT xG (L1 o2 o2_1 o1 o1_1 o0 o0_1)=let a':=zf (ze zd);let b':Tr:=.ite (Bc (o0,o0_1)&&Bc (o1,o1_1)) (L2 (M5 (o0,o0_1) (o1,o1_1)) (ML (o0,o0_1) (o1,o1_1)) o2 o2_1 o1 o1_1 o0 o0_1) .fail;.ite (!decide (0<length o1_1)) (.ite (o1==1) (.leaf (zp [.dat i64 o0,.dat a' o0_1,.dat i64 o1,.dat a' o1_1]) ([(2,.box [.dat i64 o0,.dat a' o0_1,.dat i64 o1,.dat a' o1_1]),(1,.box [.dat i64 o1,.dat a' o1_1]),(0,.box [.dat i64 o0,.dat a' o0_1])])) b') b':=by kernel_rfl
theorem AV(o3:Int)(o3_1:List Int)(o2 o2_1 o1:Int)(o1_1:List Int)(o0:Int)(o0_1:List Int):stepT xG (L2 o3 o3_1 o2 o2_1 o1 o1_1 o0 o0_1)=let a':=zf (ze zd);let b':=Sp.iQS (o0,o0_1) (o3,o3_1);let c':=Sp.iQW (o0,o0_1) (o3,o3_1);let d':=Sp.iQS (o1,o1_1) (o3,o3_1);let e':=Sp.iQW (o1,o1_1) (o3,o3_1);.ite (Mc (o0,o0_1) (o3,o3_1)) (.ite (Mc (o1,o1_1) (o3,o3_1)) (.leaf (zp [.dat i64 b',.dat a' c',.dat i64 d',.dat a' e']) ([(3,.box [.dat i64 o3,.dat a' o3_1]),(2,.box [.dat i64 b',.dat a' c',.dat i64 d',.dat a' e']),(1,.box [.dat i64 o1,.dat a' o1_1]),(0,.box [.dat i64 o0,.dat a' o0_1])])) .fail) .fail:=by kernel_rfl
end T135
namespace T145
def T(a:(Int×List Int)×Int×List Int):Tr:=tree sV false 9 145 (Af ([zn (zn i64 (zf (ze zd))) (zn i64 (zf (ze zd)))]) a)
theorem An(a:(Int×List Int)×Int×List Int):T a=let b':=zf (ze zd);let a':=[(0,.box [.dat i64 (fst (fst a)),.dat b' (snd (fst a)),.dat i64 (fst (snd a)),.dat b' (snd (snd a))])];.ite (!decide (0<length (snd (snd a)))) (.leaf (.dat zi (fst (snd a)==1)) a') (.leaf (.bl false) a'):=by kernel_rfl
end T145
namespace T130
def T(n:Int×List Int):Tr:=tree sV false 9 130 (Af ([zn i64 (zf (ze zd))]) n)
theorem An(n:Int×List Int):T n=let a':=zf (ze zd);.ite true (.leaf (zp [.dat i64 (fst n),.dat a' (snd n),.dat i64 (1:Int),.dat a' (Ca 1)]) ([(zh 0 1,.box [.dat i64 (fst n),.dat a' (snd n),.dat i64 (1:Int),.dat a' (Ca 1)]),(0,.box [.dat i64 (fst n),.dat a' (snd n)])])) .fail:=by kernel_rfl
end T130
namespace T134
def T(a:(Int×List Int)×Int×List Int):Tr:=tree sV false 9 134 (Af ([zn (zn i64 (zf (ze zd))) (zn i64 (zf (ze zd)))]) a)
theorem An(a:(Int×List Int)×Int×List Int):T a=let a':=zf (ze zd);let b':=(fst (fst a),snd (fst a));.ite (yq b') (.leaf (zp [.dat i64 (Ef b'),.dat a' (Em b'),.dat i64 (fst (snd a)),.dat a' (snd (snd a))]) ([(zh 0 1,.box [.dat i64 (Ef b'),.dat a' (Em b'),.dat i64 (fst (snd a)),.dat a' (snd (snd a))]),(0,.box [.dat i64 (fst (fst a)),.dat a' (snd (fst a)),.dat i64 (fst (snd a)),.dat a' (snd (snd a))])])) .fail:=by kernel_rfl
end T134
namespace T71
def T(a:(Int×List Int)×Int×List Int)(b:(Int×List Int)×Int×List Int):Tr:=tree vN false 9 71 (Af ([zn (zn i64 (zf (ze zd))) (zn i64 (zf (ze zd))),zn (zn i64 (zf (ze zd))) (zn i64 (zf (ze zd)))]) (a,b))
def L1(o2 o2_1 o1:Int)(o1_1:List Int)(o1_2:Int)(o1_3:List Int)(o0:Int)(o0_1:List Int)(o0_2:Int)(o0_3:List Int):Tr:=re ((T ((0,[]),(0,[])) ((0,[]),(0,[]))).L.L.L.R) (AF 34 [(2,.ptr 0 0),(3,.ptr 1 0),(4,.ptr 2 0)] [(2,.box [.dat i64 o2,.nil,.dat i64 o2_1,.nil]),(1,.box [.dat i64 o1,.dat (zf (ze zd)) o1_1,.dat i64 o1_2,.dat (zf (ze zd)) o1_3]),(0,.box [.dat i64 o0,.dat (zf (ze zd)) o0_1,.dat i64 o0_2,.dat (zf (ze zd)) o0_3])] 3)
theorem An(a:(Int×List Int)×Int×List Int)(b:(Int×List Int)×Int×List Int):T a b=let a':=zf (ze zd);let b':=L1 0 0 (fst (fst b)) (snd (fst b)) (fst (snd b)) (snd (snd b)) (fst (fst a)) (snd (fst a)) (fst (snd a)) (snd (snd a));let c':=(fst (fst a),snd (fst a));let d':=(fst (fst b),snd (fst b));.ite true (.ite (CR (fst (snd a),snd (snd a))) (.ite true (.ite (CR (fst (snd b),snd (snd b))) (.ite (Bc c'&&Bc d') (.ite true (.leaf (zp [.dat i64 (IX c' d'),.dat a' (Ip c' d'),.dat i64 (1:Int),.dat a' (Ca 1)]) ([(zh (zh 0 1) 1,.box [.dat i64 (IX c' d'),.dat a' (Ip c' d'),.dat i64 (1:Int),.dat a' (Ca 1)]),(zh 0 1,.box [.dat i64 (fst (fst b)),.dat a' (snd (fst b)),.dat i64 (fst (snd b)),.dat a' (snd (snd b))]),(0,.box [.dat i64 (fst (fst a)),.dat a' (snd (fst a)),.dat i64 (fst (snd a)),.dat a' (snd (snd a))])])) .fail) .fail) b') .fail) b') .fail:=by kernel_rfl
theorem Au(o2 o2_1 o1:Int)(o1_1:List Int)(o1_2:Int)(o1_3:List Int)(o0:Int)(o0_1:List Int)(o0_2:Int)(o0_3:List Int):stepT vN (L1 o2 o2_1 o1 o1_1 o1_2 o1_3 o0 o0_1 o0_2 o0_3)=let b':=(FD (o0_2,o0_3) (o1_2,o1_3),FT (o0_2,o0_3) (o1_2,o1_3));let c':=zf (ze zd);let d':=(FD (o0,o0_1) (o1_2,o1_3),FT (o0,o0_1) (o1_2,o1_3));let e':=(FD (o1,o1_1) (o0_2,o0_3),FT (o1,o1_1) (o0_2,o0_3));let a':=(IX d' e',Ip d' e');.ite (Bc (o0,o0_1)&&Bc (o1_2,o1_3)) (.ite (Bc (o1,o1_1)&&Bc (o0_2,o0_3)) (.ite (Bc d'&&Bc e') (.ite (Bc (o0_2,o0_3)&&Bc (o1_2,o1_3)) (.ite (Mc a' b') (.leaf (zp [.dat i64 (W1 a' b'),.dat c' (VS a' b'),.dat i64 (VN a' b'),.dat c' (Wf a' b')]) ([(2,.box [.dat i64 (W1 a' b'),.dat c' (VS a' b'),.dat i64 (VN a' b'),.dat c' (Wf a' b')]),(1,.box [.dat i64 o1,.dat c' o1_1,.dat i64 o1_2,.dat c' o1_3]),(0,.box [.dat i64 o0,.dat c' o0_1,.dat i64 o0_2,.dat c' o0_3])])) .fail) .fail) .fail) .fail) .fail:=by kernel_rfl
end T71
namespace T64
def T(a:(Int×List Int)×Int×List Int)(b:(Int×List Int)×Int×List Int):Tr:=tree vN false 9 64 (Af ([zn (zn i64 (zf (ze zd))) (zn i64 (zf (ze zd))),zn (zn i64 (zf (ze zd))) (zn i64 (zf (ze zd)))]) (a,b))
theorem An(a:(Int×List Int)×Int×List Int)(b:(Int×List Int)×Int×List Int):T a b=let c':=zf (ze zd);let d':=(fst (fst a),snd (fst a));let e':=(fst (fst b),snd (fst b));let f':=(fst (snd a),snd (snd a));let g':=(fst (snd b),snd (snd b));let a':=(FD d' e',FT d' e');let b':=(FD f' g',FT f' g');.ite (Bc d'&&Bc e') (.ite (Bc f'&&Bc g') (.ite (Mc a' b') (.leaf (zp [.dat i64 (W1 a' b'),.dat c' (VS a' b'),.dat i64 (VN a' b'),.dat c' (Wf a' b')]) ([(zh (zh 0 1) 1,.box [.dat i64 (W1 a' b'),.dat c' (VS a' b'),.dat i64 (VN a' b'),.dat c' (Wf a' b')]),(zh 0 1,.box [.dat i64 (fst (fst b)),.dat c' (snd (fst b)),.dat i64 (fst (snd b)),.dat c' (snd (snd b))]),(0,.box [.dat i64 (fst (fst a)),.dat c' (snd (fst a)),.dat i64 (fst (snd a)),.dat c' (snd (snd a))])])) .fail) .fail) .fail:=by kernel_rfl
end T64
namespace T133
def T(a:(Int×List Int)×Int×List Int):Tr:=tree vN false 9 133 (Af ([zn (zn i64 (zf (ze zd))) (zn i64 (zf (ze zd)))]) a)
theorem An(a:(Int×List Int)×Int×List Int):T a=let a':=(fst (snd a),snd (snd a));let b':=(fst (fst a),snd (fst a));let c':=zf (ze zd);.ite (Mc a' b') (.leaf (zp [.dat i64 (W1 a' b'),.dat c' (VS a' b'),.dat i64 (VN a' b'),.dat c' (Wf a' b')]) ([(zh 0 1,.box [.dat i64 (W1 a' b'),.dat c' (VS a' b'),.dat i64 (VN a' b'),.dat c' (Wf a' b')]),(0,.box [.dat i64 (fst (fst a)),.dat c' (snd (fst a)),.dat i64 (fst (snd a)),.dat c' (snd (snd a))])])) .fail:=by kernel_rfl
end T133
namespace T63
def T(a:(Int×List Int)×Int×List Int)(b:(Int×List Int)×Int×List Int):Tr:=tree XA3 false 9 63 (Af ([zn (zn i64 (zf (ze zd))) (zn i64 (zf (ze zd))),zn (zn i64 (zf (ze zd))) (zn i64 (zf (ze zd)))]) (a,b))
theorem An(a:(Int×List Int)×Int×List Int)(b:(Int×List Int)×Int×List Int):T a b=let b':=((fst (fst a),snd (fst a)),fst (snd a),snd (snd a));let c':=zf (ze zd);let d':=(fst (fst b),snd (fst b));let a':=((Ef d',Em d'),fst (snd b),snd (snd b));.ite (yq d') (.ite (Sp.BL b'&&Sp.BL a') (.leaf (zp [.dat i64 (Lp b' a'),.dat c' (KQ b' a'),.dat i64 (Kn b' a'),.dat c' (KR b' a')]) ([(zh (zh 0 1) 1,.box [.dat i64 (Lp b' a'),.dat c' (KQ b' a'),.dat i64 (Kn b' a'),.dat c' (KR b' a')]),(zh 0 1,.box [.dat i64 (fst (fst b)),.dat c' (snd (fst b)),.dat i64 (fst (snd b)),.dat c' (snd (snd b))]),(0,.box [.dat i64 (fst (fst a)),.dat c' (snd (fst a)),.dat i64 (fst (snd a)),.dat c' (snd (snd a))])])) .fail) .fail:=by kernel_rfl
end T63
namespace T60
def T(a:(Int×List Int)×Int×List Int)(b:(Int×List Int)×Int×List Int):Tr:=tree XA3 false 9 60 (Af ([zn (zn i64 (zf (ze zd))) (zn i64 (zf (ze zd))),zn (zn i64 (zf (ze zd))) (zn i64 (zf (ze zd)))]) (a,b))
theorem An(a:(Int×List Int)×Int×List Int)(b:(Int×List Int)×Int×List Int):T a b=let b':=((fst (fst a),snd (fst a)),fst (snd a),snd (snd a));let c':=zf (ze zd);let e':=(fst (fst b),snd (fst b));let d':=(e',fst (snd b),snd (snd b));let a':=Tt d';.ite (Sp.BL d'&&decide (Sp.vI e'≠0)) (.ite (Sp.BL b'&&Sp.BL a') (.leaf (zp [.dat i64 (K5 b' a'),.dat c' (Lz b' a'),.dat i64 (KK b' a'),.dat c' (Kt b' a')]) ([(zh (zh 0 1) 1,.box [.dat i64 (K5 b' a'),.dat c' (Lz b' a'),.dat i64 (KK b' a'),.dat c' (Kt b' a')]),(zh 0 1,.box [.dat i64 (fst (fst b)),.dat c' (snd (fst b)),.dat i64 (fst (snd b)),.dat c' (snd (snd b))]),(0,.box [.dat i64 (fst (fst a)),.dat c' (snd (fst a)),.dat i64 (fst (snd a)),.dat c' (snd (snd a))])])) .fail) .fail:=by kernel_rfl
end T60
namespace T127
def T(s:List UInt8):Tr:=tree NQ false 9 127 (Af ([zj]) s)
def L1(v0:List UInt8)(v3:Int):Tr:=re ((T [])) (AF 17 [(0,.dat zj v0),(3,.dat i64 v3)] [] 0)
theorem An(s:List UInt8):T s=L1 s 0:=by kernel_rfl
theorem Au(v0:List UInt8)(v3:Int):stepT NQ (L1 v0 v3)=let a':=(length v0:Int);.ite (decide (v3<a')) (.ite (decide (0<=v3)&&decide (v3<a')) (.ite ((↑(zk (getD v0 (toNat v3) (0:UInt8))):Int)==47) (.leaf (.dat i64 v3) []) (L1 v0 (zc .i64 (v3+1)))) .fail) (.leaf (.dat i64 a') []):=by kernel_rfl
end T127
namespace T128
def T(s:List UInt8):Tr:=tree NQ false 9 128 (Af ([zj]) s)
def L1(s v0:List UInt8)(v3:Int):Tr:=re ((T s).R.L.L.R) (AF 20 [(0,.dat zj v0),(3,.dat i64 v3)] [] 0)
def L2(s v0:List UInt8)(v3:Int):Tr:=re ((T s).R.R) (AF 20 [(0,.dat zj v0),(3,.dat i64 v3)] [] 0)
theorem An(s:List UInt8):T s=let a':=(length s:Int);.ite (a'==0) (.leaf (.bl false) []) (.ite (decide (a'>1)) (.ite (decide (0<a')) (.ite ((↑(zk (getD s 0 (0:UInt8))):Int)==48) (.leaf (.bl false) []) (L1 s s 0)) .fail) (L2 s s 0)):=by kernel_rfl
theorem Au(s v0:List UInt8)(v3:Int):stepT NQ (L1 s v0 v3)=let a':=decide (v3<(length v0:Int));let b':=(↑(zk (getD v0 (toNat v3) (0:UInt8))):Int);.ite (a') (.ite (decide (0<=v3)&&a') (.ite (decide (b'<48)) (.leaf (.bl false) []) (.ite (decide (0<=v3)&&a') (.ite (decide (b'>57)) (.leaf (.bl false) []) (L1 s v0 (zc .i64 (v3+1)))) .fail)) .fail) (.leaf (.bl true) []):=by kernel_rfl
theorem AV(s v0:List UInt8)(v3:Int):stepT NQ (L2 s v0 v3)=let a':=decide (v3<(length v0:Int));let b':=(↑(zk (getD v0 (toNat v3) (0:UInt8))):Int);.ite (a') (.ite (decide (0<=v3)&&a') (.ite (decide (b'<48)) (.leaf (.bl false) []) (.ite (decide (0<=v3)&&a') (.ite (decide (b'>57)) (.leaf (.bl false) []) (L2 s v0 (zc .i64 (v3+1)))) .fail)) .fail) (.leaf (.bl true) []):=by kernel_rfl
end T128
namespace T152
def T(n:Int):Tr:=tree tU false 9 152 (Af ([ze yk]) n)
def L1(v0:Int)(v4:Bool):Tr:=re ((T 0)) (AF 25 [(0,.dat i64 v0),(2,.ptr 0 0),(3,.nil),(4,.dat zi v4)] [(0,.box [.bl false,.nil])] 1)
theorem An(n:Int):T n=L1 n (decide (n<0)):=by kernel_rfl
def L2(v0:Int)(v3n:Nat)(v4:Bool)(o1:List Int):Tr:=re ((stepT tU (L1 0 false)).L.L.L.L.L) (AF 25 [(0,.dat i64 v0),(2,.ptr 0 0),(3,.sl 1 1 0 v3n none),(4,.dat zi v4)] [(1,.arr false 3 i64 o1),(0,.box [.bl false,.nil])] 2)
theorem Au(v0:Int)(v4:Bool):stepT tU (L1 v0 v4)=let a':=decide (1<=1)&&decide (0<1)&&decide ((2*1+1000)*8<=281474976710656);let b':=zc .i64 (yn v0 1000000000);.ite (v0 !=0) (.ite true (.ite (decide (z7 v0 1000000000<0)) (.ite a' (.ite true (L2 b' 1 v4 ([zc .i64 (0-z7 v0 1000000000)])) .fail) .fail) (.ite a' (.ite true (L2 b' 1 v4 ([z7 v0 1000000000])) .fail) .fail)) .fail) (.ite (decide (0<=20000)) (.leaf (zp [.dat zi (Sp.Cg v4 []),.dat (zg i64) (Sp.Av [])]) ([(0,.box [.dat zi (Sp.Cg v4 []),.dat (zg i64) (Sp.Av [])])])) .fail):=by kernel_rfl
theorem AV(v0:Int)(v3n:Nat)(v4:Bool)(o1:List Int):stepT tU (L2 v0 v3n v4 o1)=let a':=decide (1<=1)&&true&&decide (v3n=length o1)&&decide ((2*(v3n+1)+1000)*8<=281474976710656);let b':=zc .i64 (yn v0 1000000000);let c':=Sp.Cg v4 (take v3n o1);let d':=Sp.Av (take v3n o1);.ite (v0 !=0) (.ite true (.ite (decide (z7 v0 1000000000<0)) (.ite a' (.ite true (L2 b' (zh v3n 1) v4 (o1++[zc .i64 (0-z7 v0 1000000000)])) .fail) .fail) (.ite a' (.ite true (L2 b' (zh v3n 1) v4 (o1++[z7 v0 1000000000])) .fail) .fail)) .fail) (.ite (decide (0+v3n<=length o1)&&true&&decide (length (take v3n o1)<=20000)) (.leaf (zp [.dat zi c',.dat (zg i64) d']) ([(1,.arr true 3 i64 o1),(0,.box [.dat zi c',.dat (zg i64) d'])])) .fail):=by kernel_rfl
end T152
namespace T82
def T(a:List UInt8):Tr:=tree XK3 false 9 82 (Af ([zj]) a)
theorem An(a:List UInt8):T a=let b':=take (toNat (AY a)) a;let c':=zc .i64 (AY a+1);let a':=take (zy (length a) (toNat c')) (drop (toNat c') a);.ite (decide (length a<=1000000)) (.ite (AY a==(length a:Int)) (.ite (El a) (.ite true (.leaf (.tup [zp [.dat zi (Fg a),.dat (zg i64) (Fe a)],zp [.dat zi false,.dat (zg i64) (Sp.rW 1)]]) ([(zh 0 1,.box [.dat zi false,.dat (zg i64) (Sp.rW 1)]),(0,.box [.dat zi (Fg a),.dat (zg i64) (Fe a)])])) .fail) .fail) (.ite (decide (0<=AY a)&&decide (0<=toNat (AY a))&&decide (toNat (AY a)<=length a)) (.ite (decide (0<=zc .i64 (AY a+1))&&true&&decide (toNat c'<=length a)&&decide (length a<=length a)) (.ite (El b') (.ite (El a') (.leaf (.tup [zp [.dat zi (Fg b'),.dat (zg i64) (Fe b')],zp [.dat zi (Fg a'),.dat (zg i64) (Fe a')]]) ([(zh 0 1,.box [.dat zi (Fg a'),.dat (zg i64) (Fe a')]),(0,.box [.dat zi (Fg b'),.dat (zg i64) (Fe b')])])) .fail) .fail) .fail) .fail)) .fail:=by kernel_rfl
end T82
namespace T51
def T(a:List UInt8):Tr:=tree UZ false 9 51 (Af ([zj]) a)
def L1(v0 v3:List UInt8):Tr:=re ((T []).L.L.L.L) (AF 96 [(0,.dat zj v0),(3,.dat zj v3)] [] 0)
theorem An(a:List UInt8):T a=.ite (decide ((length a:Int)>0)) (.ite (decide (0<(length a:Int))) (.ite ((↑(zk (getD a 0 (0:UInt8))):Int)==45) (.ite (decide (1<=length a)&&decide (length a<=length a)) (L1 a (take (zy (length a) 1) (drop 1 a))) .fail) (L1 a a)) .fail) (L1 a a):=by kernel_rfl
def L2(v3:List UInt8)(v4:Int):Tr:=re ((stepT UZ (L1 [] [])).L.L.L.R.L.L.L.R) (AF 96 [(3,.dat zj v3),(4,.dat i64 v4)] [] 0)
theorem Au(v0 v3:List UInt8):stepT UZ (L1 v0 v3)=let b':=AY v3;let c':Tr:=.leaf (.dat i64 (1:Int)) [];let a':=decide (0<=AY v3)&&decide (0<=toNat b')&&decide (toNat b'<=length v3);.ite (decide (length v3<=9223372036854775807)) (.ite a' (.ite (decide (length (take (toNat b') v3)<=9223372036854775807)) (.ite (!AR (take (toNat b') v3)) c' (.ite (decide (0<(length v0:Int))) (.ite ((↑(zk (getD v0 0 (0:UInt8))):Int)==45) (.ite a' (.ite (take (toNat b') v3==[(48:UInt8)]) c' (L2 v3 b')) .fail) (L2 v3 b')) .fail)) .fail) .fail) .fail:=by kernel_rfl
def L3(v3:List UInt8)(v4:Int):Tr:=re ((stepT UZ (L2 [] 0)).L.L.L.R.L.R.L.R) (AF 96 [(3,.dat zj v3),(4,.dat i64 v4)] [] 0)
theorem AV(v3:List UInt8)(v4:Int):stepT UZ (L2 v3 v4)=let d':Tr:=.leaf (.dat i64 (1:Int)) [];let e':=zc .i64 (v4+1);let a':=decide (0<=zc .i64 (v4+1))&&true&&decide (toNat e'<=length v3)&&decide (length v3<=length v3);let b':=toNat e';let c':=zy (length v3) b';.ite (decide (v4<(length v3:Int))) (.ite a' (.ite (decide (length (take c' (drop b' v3))<=9223372036854775807)) (.ite (!AR (take c' (drop b' v3))) d' (.ite a' (.ite (take c' (drop b' v3)==[(48:UInt8)]) d' (.ite a' (.ite (take c' (drop b' v3)==[(49:UInt8)]) d' (L3 v3 v4)) .fail)) .fail)) .fail) .fail) (L3 v3 v4):=by kernel_rfl
def L4(v3:List UInt8)(v4:Int):Tr:=re ((stepT UZ (L3 [] 0)).R.R) (AF 96 [(3,.dat zj v3),(4,.dat i64 v4)] [] 0)
theorem C5(v3:List UInt8)(v4:Int):stepT UZ (L3 v3 v4)=let a':Tr:=.leaf (.dat i64 (4:Int)) [];.ite (decide (v4>600)) a' (.ite (decide (zc .i64 (zc .i64 ((length v3:Int)-v4)-1)>600)) a' (L4 v3 v4)):=by kernel_rfl
def L5(o1:Bool)(o1_1:List Int)(o0:Bool)(o0_1:List Int):Tr:=re ((stepT UZ (L4 [] 0)).L.L) (AF 96 [(5,.ptr 0 0),(6,.ptr 1 0)] [(1,.box [.dat zi o1,.dat (zg i64) o1_1]),(0,.box [.dat zi o0,.dat (zg i64) o0_1])] 2)
theorem CT(v3:List UInt8)(v4:Int):stepT UZ (L4 v3 v4)=.ite (decide (v4<(length v3:Int))) (.ite (Da v3) (L5 (Bn v3) (Bf v3) (BE v3) (Bv v3)) .fail) (.leaf (.dat i64 (0:Int)) []):=by kernel_rfl
def L6(v7:List Int):Tr:=re ((stepT UZ (L5 false [] false [])).L) (AF 96 [(7,.dat (zg i64) v7)] [] 0)
theorem Es(o1:Bool)(o1_1:List Int)(o0:Bool)(o0_1:List Int):stepT UZ (L5 o1 o1_1 o0 o0_1)=.ite (A9 o0_1&&A9 o1_1&&decide (length o0_1<=9000)&&decide (length o1_1<=9000)) (L6 (Cr o0_1 o1_1)) .fail:=by kernel_rfl
theorem Fi(v7:List Int):stepT UZ (L6 v7)=let a':Tr:=.leaf (.dat i64 (1:Int)) [];.ite ((length v7:Int) !=1) a' (.ite (decide (0<(length v7:Int))) (.ite (getD v7 0 0 !=1) a' (.leaf (.dat i64 (0:Int)) [])) .fail):=by kernel_rfl
end T51
namespace T142
def T(l:List Int):Tr:=tree NQ false 9 142 (Af ([zg i64]) l)
def L1(v5:List Int)(v6 v7:Int):Tr:=re ((T [])) (AF 15 [(5,.dat (zg i64) v5),(6,.dat i64 v6),(7,.dat i64 v7)] [] 0)
theorem An(l:List Int):T l=L1 l ((length l:Int)) 0:=by kernel_rfl
theorem Au(v5:List Int)(v6 v7:Int):stepT NQ (L1 v5 v6 v7)=.ite (decide (v7<v6)) (.ite (decide (0<=v7)&&decide (v7<(length v5:Int))) (.ite (getD v5 (toNat v7) 0 !=0) (.leaf (.dat i64 (getD v5 (toNat v7) 0)) []) (L1 v5 v6 (zc .i64 (v7+1)))) .fail) (.leaf (.dat i64 (0:Int)) []):=by kernel_rfl
end T142
namespace T143
def T(b:Bool)(e:Int):Tr:=tree NQ false 9 143 (Af ([zi,ze yk]) (b,e))
theorem An(b:Bool)(e:Int):T b e=.ite b (.leaf (.dat i64 e) []) (.leaf (.dat i64 (0:Int)) []):=by kernel_rfl
end T143
namespace T69
def T(a:List UInt8):Tr:=tree Mt false 9 69 (Af ([zj]) a)
def L1(v5 v6:List UInt8)(v7:Bool):Tr:=re ((T []).L.L.L.L.L) (AF 76 [(5,.dat zj v5),(6,.dat zj v6),(7,.dat zi v7),(8,.bl true)] [] 0)
def L2(v5 v6:List UInt8)(v7 v8:Bool):Tr:=re ((T []).L.L.L.L.R) (AF 76 [(5,.dat zj v5),(6,.dat zj v6),(7,.dat zi v7),(8,.dat zi v8)] [] 0)
def L3(v5 v6:List UInt8)(v7:Bool):Tr:=re ((T []).L.L.L.R) (AF 76 [(5,.dat zj v5),(6,.dat zj v6),(7,.dat zi v7),(8,.bl false)] [] 0)
theorem An(a:List UInt8):T a=let a':=Ay (AZ a);let b':=Sp.AN (AZ a);let c':=Bs (AZ a);.ite (Sm a [(45:UInt8)]) (.ite (uR (AZ a) [(47:UInt8)]) (.ite (decide (length a'<=1000000)) (.ite (AR a') (.ite (!Sp.preB a) (L1 a' b' c') (L2 a' b' c' (!Ay (AZ a)==[(48:UInt8)]))) (L3 a' b' c')) .fail) .fail) .fail:=by kernel_rfl
def L4(v5 v6:List UInt8)(v7 v8:Bool):Tr:=re ((stepT Mt (L1 [] [] false)).L.L.L.L) (AF 76 [(5,.dat zj v5),(6,.dat zj v6),(7,.dat zi v7),(8,.dat zi v8)] [] 0)
def L5(v5 v6:List UInt8)(v7:Bool):Tr:=re ((stepT Mt (L1 [] [] false)).L.L.L.R) (AF 76 [(5,.dat zj v5),(6,.dat zj v6),(7,.dat zi v7),(8,.bl false)] [] 0)
def L6(v5 v6:List UInt8)(v7:Bool):Tr:=re ((stepT Mt (L1 [] [] false)).R) (AF 76 [(5,.dat zj v5),(6,.dat zj v6),(7,.dat zi v7),(8,.bl true)] [] 0)
theorem Au(v5 v6:List UInt8)(v7:Bool):stepT Mt (L1 v5 v6 v7)=.ite v7 (.ite (decide (length v6<=1000000)) (.ite (AR v6) (.ite (!v6==[(48:UInt8)]) (L4 v5 v6 v7 (!v6==[(49:UInt8)])) (L5 v5 v6 v7)) (L5 v5 v6 v7)) .fail) (L6 v5 v6 v7):=by kernel_rfl
theorem AV(v5 v6:List UInt8)(v7 v8:Bool):stepT Mt (L2 v5 v6 v7 v8)=.ite v7 (.ite v8 (.ite (decide (length v6<=1000000)) (.ite (AR v6) (.ite (!v6==[(48:UInt8)]) (L4 v5 v6 v7 (!v6==[(49:UInt8)])) (L5 v5 v6 v7)) (L5 v5 v6 v7)) .fail) (L5 v5 v6 v7)) (L4 v5 v6 v7 v8):=by kernel_rfl
theorem C5(v5 v6:List UInt8)(v7:Bool):stepT Mt (L3 v5 v6 v7)=.ite v7 (L5 v5 v6 v7) (L5 v5 v6 v7):=by kernel_rfl
def L7(v5 v6:List UInt8)(v7:Bool)(v9:Int):Tr:=re ((stepT Mt (L4 [] [] false false)).L.L.L.L) (AF 76 [(5,.dat zj v5),(6,.dat zj v6),(7,.dat zi v7),(9,.dat i64 v9)] [] 0)
theorem CT(v5 v6:List UInt8)(v7 v8:Bool):stepT Mt (L4 v5 v6 v7 v8)=let a':=decide (2<=2)&&true&&decide (2<=1000000);.ite true (.ite (decide ((length v5:Int)>600)) (.ite true (.ite a' (L7 v5 v6 v7 (yu [LJ (!v8) 1,LJ true 4])) .fail) .fail) (.ite true (.ite a' (L7 v5 v6 v7 (yu [LJ (!v8) 1,LJ (decide ((length v6:Int)>600)) 4])) .fail) .fail)) .fail:=by kernel_rfl
theorem Es(v5 v6:List UInt8)(v7:Bool):stepT Mt (L5 v5 v6 v7)=.ite true (.ite (decide ((length v5:Int)>600)) (.ite true (.ite true (L7 v5 v6 v7 (yu [LJ true 1,LJ true 4])) .fail) .fail) (.ite true (.ite (decide (2<=2)&&true&&decide (2<=1000000)) (L7 v5 v6 v7 (yu [LJ true 1,LJ (decide ((length v6:Int)>600)) 4])) .fail) .fail)) .fail:=by kernel_rfl
theorem Fi(v5 v6:List UInt8)(v7:Bool):stepT Mt (L6 v5 v6 v7)=.ite true (.ite (decide ((length v5:Int)>600)) (.ite true (.ite true (L7 v5 v6 v7 (yu [LJ false 1,LJ true 4])) .fail) .fail) (.ite true (.ite (decide (2<=2)&&true&&decide (2<=1000000)) (L7 v5 v6 v7 (yu [LJ false 1,LJ (decide ((length v6:Int)>600)) 4])) .fail) .fail)) .fail:=by kernel_rfl
def L8(v5 v6:List UInt8)(v7:Bool):Tr:=re ((stepT Mt (L7 [] [] false 0)).R) (AF 76 [(5,.dat zj v5),(6,.dat zj v6),(7,.dat zi v7)] [] 0)
theorem Ew(v5 v6:List UInt8)(v7:Bool)(v9:Int):stepT Mt (L7 v5 v6 v7 v9)=.ite (v9 !=0) (.leaf (.dat i64 v9) []) (L8 v5 v6 v7):=by kernel_rfl
def L9(v10:Bool):Tr:=re ((stepT Mt (L8 [] [] false)).L.L.L.L.L.L) (AF 76 [(10,.dat zi v10)] [] 0)
def L10:Tr:=re ((stepT Mt (L8 [] [] false)).R) (AF 76 [(10,.bl false)] [] 0)
theorem HX(v5 v6:List UInt8)(v7:Bool):stepT Mt (L8 v5 v6 v7)=let a':=(M5 (Dr v5,Dg v5) (Dr v6,Dg v6),ML (Dr v5,Dg v5) (Dr v6,Dg v6));.ite v7 (.ite (El v5) (.ite (El v6) (.ite (Bc (Dr v5,Dg v5)&&Bc (Dr v6,Dg v6)) (.ite true (.ite (Bc a'&&Bc (1,Ca 1)) (L9 (dE a' (1,Ca 1) !=0)) .fail) .fail) .fail) .fail) .fail) L10:=by kernel_rfl
theorem YU(v10:Bool):stepT Mt (L9 v10)=.ite true (.leaf (.dat i64 (LJ v10 1)) []) .fail:=by kernel_rfl
theorem xH:stepT Mt L10=.ite true (.leaf (.dat i64 (LJ false 1)) []) .fail:=by kernel_rfl
end T69
namespace T132
def T(s:List UInt8):Tr:=tree Qk false 9 132 (Af ([zj]) s)
def L1(v0:List UInt8)(v3:Bool)(o1 o0:Int):Tr:=re ((T []).L.L.L.L.L.L) (AF 41 [(0,.dat zj v0),(2,.ptr 0 0),(3,.dat zi v3),(4,.ptr 1 0)] [(1,.box [.dat i64 o1,.nil]),(0,.box [.dat i64 o0,.nil])] 2)
def L2(v0:List UInt8)(o1 o0:Int):Tr:=re ((T []).R.L.L.L.L) (AF 41 [(0,.dat zj v0),(2,.ptr 0 0),(3,.bl false),(4,.ptr 1 0)] [(1,.box [.dat i64 o1,.nil]),(0,.box [.dat i64 o0,.nil])] 2)
theorem An(s:List UInt8):T s=let a':=take 1 s==[(45:UInt8)];let b':=decide ((length s:Int)>=1);let c':=decide (1<=length s)&&decide (length s<=length s);let d':=decide (1<=length s);let e':=take (zy (length s) 1) (drop 1 s);.ite b' (.ite d' (.ite b' (.ite d' (.ite a' (.ite c' (L1 e' a' 0 0) .fail) (L1 s a' 0 0)) .fail) (L1 s a' 0 0)) .fail) (.ite b' (.ite d' (.ite a' (.ite c' (L2 e' 0 0) .fail) (L2 s 0 0)) .fail) (L2 s 0 0)):=by kernel_rfl
def L3(v0:List UInt8)(v3:Bool)(o1 o0:Int)(v5:List UInt8)(v6:Int)(v47n:Nat)(v48 v49:Int)(o2:List Int)(o1':Int)(o0':Int):Tr:=re ((stepT Qk (L1 v0 v3 o1 o0)).L.L.L.L.L.L.L.R) (AF 77 [(5,.dat zj v5),(6,.dat i64 v6),(47,.sl 2 1 0 v47n none),(48,.dat i64 v48),(49,.dat i64 v49)] [(2,.arr false 5 (ze yf) o2),(1,.box [.dat i64 o1',.nil]),(0,.box [.dat i64 o0',.nil])] 3)
theorem Au(v0:List UInt8)(v3:Bool)(o1 o0:Int):stepT Qk (L1 v0 v3 o1 o0)=let d':=(length v0:Int);let g':=zf (ze zd);let a':=take (toNat (EK 18 d')) v0;let b':=take (zy (length a') 1) (drop 1 a');let c':=(↑(length a'):Int);let e':=decide (1<=length a')&&decide (length a'<=length a');let f':=(↑(zk (getD a' 0 (0:UInt8))):Int);let h':=decide (0<c');.ite (decide (d'>0)) (.ite (decide (0<=EK 18 d')&&decide (0<=toNat (EK 18 d'))&&decide (toNat (EK 18 d')<=length v0)) (.ite h' (.ite (decide (c'<19)) (.ite h' (.ite (f'==45) (.ite e' (.ite (decide ((↑(length b'):Int)<1)) .fail (L3 v0 v3 o1 o0 a' 0 (length b') ((↑(length b'):Int)) 0 (yo (fun b=>(↑(zk b):Int)) b') o1 o0)) .fail) (.ite h' (.ite (f'==43) (.ite e' (.ite (decide ((↑(length b'):Int)<1)) .fail (L3 v0 v3 o1 o0 a' 0 (length b') ((↑(length b'):Int)) 0 (yo (fun b=>(↑(zk b):Int)) b') o1 o0)) .fail) (L3 v0 v3 o1 o0 a' 0 (length a') (c') 0 (yo (fun b=>(↑(zk b):Int)) a') o1 o0)) .fail)) .fail) (.ite false .fail .fail)) (.ite false .fail .fail)) .fail) (.ite v3 (.ite (yq (o1,[])) (.leaf (zp [.dat i64 (Ef (o1,[])),.dat g' (Em (o1,[]))]) ([(1,.box [.dat i64 o1,.nil]),(0,.box [.dat i64 (Ef (o1,[])),.dat g' (Em (o1,[]))])])) .fail) (.leaf (zp [.dat i64 o1,.nil]) ([(1,.box [.dat i64 o1,.nil]),(0,.box [.dat i64 o1,.nil])]))):=by kernel_rfl
def L4(v0:List UInt8)(o1 o0:Int)(v5:List UInt8)(v6:Int)(v47n:Nat)(v48 v49:Int)(o2:List Int)(o1':Int)(o0':Int):Tr:=re ((stepT Qk (L2 v0 o1 o0)).L.L.L.L.L.L.L.R) (AF 77 [(5,.dat zj v5),(6,.dat i64 v6),(47,.sl 2 1 0 v47n none),(48,.dat i64 v48),(49,.dat i64 v49)] [(2,.arr false 5 (ze yf) o2),(1,.box [.dat i64 o1',.nil]),(0,.box [.dat i64 o0',.nil])] 3)
theorem AV(v0:List UInt8)(o1 o0:Int):stepT Qk (L2 v0 o1 o0)=let d':=(length v0:Int);let a':=take (toNat (EK 18 d')) v0;let b':=take (zy (length a') 1) (drop 1 a');let c':=(↑(length a'):Int);let e':=decide (1<=length a')&&decide (length a'<=length a');let f':=(↑(zk (getD a' 0 (0:UInt8))):Int);let g':=decide (0<c');.ite (decide (d'>0)) (.ite (decide (0<=EK 18 d')&&decide (0<=toNat (EK 18 d'))&&decide (toNat (EK 18 d')<=length v0)) (.ite g' (.ite (decide (c'<19)) (.ite g' (.ite (f'==45) (.ite e' (.ite (decide ((↑(length b'):Int)<1)) .fail (L4 v0 o1 o0 a' 0 (length b') ((↑(length b'):Int)) 0 (yo (fun b=>(↑(zk b):Int)) b') o1 o0)) .fail) (.ite g' (.ite (f'==43) (.ite e' (.ite (decide ((↑(length b'):Int)<1)) .fail (L4 v0 o1 o0 a' 0 (length b') ((↑(length b'):Int)) 0 (yo (fun b=>(↑(zk b):Int)) b') o1 o0)) .fail) (L4 v0 o1 o0 a' 0 (length a') (c') 0 (yo (fun b=>(↑(zk b):Int)) a') o1 o0)) .fail)) .fail) (.ite false .fail .fail)) (.ite false .fail .fail)) .fail) (.leaf (zp [.dat i64 o1,.nil]) ([(1,.box [.dat i64 o1,.nil]),(0,.box [.dat i64 o1,.nil])])):=by kernel_rfl
def L5(v0:List UInt8)(v3:Bool)(o1:Int)(o1_1:List Int)(o0:Int):Tr:=re ((stepT Qk (L3 [] false 0 0 [] 0 0 0 0 [] 0 0)).R.L.L.L.L.L.L.L.L) (AF 41 [(0,.dat zj v0),(2,.ptr 0 0),(3,.dat zi v3),(4,.ptr 1 0)] [(1,.box [.dat i64 o1,.dat (zf (ze zd)) o1_1]),(0,.box [.dat i64 o0,.nil])] 2)
theorem C5(v0:List UInt8)(v3:Bool)(o1 o0:Int)(v5:List UInt8)(v6:Int)(v47n:Nat)(v48 v49:Int)(o2:List Int)(o1':Int)(o0':Int):stepT Qk (L3 v0 v3 o1 o0 v5 v6 v47n v48 v49 o2 o1' o0')=let b':=EK 18 (length v0:Int);let d':=(zc .i64 (0-v6),Ca (zc .i64 (0-v6)));let i':=getD o2 (toNat v49) 0-48;let a':=(Va (10,Ca 10) b',Uy (10,Ca 10) b');let e':=decide (0<=EK 18 (length v0:Int))&&true&&decide (toNat b'<=length v0)&&decide (length v0<=length v0);let f':=take (zy (length v0) (toNat b')) (drop (toNat b') v0);let g':=Bc (10,Ca 10)&&dC (Sp.vI (10,Ca 10)) b';let c':=(FD (o1',[]) a',FT (o1',[]) a');let h':=Bc (o1',[])&&Bc a';.ite (decide (v49<v48)) (.ite (decide (0<=v49)&&decide (v49<(↑v47n:Int))) (.ite (decide (toNat v49<length o2)) (.ite (decide (zc .u8 i'>9)) .fail (L3 v0 v3 o1 o0 v5 (zc .i64 (zc .i64 (v6*10)+zc .i64 (zc .u8 i'))) v47n v48 (zc .i64 (v49+1)) o2 o1' o0')) .fail) .fail) (.ite (decide (0<(length v5:Int))) (.ite ((↑(zk (getD v5 0 (0:UInt8))):Int)==45) (.ite true (.ite g' (.ite h' (.ite true (.ite (Bc c'&&Bc d') (.ite e' (L5 f' v3 (IX c' d') (Ip c' d') o0') .fail) .fail) .fail) .fail) .fail) .fail) (.ite true (.ite g' (.ite h' (.ite true (.ite (Bc c'&&Bc (v6,Ca v6)) (.ite e' (L5 f' v3 (IX c' (v6,Ca v6)) (Ip c' (v6,Ca v6)) o0') .fail) .fail) .fail) .fail) .fail) .fail)) .fail):=by kernel_rfl
def L7(v0:List UInt8)(v3:Bool)(o1:Int)(o1_1:List Int)(o0:Int)(v5:List UInt8)(v6:Int)(v47n:Nat)(v48 v49:Int)(o2:List Int)(o1':Int)(o1_1':List Int)(o0':Int):Tr:=re ((stepT Qk (L5 v0 v3 o1 o1_1 o0)).L.L.L.L.L.L.L.R) (AF 77 [(5,.dat zj v5),(6,.dat i64 v6),(47,.sl 2 1 0 v47n none),(48,.dat i64 v48),(49,.dat i64 v49)] [(2,.arr false 5 (ze yf) o2),(1,.box [.dat i64 o1',.dat (zf (ze zd)) o1_1']),(0,.box [.dat i64 o0',.nil])] 3)
theorem Es(v0:List UInt8)(v3:Bool)(o1:Int)(o1_1:List Int)(o0:Int):stepT Qk (L5 v0 v3 o1 o1_1 o0)=let c':=zf (ze zd);let e':=(length v0:Int);let a':=take (toNat (EK 18 e')) v0;let b':=take (zy (length a') 1) (drop 1 a');let d':=(↑(length a'):Int);let f':=decide (1<=length a')&&decide (length a'<=length a');let g':=(↑(zk (getD a' 0 (0:UInt8))):Int);let h':=decide (0<d');.ite (decide (e'>0)) (.ite (decide (0<=EK 18 e')&&decide (0<=toNat (EK 18 e'))&&decide (toNat (EK 18 e')<=length v0)) (.ite h' (.ite (decide (d'<19)) (.ite h' (.ite (g'==45) (.ite f' (.ite (decide ((↑(length b'):Int)<1)) .fail (L7 v0 v3 o1 o1_1 o0 a' 0 (length b') ((↑(length b'):Int)) 0 (yo (fun b=>(↑(zk b):Int)) b') o1 o1_1 o0)) .fail) (.ite h' (.ite (g'==43) (.ite f' (.ite (decide ((↑(length b'):Int)<1)) .fail (L7 v0 v3 o1 o1_1 o0 a' 0 (length b') ((↑(length b'):Int)) 0 (yo (fun b=>(↑(zk b):Int)) b') o1 o1_1 o0)) .fail) (L7 v0 v3 o1 o1_1 o0 a' 0 (length a') (d') 0 (yo (fun b=>(↑(zk b):Int)) a') o1 o1_1 o0)) .fail)) .fail) (.ite false .fail .fail)) (.ite false .fail .fail)) .fail) (.ite v3 (.ite (yq (o1,o1_1)) (.leaf (zp [.dat i64 (Ef (o1,o1_1)),.dat c' (Em (o1,o1_1))]) ([(1,.box [.dat i64 o1,.dat c' o1_1]),(0,.box [.dat i64 (Ef (o1,o1_1)),.dat c' (Em (o1,o1_1))])])) .fail) (.leaf (zp [.dat i64 o1,.dat c' o1_1]) ([(1,.box [.dat i64 o1,.dat c' o1_1]),(0,.box [.dat i64 o1,.dat c' o1_1])]))):=by kernel_rfl
theorem Ew(v0:List UInt8)(v3:Bool)(o1:Int)(o1_1:List Int)(o0:Int)(v5:List UInt8)(v6:Int)(v47n:Nat)(v48 v49:Int)(o2:List Int)(o1':Int)(o1_1':List Int)(o0':Int):stepT Qk (L7 v0 v3 o1 o1_1 o0 v5 v6 v47n v48 v49 o2 o1' o1_1' o0')=let c':=EK 18 (length v0:Int);let d':=(zc .i64 (0-v6),Ca (zc .i64 (0-v6)));let i':=getD o2 (toNat v49) 0-48;let a':=(Va (10,Ca 10) c',Uy (10,Ca 10) c');let e':=decide (0<=EK 18 (length v0:Int))&&true&&decide (toNat c'<=length v0)&&decide (length v0<=length v0);let f':=take (zy (length v0) (toNat c')) (drop (toNat c') v0);let g':=Bc (10,Ca 10)&&dC (Sp.vI (10,Ca 10)) c';let b':=(FD (o1',o1_1') a',FT (o1',o1_1') a');let h':=Bc (o1',o1_1')&&Bc a';.ite (decide (v49<v48)) (.ite (decide (0<=v49)&&decide (v49<(↑v47n:Int))) (.ite (decide (toNat v49<length o2)) (.ite (decide (zc .u8 i'>9)) .fail (L7 v0 v3 o1 o1_1 o0 v5 (zc .i64 (zc .i64 (v6*10)+zc .i64 (zc .u8 i'))) v47n v48 (zc .i64 (v49+1)) o2 o1' o1_1' o0')) .fail) .fail) (.ite (decide (0<(length v5:Int))) (.ite ((↑(zk (getD v5 0 (0:UInt8))):Int)==45) (.ite true (.ite g' (.ite h' (.ite true (.ite (Bc b'&&Bc d') (.ite e' (L5 f' v3 (IX b' d') (Ip b' d') o0') .fail) .fail) .fail) .fail) .fail) .fail) (.ite true (.ite g' (.ite h' (.ite true (.ite (Bc b'&&Bc (v6,Ca v6)) (.ite e' (L5 f' v3 (IX b' (v6,Ca v6)) (Ip b' (v6,Ca v6)) o0') .fail) .fail) .fail) .fail) .fail) .fail)) .fail):=by kernel_rfl
end T132
namespace T195
def T(s t:List UInt8):Tr:=tree Y6 false 9 195 (Af ([zj,zj]) (s,t))
def L1(s t v0:List UInt8)(v4:Int)(o0:List Bool):Tr:=re ((T s t).R.R.L.L.R) (AF 21 [(0,.dat zj v0),(2,.ptr 0 0),(4,.dat i64 v4)] [(0,.arr false 258 zi o0)] 1)
def L2(s t v0:List UInt8)(v4:Int)(o0:List Bool):Tr:=re ((T s t).R.R.R) (AF 21 [(0,.dat zj v0),(2,.ptr 0 0),(4,.dat i64 v4)] [(0,.arr false 258 zi o0)] 1)
theorem An(s t:List UInt8):T s t=let a':=decide (0<(length t:Int));let b':Tr:=.leaf (.dat zj s) [];.ite (s==[]) b' (.ite (t==[]) b' (.ite ((length t:Int)==1) (.ite a' (.ite (decide ((↑(zk (getD t 0 (0:UInt8))):Int)<128)) (.ite a' (.ite a' (.ite false (.ite false b' .fail) .fail) .fail) .fail) (L1 s t t 0 Sp.sQ)) .fail) (L2 s t t 0 Sp.sQ))):=by kernel_rfl
def L4(s t v0:List UInt8)(v4:Int)(o0:List Bool)(v0':List UInt8)(o1:List Bool)(o0':List Bool):Tr:=re ((stepT Y6 (L2 s t v0 v4 o0)).R.L.L.L.L) (AF 22 [(0,.dat zj v0'),(1,.ptr 1 0)] [(1,.arr false 258 zi o1),(0,.arr false 258 zi o0')] 2)
theorem AV(s t v0:List UInt8)(v4:Int)(o0:List Bool):stepT Y6 (L2 s t v0 v4 o0)=let a':=(↑(zk (getD v0 (toNat v4) (0:UInt8))):Int);let b':=decide (length o0=256);let c':=decide (v4<(length v0:Int));.ite (c') (.ite (decide (0<=v4)&&c') (.ite (decide (a'>=128)) (.ite b' (.ite b' (.ite (decide (256=256)) (.ite true (.ite false (.ite false (.leaf (.dat zj s) ([(1,.arr false 258 zi (Sp.YS o0)),(0,.arr false 258 zi (Sp.YS o0))])) .fail) .fail) .fail) .fail) .fail) .fail) (.ite (decide ((0:yz (ze yf))<=a')&&decide (a'<(↑256:Int))) (.ite (decide (toNat a'<length o0)) (L2 s t v0 (zc .i64 (v4+1)) (set o0 (toNat a') true)) .fail) .fail)) .fail) (.ite b' (.ite b' (.ite (decide (256=256)) (.ite true (L4 s t v0 v4 o0 s ((Sp.YS o0)) ((Sp.YS o0))) .fail) .fail) .fail) .fail):=by kernel_rfl
def L7(s t v0:List UInt8)(v4:Int)(o0:List Bool)(v0':List UInt8)(o1:List Bool)(o0':List Bool)(v0'':List UInt8)(o1':List Bool)(o0'':List Bool):Tr:=re ((stepT Y6 (L4 s t v0 v4 o0 v0' o1 o0')).L.L.L.L.L) (AF 16 [(0,.dat zj v0''),(1,.ptr 1 0)] [(1,.arr false 258 zi o1'),(0,.arr false 258 zi o0'')] 2)
def L8(s t v0:List UInt8)(v4:Int)(o0:List Bool)(v0':List UInt8)(o1:List Bool)(o0':List Bool)(v0'':List UInt8)(o1':List Bool)(o0'':List Bool):Tr:=re ((stepT Y6 (L4 s t v0 v4 o0 v0' o1 o0')).R) (AF 16 [(0,.dat zj v0''),(1,.ptr 1 0)] [(1,.arr false 258 zi o1'),(0,.arr false 258 zi o0'')] 2)
theorem CT(s t v0:List UInt8)(v4:Int)(o0:List Bool)(v0':List UInt8)(o1:List Bool)(o0':List Bool):stepT Y6 (L4 s t v0 v4 o0 v0' o1 o0')=let b':=(↑(length v0'):Int);let c':=zc .i64 (b'-1);let d':=decide (0<=zc .i64 (b'-1));let a':=(↑(zk (getD v0' (toNat c') (0:UInt8))):Int);.ite (decide (b'>0)) (.ite (d'&&decide (zc .i64 (b'-1)<b')) (.ite (decide ((0:yz (ze yf))<=a')&&decide (a'<(↑256:Int))) (.ite (decide (toNat a'<length o1)) (.ite (!getD o1 (toNat a') false) (L7 s t v0 v4 o0 v0' o1 o0' v0' o1 o0') (.ite (d'&&decide (0<=toNat c')&&decide (toNat c'<=length v0')) (L4 s t v0 v4 o0 (take (toNat c') v0') o1 o0') .fail)) .fail) .fail) .fail) (L8 s t v0 v4 o0 v0' o1 o0' v0' o1 o0'):=by kernel_rfl
theorem Ew(s t v0:List UInt8)(v4:Int)(o0:List Bool)(v0':List UInt8)(o1:List Bool)(o0':List Bool)(v0'':List UInt8)(o1':List Bool)(o0'':List Bool):stepT Y6 (L7 s t v0 v4 o0 v0' o1 o0' v0'' o1' o0'')=let a':=(↑(zk (getD v0'' 0 (0:UInt8))):Int);let b':Tr:=.leaf (.dat zj v0'') ([(1,.arr false 258 zi o1'),(0,.arr false 258 zi o0'')]);.ite (decide ((↑(length v0''):Int)>0)) (.ite (decide (0<(↑(length v0''):Int))) (.ite (decide ((0:yz (ze yf))<=a')&&decide (a'<(↑256:Int))) (.ite (decide (toNat a'<length o1')) (.ite (!getD o1' (toNat a') false) b' (.ite (decide (1<=length v0'')&&decide (length v0''<=length v0'')) (L7 s t v0 v4 o0 v0' o1 o0' (take (zy (length v0'') 1) (drop 1 v0'')) o1' o0'') .fail)) .fail) .fail) .fail) b':=by kernel_rfl
theorem HX(s t v0:List UInt8)(v4:Int)(o0:List Bool)(v0':List UInt8)(o1:List Bool)(o0':List Bool)(v0'':List UInt8)(o1':List Bool)(o0'':List Bool):stepT Y6 (L8 s t v0 v4 o0 v0' o1 o0' v0'' o1' o0'')=let a':=(↑(zk (getD v0'' 0 (0:UInt8))):Int);let b':Tr:=.leaf (.dat zj v0'') ([(1,.arr false 258 zi o1'),(0,.arr false 258 zi o0'')]);.ite (decide ((↑(length v0''):Int)>0)) (.ite (decide (0<(↑(length v0''):Int))) (.ite (decide ((0:yz (ze yf))<=a')&&decide (a'<(↑256:Int))) (.ite (decide (toNat a'<length o1')) (.ite (!getD o1' (toNat a') false) b' (.ite (decide (1<=length v0'')&&decide (length v0''<=length v0'')) (L8 s t v0 v4 o0 v0' o1 o0' (take (zy (length v0'') 1) (drop 1 v0'')) o1' o0'') .fail)) .fail) .fail) .fail) b':=by kernel_rfl
end T195
namespace T141
def T(s:List UInt8):Tr:=tree XH1 false 9 141 (Af ([zj]) s)
theorem An(s:List UInt8):T s=.ite (!s==[]) (.ite (Sp.sP s [(48:UInt8),(49:UInt8),(50:UInt8),(51:UInt8),(52:UInt8),(53:UInt8),(54:UInt8),(55:UInt8),(56:UInt8),(57:UInt8)]) (.ite (Sp.O9 s==[]) (.ite (decide (0<(length s:Int))) (.ite ((↑(zk (getD s 0 (0:UInt8))):Int) !=48) (.leaf (.bl true) []) (.leaf (.dat zi (s==[(48:UInt8)])) [])) .fail) (.leaf (.bl false) [])) .fail) (.leaf (.bl false) []):=by kernel_rfl
end T141
namespace T140
def T(s t:List UInt8):Tr:=tree NQ false 9 140 (Af ([zj,zj]) (s,t))
theorem An(s t:List UInt8):T s t=let a':=(length t:Int);let b':Tr:=.leaf (.tup [.dat zj s,.bl false]) [];let c':=decide (toNat a'<=length s);.ite (decide ((length s:Int)>=a')) (.ite (decide (0<=a')&&decide (0<=toNat a')&&c') (.ite (!take (toNat a') s==t) b' (.ite (decide (0<=a')&&true&&c'&&decide (length s<=length s)) (.leaf (.tup [.dat zj (take (zy (length s) (toNat a')) (drop (toNat a') s)),.bl true]) []) .fail)) .fail) b':=by kernel_rfl
end T140
namespace T131
def T(s t:List UInt8):Tr:=tree XH2 false 9 131 (Af ([zj,zj]) (s,t))
theorem An(s t:List UInt8):T s t=let b':=(↑(zk (getD t 0 (0:UInt8))):Int);let c':=(length t:Int);let d':Tr:=.leaf (.tup [.dat zj s,.dat zj [],.bl false]) [];let g':=decide (length s<=length s);let i':=BG [ze yf];let e':=zc .i64 (Sp.Oa s b'+c');let f':=zc .i64 ((-1)+c');let h':=zc .i64 (0+c');let j':=Sp.Oa s b';let a':Tr:=.ite true (.ite (decide (0<=length s)) (.ite (decide (0<=zc .i64 (0+c'))&&true&&decide (toNat h'<=length s)&&g') (.leaf (.tup [.dat zj (take 0 s),.dat zj (take (zy (length s) (toNat h')) (drop (toNat h') s)),.bl true]) []) .fail) .fail) d';.ite (c'==0) a' (.ite (t==s) a' (.ite (c'==1) (.ite (decide (0<c')) (.ite (decide ((0:yz i')<=b')&&decide (b'<(256:yz i'))) (.ite (decide (Sp.Oa s b'>=0)) (.ite (decide (0<=Sp.Oa s b')&&decide (0<=toNat j')&&decide (toNat j'<=length s)) (.ite (decide (0<=zc .i64 (Sp.Oa s b'+c'))&&true&&decide (toNat e'<=length s)&&g') (.leaf (.tup [.dat zj (take (toNat j') s),.dat zj (take (zy (length s) (toNat e')) (drop (toNat e') s)),.bl true]) []) .fail) .fail) d') .fail) .fail) (.ite (decide (c'>=(length s:Int))) (.ite false (.ite (false&&decide (0<=length s)) (.ite (decide (0<=zc .i64 ((-1)+c'))&&true&&decide (toNat f'<=length s)&&g') (.leaf (.tup [.dat zj (take 0 s),.dat zj (take (zy (length s) (toNat f')) (drop (toNat f') s)),.bl true]) []) .fail) .fail) d') .fail))):=by kernel_rfl
end T131
namespace T202
def T(w:List Int):Tr:=tree lG false 9 202 (Af ([zg i64]) w)
def L1(v0:List Int):Tr:=re ((T [])) (AF 21 [(0,.dat (zg i64) v0)] [] 0)
theorem An(w:List Int):T w=L1 w:=by kernel_rfl
theorem Au(v0:List Int):stepT lG (L1 v0)=let b':=(length v0:Int);let d':Tr:=.leaf (.dat (zg i64) v0) [];let a':=zc .i64 (b'-1);let c':=decide (0<=zc .i64 (b'-1));.ite (decide (b'>0)) (.ite (c'&&decide (zc .i64 (b'-1)<b')) (.ite (getD v0 (toNat a') 0==0) (.ite (c'&&decide (0<=toNat a')&&decide (toNat a'<=length v0)) (L1 (take (toNat a') v0)) .fail) d') .fail) d':=by kernel_rfl
end T202
namespace T159
def T(n:Bool)(w:List Int):Tr:=tree aW false 9 159 (Af ([zi,zg i64]) (n,w))
theorem An(n:Bool)(w:List Int):T n w=let a':=decide ((↑(length (Av w)):Int)>0);.ite (decide (length w<=20000)) (.ite n (.leaf (zp [.dat zi a',.dat (zg i64) (Av w)]) ([(0,.box [.dat zi a',.dat (zg i64) (Av w)])])) (.leaf (zp [.bl false,.dat (zg i64) (Av w)]) ([(0,.box [.bl false,.dat (zg i64) (Av w)])]))) .fail:=by kernel_rfl
end T159
namespace T161
def T(a b:List Int):Tr:=tree lG false 9 161 (Af ([zg i64,zg i64]) (a,b))
def L1(v0 v1:List Int)(v5:Int):Tr:=re ((T [] []).R) (AF 41 [(0,.dat (zg i64) v0),(1,.dat (zg i64) v1),(5,.dat i64 v5)] [] 0)
theorem An(a b:List Int):T a b=let a':=(length a:Int);.ite (a' !=(length b:Int)) (.ite (decide (a'<(length b:Int))) (.leaf (.dat i64 (-1:Int)) []) (.leaf (.dat i64 (1:Int)) [])) (L1 a b (zc .i64 (a'-1))):=by kernel_rfl
theorem Au(v0 v1:List Int)(v5:Int):stepT lG (L1 v0 v1 v5)=let a':=decide (0<=v5)&&decide (v5<(length v0:Int));let b':=decide (0<=v5)&&decide (v5<(length v1:Int));.ite (decide (v5>=0)) (.ite a' (.ite b' (.ite (decide (getD v0 (toNat v5) 0<getD v1 (toNat v5) 0)) (.leaf (.dat i64 (-1:Int)) []) (.ite a' (.ite b' (.ite (decide (getD v0 (toNat v5) 0>getD v1 (toNat v5) 0)) (.leaf (.dat i64 (1:Int)) []) (L1 v0 v1 (zc .i64 (v5-1)))) .fail) .fail)) .fail) .fail) (.leaf (.dat i64 (0:Int)) []):=by kernel_rfl
end T161
namespace T163
def T(a b:List Int):Tr:=tree aW false 9 163 (Af ([zg i64,zg i64]) (a,b))
def L1(v0 v1:List Int)(v5n:Nat)(v6:Int)(o0:List Int):Tr:=re ((T [] []).L) (AF 72 [(0,.dat (zg i64) v0),(1,.dat (zg i64) v1),(5,.sl 0 1 0 v5n none),(6,.dat i64 v6)] [(0,.arr false 3 i64 o0)] 1)
theorem An(a b:List Int):T a b=let a':=(length a:Int)+(length b:Int);let b':=zc .i64 a';.ite (decide (0<=zc .i64 a')&&decide (zc .i64 a'=zc .i64 a')&&decide (8*toNat b'<=281474976710656)&&decide (zc .i64 a'<9223372036854775808)) (L1 a b (toNat b') 0 (replicate (toNat b') 0)) .fail:=by kernel_rfl
def L2(v0 v1:List Int)(v5n:Nat)(v6 v7 v8:Int)(o0:List Int):Tr:=re ((stepT aW (L1 [] [] 0 0 [])).L) (AF 72 [(0,.dat (zg i64) v0),(1,.dat (zg i64) v1),(5,.sl 0 1 0 v5n none),(6,.dat i64 v6),(7,.dat i64 v7),(8,.dat i64 v8)] [(0,.arr false 3 i64 o0)] 1)
theorem Au(v0 v1:List Int)(v5n:Nat)(v6:Int)(o0:List Int):stepT aW (L1 v0 v1 v5n v6 o0)=.ite (decide (v6<(length v0:Int))) (L2 v0 v1 v5n v6 0 0 o0) (.ite (decide (0+v5n<=length o0)&&true&&decide (length (take v5n o0)<=20000)) (.leaf (.dat (zg i64) (Av (take v5n o0))) ([(0,.arr true 3 i64 o0)])) .fail):=by kernel_rfl
theorem AV(v0 v1:List Int)(v5n:Nat)(v6 v7 v8:Int)(o0:List Int):stepT aW (L2 v0 v1 v5n v6 v7 v8 o0)=let c':=decide (0<=zc .i64 (v6+v8))&&decide (zc .i64 (v6+v8)<(↑v5n:Int));let d':=zc .i64 (v6+v8);let i':=(length v1:Int);let a':=zc .i64 (zc .i64 (getD o0 (toNat d') 0+zc .i64 (getD v0 (toNat v6) 0*getD v1 (toNat v8) 0))+v7);let b':=v6+i';let g':=decide (toNat d'<length o0);let e':=decide (0<=zc .i64 b')&&decide (zc .i64 b'<(↑v5n:Int));let f':=zc .i64 b';let h':=decide (toNat f'<length o0);.ite (decide (v8<i')) (.ite c' (.ite g' (.ite (decide (0<=v6)&&decide (v6<(length v0:Int))) (.ite (decide (0<=v8)&&decide (v8<i')) (.ite true (.ite c' (.ite g' (.ite true (L2 v0 v1 v5n v6 (zc .i64 (yn a' 1000000000)) (zc .i64 (v8+1)) (set o0 (toNat d') (z7 a' 1000000000))) .fail) .fail) .fail) .fail) .fail) .fail) .fail) .fail) (.ite e' (.ite h' (.ite e' (.ite h' (L1 v0 v1 v5n (zc .i64 (v6+1)) (set o0 (toNat f') (zc .i64 (getD o0 (toNat f') 0+v7)))) .fail) .fail) .fail) .fail):=by kernel_rfl
end T163
namespace T201
def T(a:List Int)(d:Int):Tr:=tree aW false 9 201 (Af ([zg i64,ze yk]) (a,d))
def L1(v0:List Int)(v1:Int)(v6n:Nat)(v7 v8:Int)(o0:List Int):Tr:=re ((T [] 0).L) (AF 39 [(0,.dat (zg i64) v0),(1,.dat i64 v1),(6,.sl 0 1 0 v6n none),(7,.dat i64 v7),(8,.dat i64 v8)] [(0,.arr false 3 i64 o0)] 1)
theorem An(a:List Int)(d:Int):T a d=let a':=(length a:Int);.ite (decide (0<=a')&&decide (a'=a')&&decide (8*toNat a'<=281474976710656)&&decide (a'<9223372036854775808)) (L1 a d (toNat a') 0 (zc .i64 (a'-1)) (replicate (toNat a') 0)) .fail:=by kernel_rfl
theorem Au(v0:List Int)(v1:Int)(v6n:Nat)(v7 v8:Int)(o0:List Int):stepT aW (L1 v0 v1 v6n v7 v8 o0)=let a':=zc .i64 (zc .i64 (v7*1000000000)+getD v0 (toNat v8) 0);.ite (decide (v8>=0)) (.ite (decide (0<=v8)&&decide (v8<(length v0:Int))) (.ite (decide (v1≠0)) (.ite (decide (0<=v8)&&decide (v8<(↑v6n:Int))) (.ite (decide (toNat v8<length o0)) (.ite (decide (v1≠0)) (L1 v0 v1 v6n (z7 a' v1) (zc .i64 (v8-1)) (set o0 (toNat v8) (zc .i64 (yn a' v1)))) .fail) .fail) .fail) .fail) .fail) (.ite (decide (0+v6n<=length o0)&&true&&decide (length (take v6n o0)<=20000)) (.leaf (.tup [.dat (zg i64) (Av (take v6n o0)),.dat i64 v7]) ([(0,.arr true 3 i64 o0)])) .fail):=by kernel_rfl
end T201
namespace T157
def T(a b:List Int):Tr:=tree LR false 9 157 (Af ([zg i64,zg i64]) (a,b))
def L1(v0:List Int)(v8n:Nat)(v9:List Int)(v10:Int)(v11n:Nat)(o1 o0:List Int):Tr:=re ((T [] []).L.R.R.L.L.L.L.L) (AF 206 [(0,.dat (zg i64) v0),(8,.sl 0 1 0 v8n none),(9,.dat (zg i64) v9),(10,.dat i64 v10),(11,.sl 1 1 0 v11n none)] [(1,.arr false 3 i64 o1),(0,.arr true 3 i64 o0)] 2)
theorem An(a b:List Int):T a b=let c':=(length b:Int);let e':=getD b (toNat (zc .i64 (c'-1))) 0+1;let a':=yn 1000000000 (zc .i64 e');let b':=At a*At [zc .i64 a'];let d':=BV (At b*At [zc .i64 a']);.ite (A9 a&&A9 b) (.ite (decide (Co (At a) (At b)<0)) (.leaf (.tup [.nil,.dat (zg i64) a]) []) (.ite (c'==1) (.ite (decide (0<c')) (.ite (JO a&&decide (0<getD b 0 0)&&decide (getD b 0 0<1000000000)) (.ite (decide (1<=1)&&true&&decide (1<=20000)) (.leaf (.tup [.dat (zg i64) (BV (At a/getD b 0 0)),.dat (zg i64) (Av [At a % getD b 0 0])]) ([(0,.arr true 3 i64 [At a % getD b 0 0])])) .fail) .fail) .fail) (.ite (decide (0<=zc .i64 (c'-1))&&decide (zc .i64 (c'-1)<c')) (.ite (decide (zc .i64 e'≠0)) (.ite (decide (1<=1)&&true&&(Sp.hR b&&Sp.hR [zc .i64 a'])) (.ite (decide (1<=1)&&true&&(Sp.hR a&&Sp.hR [zc .i64 a'])) (.ite (decide ((2*(0+length (BV b'))+1000)*8<=281474976710656)) (L1 a 1 d' ((↑(length d'):Int)) (zh 0 (length (BV b'))) ([]++BV b') ([zc .i64 a'])) .fail) .fail) .fail) .fail) .fail))) .fail:=by kernel_rfl
def L2(v8n:Nat)(v9:List Int)(v10:Int)(v11n v12n:Nat)(v13:Int)(o2 o1 o0:List Int):Tr:=re ((stepT LR (L1 [] 0 [] 0 0 [] [])).R.L) (AF 206 [(8,.sl 0 1 0 v8n none),(9,.dat (zg i64) v9),(10,.dat i64 v10),(11,.sl 1 1 0 v11n none),(12,.sl 2 1 0 v12n none),(13,.dat i64 v13)] [(2,.arr false 3 i64 o2),(1,.arr false 3 i64 o1),(0,.arr true 3 i64 o0)] 3)
theorem Au(v0:List Int)(v8n:Nat)(v9:List Int)(v10:Int)(v11n:Nat)(o1 o0:List Int):stepT LR (L1 v0 v8n v9 v10 v11n o1 o0)=let a':=(↑v11n:Int)-v10;let b':=zc .i64 a';.ite (decide ((↑v11n:Int)<zc .i64 ((length v0:Int)+1))) (.ite (decide (v11n=length o1)&&decide ((2*(v11n+1)+1000)*8<=281474976710656)) (L1 v0 v8n v9 v10 (zh v11n 1) (o1++[0]) o0) .fail) (.ite (decide (0<=zc .i64 a')&&decide (zc .i64 a'=zc .i64 a')&&decide (8*toNat b'<=281474976710656)&&decide (zc .i64 a'<9223372036854775808)) (L2 v8n v9 v10 v11n (toNat b') (zc .i64 (zc .i64 a'-1)) (replicate (toNat b') 0) o1 o0) .fail):=by kernel_rfl
def L3(v8n:Nat)(v9:List Int)(v10:Int)(v11n v12n:Nat)(v13:Int)(o2 o1 o0:List Int)(v0n:Nat)(v1:List Int)(v2 v7:Int)(v9':Int)(v10':Int)(o2':List Int)(o1':List Int)(o0':List Int):Tr:=re ((stepT LR (L2 v8n v9 v10 v11n v12n v13 o2 o1 o0)).L.L.L.L.L.L.L.L.L) (AF 77 [(0,.sl 1 1 0 v0n none),(1,.dat (zg i64) v1),(2,.dat i64 v2),(7,.dat i64 v7),(9,.dat i64 v9'),(10,.dat i64 v10')] [(2,.arr false 3 i64 o2'),(1,.arr false 3 i64 o1'),(0,.arr true 3 i64 o0')] 3)
theorem AV(v8n:Nat)(v9:List Int)(v10:Int)(v11n v12n:Nat)(v13:Int)(o2 o1 o0:List Int):stepT LR (L2 v8n v9 v10 v11n v12n v13 o2 o1 o0)=let a':=(length v9:Int);let f':=take (toNat v10) o1;let c':=toNat (zc .i64 (a'-1));let d':=zc .i64 (v13+a')-1;let e':=decide (0<=zc .i64 (a'-1))&&decide (zc .i64 (a'-1)<a');let g':=zc .i64 (v13+a');let b':=zc .i64 (zc .i64 (getD o1 (toNat g') 0*1000000000)+getD o1 (toNat (zc .i64 d')) 0);let h':=decide (getD v9 c' 0≠0);.ite (decide (v13>=0)) (.ite (decide (0<=zc .i64 (v13+a'))&&decide (zc .i64 (v13+a')<(↑v11n:Int))) (.ite (decide (toNat g'<length o1)) (.ite (decide (0<=zc .i64 d')&&decide (zc .i64 d'<(↑v11n:Int))) (.ite (decide (toNat (zc .i64 d')<length o1)) (.ite e' (.ite h' (.ite e' (.ite h' (L3 v8n v9 v10 v11n v12n v13 o2 o1 o0 v11n v9 v13 (a') (zc .i64 (yn b' (getD v9 c' 0))) (z7 b' (getD v9 c' 0)) o2 o1 o0) .fail) .fail) .fail) .fail) .fail) .fail) .fail) .fail) (.ite (decide (0<=v10)&&true&&decide (0<=toNat v10)&&decide (toNat v10<=z6 none v11n)&&decide (z6 none v11n<=z6 none v11n)&&true) (.ite (decide (0<(↑v8n:Int))) (.ite (decide (0<length o0)) (.ite (decide (0+toNat v10<=length o1)&&true&&decide (length f'<=20000)) (.ite (JO (Av f')&&decide (0<getD o0 0 0)&&decide (getD o0 0 0<1000000000)) (.ite (decide (0+v12n<=length o2)&&true&&decide (length (take v12n o2)<=20000)) (.leaf (.tup [.dat (zg i64) (Av (take v12n o2)),.dat (zg i64) (BV (At (Av f')/getD o0 0 0))]) ([(2,.arr true 3 i64 o2),(1,.arr true 3 i64 o1),(0,.arr true 3 i64 o0)])) .fail) .fail) .fail) .fail) .fail) .fail):=by kernel_rfl
def L4(v8n:Nat)(v9:List Int)(v10:Int)(v11n v12n:Nat)(v13 v14 v15 v16:Int)(o2 o1 o0:List Int):Tr:=re ((stepT LR (L3 0 [] 0 0 0 0 [] [] [] 0 [] 0 0 0 0 [] [] [])).L.L.L) (AF 206 [(8,.sl 0 1 0 v8n none),(9,.dat (zg i64) v9),(10,.dat i64 v10),(11,.sl 1 1 0 v11n none),(12,.sl 2 1 0 v12n none),(13,.dat i64 v13),(14,.dat i64 v14),(15,.dat i64 v15),(16,.dat i64 v16)] [(2,.arr false 3 i64 o2),(1,.arr false 3 i64 o1),(0,.arr true 3 i64 o0)] 3)
theorem C5(v8n:Nat)(v9:List Int)(v10:Int)(v11n v12n:Nat)(v13:Int)(o2 o1 o0:List Int)(v0n:Nat)(v1:List Int)(v2 v7:Int)(v9':Int)(v10':Int)(o2':List Int)(o1':List Int)(o0':List Int):stepT LR (L3 v8n v9 v10 v11n v12n v13 o2 o1 o0 v0n v1 v2 v7 v9' v10' o2' o1' o0')=let b':=zc .i64 (v2+v7)-2;let c':=v10'+getD v1 (toNat (zc .i64 (v7-1))) 0;let d':=zc .i64 (v9'-1);let a':Tr:=.ite (decide (0<=zc .i64 (v7-1))&&decide (zc .i64 (v7-1)<(length v1:Int))) (.ite (decide (zc .i64 c'>=1000000000)) (L4 v8n v9 v10 v11n v12n v13 d' 0 0 o2' o1' o0') (L3 v8n v9 v10 v11n v12n v13 o2 o1 o0 v0n v1 v2 v7 d' (zc .i64 c') o2' o1' o0')) .fail;.ite (decide (v9'>=1000000000)) a' (.ite (decide (0<=zc .i64 (v7-2))&&decide (zc .i64 (v7-2)<(length v1:Int))) (.ite (decide (0<=zc .i64 b')&&decide (zc .i64 b'<(↑v0n:Int))) (.ite (decide (toNat (zc .i64 b')<length o1')) (.ite (decide (zc .i64 (v9'*getD v1 (toNat (zc .i64 (v7-2))) 0)>zc .i64 (zc .i64 (v10'*1000000000)+getD o1' (toNat (zc .i64 b')) 0))) a' (L4 v8n v9 v10 v11n v12n v13 v9' 0 0 o2' o1' o0')) .fail) .fail) .fail):=by kernel_rfl
def L5(v8n:Nat)(v9:List Int)(v10:Int)(v11n v12n:Nat)(v13 v14 v19 v20:Int)(o2 o1 o0:List Int):Tr:=re ((stepT LR (L4 0 [] 0 0 0 0 0 0 0 [] [] [])).R.L.L.L.L.L.L.L) (AF 206 [(8,.sl 0 1 0 v8n none),(9,.dat (zg i64) v9),(10,.dat i64 v10),(11,.sl 1 1 0 v11n none),(12,.sl 2 1 0 v12n none),(13,.dat i64 v13),(14,.dat i64 v14),(19,.dat i64 v19),(20,.dat i64 v20)] [(2,.arr false 3 i64 o2),(1,.arr false 3 i64 o1),(0,.arr true 3 i64 o0)] 3)
theorem CT(v8n:Nat)(v9:List Int)(v10:Int)(v11n v12n:Nat)(v13 v14 v15 v16:Int)(o2 o1 o0:List Int):stepT LR (L4 v8n v9 v10 v11n v12n v13 v14 v15 v16 o2 o1 o0)=let c':=decide (0<=zc .i64 (v16+v13))&&decide (zc .i64 (v16+v13)<(↑v11n:Int));let d':=decide (0<=zc .i64 (v13+v10))&&decide (zc .i64 (v13+v10)<(↑v11n:Int));let e':=zc .i64 (zc .i64 (v14*getD v9 (toNat v16) 0)+v15);let f':=zc .i64 (v16+v13);let g':=zc .i64 (v13+v10);let j':=zc .i64 (v16+1);let a':=set o1 (toNat g') (zc .i64 (getD o1 (toNat g') 0-v15));let b':=getD o1 (toNat f') 0-z7 e' 1000000000;let h':=decide (toNat f'<length o1);let i':=decide (toNat g'<length o1);let k':=yn e' 1000000000;.ite (decide (v16<v10)) (.ite (decide (0<=v16)&&decide (v16<(length v9:Int))) (.ite c' (.ite h' (.ite true (.ite true (.ite (decide (zc .i64 b'<0)) (.ite c' (.ite h' (L4 v8n v9 v10 v11n v12n v13 v14 (zc .i64 (zc .i64 k'+1)) j' o2 (set o1 (toNat f') (zc .i64 (zc .i64 b'+1000000000))) o0) .fail) .fail) (.ite c' (.ite h' (L4 v8n v9 v10 v11n v12n v13 v14 (zc .i64 k') j' o2 (set o1 (toNat f') (zc .i64 b')) o0) .fail) .fail)) .fail) .fail) .fail) .fail) .fail) (.ite d' (.ite i' (.ite d' (.ite i' (.ite d' (.ite (decide (toNat g'<length a')) (.ite (decide (getD a' (toNat g') 0<0)) (L5 v8n v9 v10 v11n v12n v13 (zc .i64 (v14-1)) 0 0 o2 a' o0) (.ite (decide (0<=v13)&&decide (v13<(↑v12n:Int))) (.ite (decide (toNat v13<length o2)) (L2 v8n v9 v10 v11n v12n (zc .i64 (v13-1)) (set o2 (toNat v13) v14) a' o0) .fail) .fail)) .fail) .fail) .fail) .fail) .fail) .fail):=by kernel_rfl
theorem Es(v8n:Nat)(v9:List Int)(v10:Int)(v11n v12n:Nat)(v13 v14 v19 v20:Int)(o2 o1 o0:List Int):stepT LR (L5 v8n v9 v10 v11n v12n v13 v14 v19 v20 o2 o1 o0)=let b':=decide (0<=zc .i64 (v20+v13))&&decide (zc .i64 (v20+v13)<(↑v11n:Int));let c':=decide (0<=zc .i64 (v13+v10))&&decide (zc .i64 (v13+v10)<(↑v11n:Int));let d':=zc .i64 (v20+v13);let e':=zc .i64 (v13+v10);let a':=zc .i64 (zc .i64 (getD o1 (toNat d') 0+getD v9 (toNat v20) 0)+v19);let f':=decide (toNat d'<length o1);let g':=decide (toNat e'<length o1);.ite (decide (v20<v10)) (.ite b' (.ite f' (.ite (decide (0<=v20)&&decide (v20<(length v9:Int))) (.ite true (.ite b' (.ite f' (.ite true (L5 v8n v9 v10 v11n v12n v13 v14 (zc .i64 (yn a' 1000000000)) (zc .i64 (v20+1)) o2 (set o1 (toNat d') (z7 a' 1000000000)) o0) .fail) .fail) .fail) .fail) .fail) .fail) .fail) (.ite c' (.ite g' (.ite c' (.ite g' (.ite (decide (0<=v13)&&decide (v13<(↑v12n:Int))) (.ite (decide (toNat v13<length o2)) (L2 v8n v9 v10 v11n v12n (zc .i64 (v13-1)) (set o2 (toNat v13) v14) (set o1 (toNat e') (zc .i64 (getD o1 (toNat e') 0+v19))) o0) .fail) .fail) .fail) .fail) .fail) .fail):=by kernel_rfl
end T157
namespace T129
def T(a b:List Int):Tr:=tree XG3 false 9 129 (Af ([zg i64,zg i64]) (a,b))
def L1(v0 v1:List Int):Tr:=re ((T [] [])) (AF 19 [(0,.dat (zg i64) v0),(1,.dat (zg i64) v1)] [] 0)
theorem An(a b:List Int):T a b=L1 a b:=by kernel_rfl
theorem Au(v0 v1:List Int):stepT XG3 (L1 v0 v1)=.ite (decide ((length v1:Int)>0)) (.ite (A9 v0&&A9 v1&&decide (length v0<=9000)&&decide (length v1<=9000)&&decide (0<At v1)) (L1 v1 (BV (At v0 % At v1))) .fail) (.leaf (.dat (zg i64) v0) []):=by kernel_rfl
end T129
namespace T151
def T(s:List UInt8):Tr:=tree lG false 9 151 (Af ([zj]) s)
def L1(v0:List UInt8)(v3 v4:Int):Tr:=re ((T [])) (AF 20 [(0,.dat zj v0),(3,.dat i64 v3),(4,.dat i64 v4)] [] 0)
theorem An(s:List UInt8):T s=L1 s 0 0:=by kernel_rfl
theorem Au(v0:List UInt8)(v3 v4:Int):stepT lG (L1 v0 v3 v4)=let a':=decide (v4<(length v0:Int));.ite (a') (.ite (decide (0<=v4)&&a') (L1 v0 (zc .i64 (zc .i64 (zc .i64 (10*v3)+zc .i64 (↑(zk (getD v0 (toNat v4) (0:UInt8))):Int))-48)) (zc .i64 (v4+1))) .fail) (.leaf (.dat i64 v3) []):=by kernel_rfl
end T151
namespace T155
def T(s:List UInt8):Tr:=tree bC false 9 155 (Af ([zj]) s)
def L1(v0:List UInt8)(v3:Bool):Tr:=re ((T []).L.L.L.L) (AF 40 [(0,.dat zj v0),(2,.ptr 0 0),(3,.dat zi v3),(4,.nil)] [(0,.box [.bl false,.nil])] 1)
def L2(v0:List UInt8):Tr:=re ((T []).R) (AF 40 [(0,.dat zj v0),(2,.ptr 0 0),(3,.bl false),(4,.nil)] [(0,.box [.bl false,.nil])] 1)
theorem An(s:List UInt8):T s=let a':=(↑(zk (getD s 0 (0:UInt8))):Int)==45;.ite (decide ((length s:Int)>0)) (.ite (decide (0<(length s:Int))) (.ite a' (.ite (decide (1<=length s)&&decide (length s<=length s)) (L1 (take (zy (length s) 1) (drop 1 s)) a') .fail) (L1 s a')) .fail) (L2 s):=by kernel_rfl
def L3(v0:List UInt8)(v3:Bool)(v4n:Nat)(o1:List Int):Tr:=re ((stepT bC (L1 [] false)).L.L.L.L.L) (AF 40 [(0,.dat zj v0),(2,.ptr 0 0),(3,.dat zi v3),(4,.sl 1 1 0 v4n none)] [(1,.arr false 3 i64 o1),(0,.box [.bl false,.nil])] 2)
theorem Au(v0:List UInt8)(v3:Bool):stepT bC (L1 v0 v3)=let b':=decide (1<=1)&&decide (0<1)&&decide ((2*1+1000)*8<=281474976710656);let e':=(length v0:Int);let g':=Cg v3 [BB v0];let h':=Av [BB v0];let a':=zc .i64 (e'-9);let d':=decide (0<=zc .i64 (e'-9));let c':=take (zy (length v0) (toNat a')) (drop (toNat a') v0);let f':=decide (toNat a'<=length v0);.ite (decide (e'>9)) (.ite (d'&&true&&f'&&decide (length v0<=length v0)) (.ite (D0 c') (.ite b' (.ite (d'&&decide (0<=toNat a')&&f') (L3 (take (toNat a') v0) v3 1 ([BB c'])) .fail) .fail) .fail) .fail) (.ite (D0 v0) (.ite b' (.ite (decide (0+1<=1)&&true&&decide (1<=20000)) (.leaf (zp [.dat zi g',.dat (zg i64) h']) ([(zh 1 1,.arr true 3 i64 [BB v0]),(1,.arr false 3 i64 [BB v0]),(0,.box [.dat zi g',.dat (zg i64) h'])])) .fail) .fail) .fail):=by kernel_rfl
def L4(v0:List UInt8)(v4n:Nat)(o1:List Int):Tr:=re ((stepT bC (L2 [])).L.L.L.L.L) (AF 40 [(0,.dat zj v0),(2,.ptr 0 0),(3,.bl false),(4,.sl 1 1 0 v4n none)] [(1,.arr false 3 i64 o1),(0,.box [.bl false,.nil])] 2)
theorem AV(v0:List UInt8):stepT bC (L2 v0)=let b':=decide (1<=1)&&decide (0<1)&&decide ((2*1+1000)*8<=281474976710656);let e':=Cg false [BB v0];let f':=(length v0:Int);let h':=Av [BB v0];let a':=zc .i64 (f'-9);let d':=decide (0<=zc .i64 (f'-9));let c':=take (zy (length v0) (toNat a')) (drop (toNat a') v0);let g':=decide (toNat a'<=length v0);.ite (decide (f'>9)) (.ite (d'&&true&&g'&&decide (length v0<=length v0)) (.ite (D0 c') (.ite b' (.ite (d'&&decide (0<=toNat a')&&g') (L4 (take (toNat a') v0) 1 ([BB c'])) .fail) .fail) .fail) .fail) (.ite (D0 v0) (.ite b' (.ite (decide (0+1<=1)&&true&&decide (1<=20000)) (.leaf (zp [.dat zi e',.dat (zg i64) h']) ([(zh 1 1,.arr true 3 i64 [BB v0]),(1,.arr false 3 i64 [BB v0]),(0,.box [.dat zi e',.dat (zg i64) h'])])) .fail) .fail) .fail):=by kernel_rfl
theorem C5(v0:List UInt8)(v3:Bool)(v4n:Nat)(o1:List Int):stepT bC (L3 v0 v3 v4n o1)=let c':=decide (1<=1)&&true&&decide (v4n=length o1)&&decide ((2*(v4n+1)+1000)*8<=281474976710656);let f':=o1++[BB v0];let g':=(length v0:Int);let a':=zc .i64 (g'-9);let b':=take (zh v4n 1) f';let e':=decide (0<=zc .i64 (g'-9));let d':=take (zy (length v0) (toNat a')) (drop (toNat a') v0);let h':=decide (toNat a'<=length v0);.ite (decide (g'>9)) (.ite (e'&&true&&h'&&decide (length v0<=length v0)) (.ite (D0 d') (.ite c' (.ite (e'&&decide (0<=toNat a')&&h') (L3 (take (toNat a') v0) v3 (zh v4n 1) (o1++[BB d'])) .fail) .fail) .fail) .fail) (.ite (D0 v0) (.ite c' (.ite (decide (0+zh v4n 1<=length f')&&true&&decide (length b'<=20000)) (.leaf (zp [.dat zi (Cg v3 b'),.dat (zg i64) (Av b')]) ([(zh 2 1,.arr true 3 i64 f'),(2,.arr false 3 i64 [BB v0]),(0,.box [.dat zi (Cg v3 b'),.dat (zg i64) (Av b')])])) .fail) .fail) .fail):=by kernel_rfl
theorem CT(v0:List UInt8)(v4n:Nat)(o1:List Int):stepT bC (L4 v0 v4n o1)=let c':=decide (1<=1)&&true&&decide (v4n=length o1)&&decide ((2*(v4n+1)+1000)*8<=281474976710656);let f':=o1++[BB v0];let g':=(length v0:Int);let a':=zc .i64 (g'-9);let b':=take (zh v4n 1) f';let e':=decide (0<=zc .i64 (g'-9));let d':=take (zy (length v0) (toNat a')) (drop (toNat a') v0);let h':=decide (toNat a'<=length v0);.ite (decide (g'>9)) (.ite (e'&&true&&h'&&decide (length v0<=length v0)) (.ite (D0 d') (.ite c' (.ite (e'&&decide (0<=toNat a')&&h') (L4 (take (toNat a') v0) (zh v4n 1) (o1++[BB d'])) .fail) .fail) .fail) .fail) (.ite (D0 v0) (.ite c' (.ite (decide (0+zh v4n 1<=length f')&&true&&decide (length b'<=20000)) (.leaf (zp [.dat zi (Cg false b'),.dat (zg i64) (Av b')]) ([(zh 2 1,.arr true 3 i64 f'),(2,.arr false 3 i64 [BB v0]),(0,.box [.dat zi (Cg false b'),.dat (zg i64) (Av b')])])) .fail) .fail) .fail):=by kernel_rfl
end T155
namespace T121n
def T(n:Int):Tr:=tree XF0 false 9 121 (Af ([ze yk]) n)
theorem An(n:Int):T n=.leaf (zp [.dat i64 n,.nil]) ([(0,.box [.dat i64 n,.nil])]):=by kernel_rfl
end T121n
namespace T197
def T(a b:Int×List Int):Tr:=tree yN false 9 197 (Af ([zn i64 (zf (ze zd)),zn i64 (zf (ze zd))]) (a,b))
def L1(v8:Bool)(v12 v13:List Int)(o2 o1 o0:Int)(o0_1:List Int):Tr:=re ((T (0,[]) (0,[])).L.L.R.L.L.L) (AF 84 [(3,.ptr 0 0),(4,.ptr 1 0),(5,.ptr 2 0),(8,.dat zi v8),(12,.dat (zg (ze zd)) v12),(13,.dat (zg (ze zd)) v13)] [(2,.box [.dat i64 o2,.nil]),(1,.box [.dat i64 o1,.nil]),(0,.box [.dat i64 o0,.dat (zf (ze zd)) o0_1])] 3)
theorem An(a b:Int×List Int):T a b=let b':=zf (ze zd);let c':=Bw (Ae (Sp.vI (fst a,snd a)));let d':=Bw (Ae (Sp.vI (fst b,snd b)));let e':=yn (fst a) (fst b);let f':=zc .i64 (z7 (fst a) (fst b)+fst b);let h':=z7 (fst a) (fst b);let i':=zh (zh 0 1) 1;let a':Tr:=.ite (yq (fst a,snd a)) (.ite (yq (fst b,snd b)) (.ite (R0 c' d') (L1 (decide (Sp.vI (fst a,snd a)<0)) (Bw (Am c'/Am d')) (Bw (Am c' % Am d')) 0 0 (fst b) (snd b)) .fail) .fail) .fail;let g':=zc .i64 (zc .i64 e'-1);.ite (!decide (0<length (snd a))) (.ite (!decide (0<length (snd b))) (.ite (fst a !=(-9223372036854775808)) (.ite (decide (fst b≠0)) (.ite (decide (fst b≠0)) (.ite (decide (z7 (fst a) (fst b)<0)) (.leaf (.tup [zp [.dat i64 g',.nil],zp [.dat i64 f',.nil]]) ([(zh i' 1,.box [.dat i64 f',.nil]),(zh (zh 0 1) 1,.box [.dat i64 g',.nil]),(zh 0 1,.box [.dat i64 (fst b),.dat b' (snd b)]),(0,.box [.dat i64 (fst a),.dat b' (snd a)])])) (.leaf (.tup [zp [.dat i64 (zc .i64 e'),.nil],zp [.dat i64 h',.nil]]) ([(zh i' 1,.box [.dat i64 h',.nil]),(zh (zh 0 1) 1,.box [.dat i64 (zc .i64 e'),.nil]),(zh 0 1,.box [.dat i64 (fst b),.dat b' (snd b)]),(0,.box [.dat i64 (fst a),.dat b' (snd a)])]))) .fail) .fail) a') a') a':=by kernel_rfl
def L2(o4:Int)(o4_1:List Int)(o3:Int)(o3_1:List Int)(o2 o1 o0:Int)(o0_1:List Int):Tr:=re ((stepT yN (L1 false [] [] 0 0 0 [])).L.L) (AF 84 [(3,.ptr 0 0),(4,.ptr 1 0),(5,.ptr 2 0),(14,.ptr 3 0),(15,.ptr 4 0)] [(4,.box [.dat i64 o4,.dat (zf (ze zd)) o4_1]),(3,.box [.dat i64 o3,.dat (zf (ze zd)) o3_1]),(2,.box [.dat i64 o2,.nil]),(1,.box [.dat i64 o1,.nil]),(0,.box [.dat i64 o0,.dat (zf (ze zd)) o0_1])] 5)
theorem Au(v8:Bool)(v12 v13:List Int)(o2 o1 o0:Int)(o0_1:List Int):stepT yN (L1 v8 v12 v13 o2 o1 o0 o0_1)=let a':=Sp.sg v8 (Am v13);let b':=Sp.sg v8 (Am v12);.ite (Cf v12) (.ite (Cf v13) (L2 (CE a') (CC a') (CE b') (CC b') o2 o1 o0 o0_1) .fail) .fail:=by kernel_rfl
theorem AV(o4:Int)(o4_1:List Int)(o3:Int)(o3_1:List Int)(o2 o1 o0:Int)(o0_1:List Int):stepT yN (L2 o4 o4_1 o3 o3_1 o2 o1 o0 o0_1)=let a':=zf (ze zd);let b':=cR (o3,o3_1) (1,Ca 1);let c':=jU (o3,o3_1) (1,Ca 1);let d':=IX (o4,o4_1) (o0,o0_1);let e':=Ip (o4,o4_1) (o0,o0_1);.ite (yq (o4,o4_1)) (.ite (decide (H3 (o4,o4_1)<0)) (.ite true (.ite (Bc (o3,o3_1)&&Bc (1,Ca 1)) (.ite (Bc (o4,o4_1)&&Bc (o0,o0_1)) (.leaf (.tup [zp [.dat i64 b',.dat a' c'],zp [.dat i64 d',.dat a' e']]) ([(4,.box [.dat i64 d',.dat a' e']),(3,.box [.dat i64 b',.dat a' c']),(2,.box [.dat i64 d',.dat a' e']),(1,.box [.dat i64 b',.dat a' c']),(0,.box [.dat i64 o0,.dat a' o0_1])])) .fail) .fail) .fail) (.leaf (.tup [zp [.dat i64 o3,.dat a' o3_1],zp [.dat i64 o4,.dat a' o4_1]]) ([(4,.box [.dat i64 o4,.dat a' o4_1]),(3,.box [.dat i64 o3,.dat a' o3_1]),(2,.box [.dat i64 o4,.dat a' o4_1]),(1,.box [.dat i64 o3,.dat a' o3_1]),(0,.box [.dat i64 o0,.dat a' o0_1])]))) .fail:=by kernel_rfl
end T197
namespace T144
def T(a b:Int×List Int):Tr:=tree zJ false 9 144 (Af ([zn i64 (zf (ze zd)),zn i64 (zf (ze zd))]) (a,b))
def L1(o2 o1:Int)(o1_1:List Int)(o0:Int)(o0_1:List Int):Tr:=re ((T (0,[]) (0,[])).L.L) (AF 23 [(2,.ptr 0 0),(3,.ptr 1 0),(4,.ptr 2 0)] [(2,.box [.dat i64 o2,.nil]),(1,.box [.dat i64 o1,.dat (zf (ze zd)) o1_1]),(0,.box [.dat i64 o0,.dat (zf (ze zd)) o0_1])] 3)
theorem An(a b:Int×List Int):T a b=.ite (yq (fst a,snd a)) (.ite (yq (fst b,snd b)) (L1 0 (O6 (fst b,snd b)) (PZ (fst b,snd b)) (O6 (fst a,snd a)) (PZ (fst a,snd a))) .fail) .fail:=by kernel_rfl
theorem Au(o2 o1:Int)(o1_1:List Int)(o0:Int)(o0_1:List Int):stepT zJ (L1 o2 o1 o1_1 o0 o0_1)=let a':=zf (ze zd);.ite (yq (o1,o1_1)) (.ite (H3 (o1,o1_1) !=0) (.ite (Bc (o0,o0_1)&&Bc (o1,o1_1)&&decide (0<Sp.vI (o1,o1_1))) (L1 o2 (Xn (o0,o0_1) (o1,o1_1)) (Xk (o0,o0_1) (o1,o1_1)) o1 o1_1) .fail) (.leaf (zp [.dat i64 o0,.dat a' o0_1]) ([(2,.box [.dat i64 o0,.dat a' o0_1]),(1,.box [.dat i64 o1,.dat a' o1_1]),(0,.box [.dat i64 o0,.dat a' o0_1])]))) .fail:=by kernel_rfl
end T144
namespace T185
def T(a:Int×List Int)(k:Int):Tr:=tree yR false 9 185 (Af ([zn i64 (zf (ze zd)),ze yk]) (a,k))
def L1(v1 o2:Int)(o2_1:List Int)(o1 o0:Int)(o0_1:List Int):Tr:=re ((T (0,[]) 0).L) (AF 23 [(1,.dat i64 v1),(2,.ptr 0 0),(4,.ptr 1 0),(5,.ptr 2 0)] [(2,.box [.dat i64 o2,.dat (zf (ze zd)) o2_1]),(1,.box [.dat i64 o1,.nil]),(0,.box [.dat i64 o0,.dat (zf (ze zd)) o0_1])] 3)
theorem An(a:Int×List Int)(k:Int):T a k=.ite true (L1 k 1 (Ca 1) 0 (fst a) (snd a)) .fail:=by kernel_rfl
theorem Au(v1 o2:Int)(o2_1:List Int)(o1 o0:Int)(o0_1:List Int):stepT yR (L1 v1 o2 o2_1 o1 o0 o0_1)=let a':=zf (ze zd);let b':=Int.fdiv v1 (2^1);let c':=Bc (o0,o0_1)&&Bc (o0,o0_1);let d':=FD (o2,o2_1) (o0,o0_1);let e':=FT (o2,o2_1) (o0,o0_1);let f':=FD (o0,o0_1) (o0,o0_1);let g':=FT (o0,o0_1) (o0,o0_1);.ite (decide (v1>0)) (.ite (Hq yk v1 1==1) (.ite (Bc (o2,o2_1)&&Bc (o0,o0_1)) (.ite (decide (v1>1)) (.ite c' (.ite true (L1 b' d' e' o1 f' g') .fail) .fail) (.ite true (L1 b' d' e' o1 o0 o0_1) .fail)) .fail) (.ite (decide (v1>1)) (.ite c' (.ite true (L1 b' o2 o2_1 o1 f' g') .fail) .fail) (.ite true (L1 b' o2 o2_1 o1 o0 o0_1) .fail))) (.leaf (zp [.dat i64 o2,.dat a' o2_1]) ([(2,.box [.dat i64 o2,.dat a' o2_1]),(1,.box [.dat i64 o2,.dat a' o2_1]),(0,.box [.dat i64 o0,.dat a' o0_1])])):=by kernel_rfl
end T185
namespace T221
def T(a b:List Int):Tr:=tree JA false 9 221 (Af ([zg (ze zd),zg (ze zd)]) (a,b))
def L1(v0 v1:List Int)(v6n:Nat)(v7 v8:Int)(o0:List Int):Tr:=re ((T [] []).L.R.L.L) (AF 137 [(0,.dat (zg (ze zd)) v0),(1,.dat (zg (ze zd)) v1),(6,.sl 0 1 0 v6n none),(7,.dat (ze zd) v7),(8,.dat i64 v8)] [(0,.arr false 215 (ze zd) o0)] 1)
def L2(a b:List Int)(v1:Int)(v5n:Nat)(v12:List Int)(v13 v14:Int)(o0:List Int):Tr:=re ((T a b).L.R.R.L.L.L) (AF 40 [(1,.dat i64 v1),(5,.sl 0 1 0 v5n none),(12,.dat (zg (ze zd)) v12),(13,.dat i64 v13),(14,.dat i64 v14)] [(0,.arr false 215 (ze zd) o0)] 1)
theorem An(a b:List Int):T a b=let a':=(length b:Int);let b':=(length a:Int);let c':=zc .i64 (a'+1);let d':=getD b (toNat (zc .i64 (a'-1))) 0;.ite (Cf a&&Cf b) (.ite (decide (Co (Am a) (Am b)<0)) (.leaf (.tup [.nil,.dat (zg (ze zd)) a]) []) (.ite (a'==1) (.ite (decide (0<=b')&&decide (b'=b')&&decide (8*toNat b'<=281474976710656)&&decide (b'<9223372036854775808)) (L1 a b (toNat b') 0 (zc .i64 (b'-1)) (replicate (toNat b') 0)) .fail) (.ite (decide (0<=zc .i64 (a'-1))&&decide (zc .i64 (a'-1)<a')) (.ite (zu d') (.ite (decide (0<=zc .i64 (a'+1))&&decide (zc .i64 (a'+1)=zc .i64 (a'+1))&&decide (8*toNat c'<=281474976710656)&&decide (zc .i64 (a'+1)<9223372036854775808)) (L2 a b (Sp.lz d') (toNat c') b (a') 0 (replicate (toNat c') 0)) .fail) .fail) .fail))) .fail:=by kernel_rfl
theorem Au(v0 v1:List Int)(v6n:Nat)(v7 v8:Int)(o0:List Int):stepT JA (L1 v0 v1 v6n v7 v8 o0)=let a':=ze zd;let b':=getD v0 (toNat v8) 0;.ite (decide (v8>=0)) (.ite (decide (0<=v8)&&decide (v8<(length v0:Int))) (.ite (decide (0<(length v1:Int))) (.ite (zu v7&&zu b'&&zu (getD v1 0 0)&&decide (v7<getD v1 0 0)) (.ite (decide (0<=v8)&&decide (v8<(↑v6n:Int))) (.ite (decide (toNat v8<length o0)) (L1 v0 v1 v6n (Sp.dr v7 b' (getD v1 0 0)) (zc .i64 (v8-1)) (set o0 (toNat v8) (Sp.dq v7 b' (getD v1 0 0)))) .fail) .fail) .fail) .fail) .fail) (.ite (decide (0+v6n<=length o0)&&true&&CO (take v6n o0)) (.ite (decide (1<=1)&&true&&CO [v7]) (.leaf (.tup [.dat (zg a') (Av (take v6n o0)),.dat (zg a') (Av [v7])]) ([(1,.arr true 215 a' [v7]),(0,.arr true 215 a' o0)])) .fail) .fail):=by kernel_rfl
def L3(a b:List Int)(v1:Int)(v5n:Nat)(v12:List Int)(v13 v14:Int)(o0:List Int)(v1':Int)(v5n':Nat)(v12':List Int)(v13':Int)(v14':Int)(o1:List Int)(o0':List Int):Tr:=re ((stepT JA (L2 a b v1 v5n v12 v13 v14 o0)).R.L.L) (AF 40 [(1,.dat i64 v1'),(5,.sl 1 1 0 v5n' none),(12,.dat (zg (ze zd)) v12'),(13,.dat i64 v13'),(14,.dat i64 v14')] [(1,.arr false 215 (ze zd) o1),(0,.arr true 215 (ze zd) o0')] 2)
theorem AV(a b:List Int)(v1:Int)(v5n:Nat)(v12:List Int)(v13 v14:Int)(o0:List Int):stepT JA (L2 a b v1 v5n v12 v13 v14 o0)=let a':=set o0 (toNat v14) (aU zd (getD o0 (toNat v14) 0) (zc .u64 (getD v12 (toNat v14) 0*2^yw (toNat v1) 64)));let b':=(length a:Int)+1;let c':=zc .i64 (v14+1);let e':=decide (0<=v14)&&decide (v14<(↑v5n:Int));let f':=decide (toNat v14<length o0);let d':=zc .i64 b';.ite (decide (v14<v13)) (.ite (decide (0<=v14)&&decide (v14<(length v12:Int))) (.ite e' (.ite f' (.ite (decide (0<=v1)) (.ite e' (.ite f' (.ite (decide (v1>0)) (.ite (decide (0<=zc .i64 (64-v1))) (.ite (decide (0<=zc .i64 (v14+1))&&decide (zc .i64 (v14+1)<(↑v5n:Int))) (.ite (decide (toNat c'<length a')) (L2 a b v1 v5n v12 v13 c' (set a' (toNat c') (Int.fdiv (getD v12 (toNat v14) 0) (2^yw (toNat (zc .i64 (64-v1))) 64)))) .fail) .fail) .fail) (L2 a b v1 v5n v12 v13 c' a')) .fail) .fail) .fail) .fail) .fail) .fail) (.ite (decide (0+v5n<=length o0)&&true&&CO (take v5n o0)) (.ite (decide (0<=zc .i64 b')&&decide (zc .i64 b'=zc .i64 b')&&decide (8*toNat d'<=281474976710656)&&decide (zc .i64 b'<9223372036854775808)) (L3 a b v1 v5n v12 v13 v14 o0 (Sp.lz (getD b (toNat (zc .i64 ((length b:Int)-1))) 0)) (toNat d') a ((length a:Int)) 0 (replicate (toNat d') 0) o0) .fail) .fail):=by kernel_rfl
def L4(v9:Int)(v10:List Int)(v11n:Nat)(v12:Int)(v13n:Nat)(v14:Int)(o1 o0:List Int):Tr:=re ((stepT JA (L3 [] [] 0 0 [] 0 0 [] 0 0 [] 0 0 [] [])).R.L) (AF 137 [(9,.dat i64 v9),(10,.dat (zg (ze zd)) v10),(11,.sl 0 1 0 v11n none),(12,.dat i64 v12),(13,.sl 1 1 0 v13n none),(14,.dat i64 v14)] [(1,.arr false 215 (ze zd) o1),(0,.arr false 215 (ze zd) o0)] 2)
theorem C5(a b:List Int)(v1:Int)(v5n:Nat)(v12:List Int)(v13 v14:Int)(o0:List Int)(v1':Int)(v5n':Nat)(v12':List Int)(v13':Int)(v14':Int)(o1:List Int)(o0':List Int):stepT JA (L3 a b v1 v5n v12 v13 v14 o0 v1' v5n' v12' v13' v14' o1 o0')=let b':=set o1 (toNat v14') (aU zd (getD o1 (toNat v14') 0) (zc .u64 (getD v12' (toNat v14') 0*2^yw (toNat v1') 64)));let c':=zc .i64 (v14'+1);let e':=decide (0<=v14')&&decide (v14'<(↑v5n':Int));let g':=decide (toNat v14'<length o1);let h':=Av (take v5n o0);let d':=(↑(length h'):Int);let a':=zc .i64 ((length a:Int)-d')+1;let f':=zc .i64 a';.ite (decide (v14'<v13')) (.ite (decide (0<=v14')&&decide (v14'<(↑(length v12'):Int))) (.ite e' (.ite g' (.ite (decide (0<=v1')) (.ite e' (.ite g' (.ite (decide (v1'>0)) (.ite (decide (0<=zc .i64 (64-v1'))) (.ite (decide (0<=zc .i64 (v14'+1))&&decide (zc .i64 (v14'+1)<(↑v5n':Int))) (.ite (decide (toNat c'<length b')) (L3 a b v1 v5n v12 v13 v14 o0 v1' v5n' v12' v13' c' (set b' (toNat c') (Int.fdiv (getD v12' (toNat v14') 0) (2^yw (toNat (zc .i64 (64-v1'))) 64))) o0') .fail) .fail) .fail) (L3 a b v1 v5n v12 v13 v14 o0 v1' v5n' v12' v13' c' b' o0')) .fail) .fail) .fail) .fail) .fail) .fail) (.ite (decide (0<=zc .i64 a')&&decide (zc .i64 a'=zc .i64 a')&&decide (8*toNat f'<=281474976710656)&&decide (zc .i64 a'<9223372036854775808)) (L4 (Sp.lz (getD b (toNat (zc .i64 ((length b:Int)-1))) 0)) h' v5n' (d') (toNat f') (zc .i64 ((length a:Int)-d')) (replicate (toNat f') 0) o1) .fail):=by kernel_rfl
def L5(v9:Int)(v10:List Int)(v11n:Nat)(v12:Int)(v13n:Nat)(v14:Int)(o1 o0:List Int)(v0o v0n v0c:Nat)(v1:List Int)(v5 v6 v7 v8:Int)(o1':List Int)(o0':List Int):Tr:=re ((stepT JA (L4 v9 v10 v11n v12 v13n v14 o1 o0)).L.L.L.L.L.L.L.L.L.L) (AF 186 [(0,.sl 0 1 v0o v0n (Option.some v0c)),(1,.dat (zg (ze zd)) v1),(5,.dat i64 v5),(6,.dat (ze zd) v6),(7,.dat (ze zd) v7),(8,.dat (ze zd) v8)] [(1,.arr false 215 (ze zd) o1'),(0,.arr false 215 (ze zd) o0')] 2)
def L6(v9:Int)(v11n:Nat)(v12:Int)(v13n:Nat)(v96 v97:Int)(o1 o0:List Int):Tr:=re ((stepT JA (L4 0 [] 0 0 0 0 [] [])).R) (AF 137 [(9,.dat i64 v9),(11,.sl 0 1 0 v11n none),(12,.dat i64 v12),(13,.sl 1 1 0 v13n none),(96,.dat i64 v96),(97,.dat i64 v97)] [(1,.arr false 215 (ze zd) o1),(0,.arr false 215 (ze zd) o0)] 2)
theorem CT(v9:Int)(v10:List Int)(v11n:Nat)(v12:Int)(v13n:Nat)(v14:Int)(o1 o0:List Int):stepT JA (L4 v9 v10 v11n v12 v13n v14 o1 o0)=let c':=(length v10:Int);let d':=zh 0 (toNat v14);let k':=zy (z6 none v11n) (toNat v14);let p':=zc .i64 (v14+v12)+1;let a':=toNat (zc .i64 (c'-1));let g':=zc .i64 p';let h':=zh (toNat c') d';let l':=decide (zh (toNat c') d'<length o0);let n':=decide (0<=zc .i64 (c'-1));let b':=zy (toNat g') (toNat v14);let e':=n'&&decide (zc .i64 (c'-1)<c');let f':=getD o0 (zh a' d') 0;let j':=getD v10 a' 0;let o':=decide (zh a' d'<length o0);let q':=getD o0 h' 0;let i':=n'&&decide (zc .i64 (c'-1)<(↑b':Int));let m':=decide (0<=c')&&decide (c'<(↑b':Int));.ite (decide (v14>=0)) (.ite (decide (0<=v14)&&decide (0<=zc .i64 p')&&true&&decide (toNat v14<=toNat g')&&decide (toNat g'<=z6 none v11n)&&decide (z6 none v11n<=z6 none v11n)&&true) (.ite m' (.ite l' (.ite e' (.ite (decide (getD o0 h' 0>=getD v10 a' 0)) (.ite i' (.ite o' (.ite e' (.ite (zu f'&&zu j'&&decide ((0:yz (BG [u64]))<=0)&&decide (0<=(1:yz (BG [u64])))) (L5 v9 v10 v11n v12 v13n v14 o1 o0 d' b' k' v10 (c') 18446744073709551615 (HW f' j' 0) (NX f' j' 0) o1 o0) .fail) .fail) .fail) .fail) (.ite m' (.ite l' (.ite i' (.ite o' (.ite e' (.ite (zu q'&&zu f'&&zu j'&&decide (getD o0 h' 0<getD v10 a' 0)) (L5 v9 v10 v11n v12 v13n v14 o1 o0 d' b' k' v10 (c') (Sp.dq q' f' j') (Sp.dr q' f' j') 0 o1 o0) .fail) .fail) .fail) .fail) .fail) .fail)) .fail) .fail) .fail) .fail) (L6 v9 v11n v12 v13n v12 0 o1 o0):=by kernel_rfl
def L7(v9:Int)(v10:List Int)(v11n:Nat)(v12:Int)(v13n:Nat)(v14:Int)(o1 o0:List Int)(v0o v0n v0c:Nat)(v1:List Int)(v5 v6 v11:Int)(v12':Int)(v104 v105:Int)(o1':List Int)(o0':List Int):Tr:=re ((stepT JA (L5 v9 v10 v11n v12 v13n v14 o1 o0 0 0 0 [] 0 0 0 0 [] [])).L.L.L.L) (AF 186 [(0,.sl 0 1 v0o v0n (Option.some v0c)),(1,.dat (zg (ze zd)) v1),(5,.dat i64 v5),(6,.dat (ze zd) v6),(11,.dat (ze zd) v11),(12,.dat (ze zd) v12'),(104,.dat i64 v104),(105,.dat i64 v105)] [(1,.arr false 215 (ze zd) o1'),(0,.arr false 215 (ze zd) o0')] 2)
theorem Es(v9:Int)(v10:List Int)(v11n:Nat)(v12:Int)(v13n:Nat)(v14:Int)(o1 o0:List Int)(v0o v0n v0c:Nat)(v1:List Int)(v5 v6 v7 v8:Int)(o1':List Int)(o0':List Int):stepT JA (L5 v9 v10 v11n v12 v13n v14 o1 o0 v0o v0n v0c v1 v5 v6 v7 v8 o1' o0')=let b':=toNat (zc .i64 (v5-2));let c':=L7 v9 v10 v11n v12 v13n v14 o1 o0 v0o v0n v0c v1 v5 v6 0 0 v5 0 o1' o0';let d':=getD v1 (toNat (zc .i64 (v5-1))) 0;let f':=decide (0<=zc .i64 (v5-2));let a':Tr:=.ite (decide (0<=zc .i64 (v5-1))&&decide (zc .i64 (v5-1)<(length v1:Int))) (.ite (zu v7&&zu d'&&decide ((0:yz (BG [u64]))<=0)&&decide (0<=(1:yz (BG [u64])))) (L5 v9 v10 v11n v12 v13n v14 o1 o0 v0o v0n v0c v1 v5 (zc .u64 (v6-1)) (HW v7 d' 0) (NX v7 d' 0) o1' o0') .fail) .fail;let e':=getD v1 b' 0;.ite (v8==0) (.ite (f'&&decide (zc .i64 (v5-2)<(length v1:Int))) (.ite (zu v6&&zu e') (.ite (decide (QH v6 e'<v7)) c' (.ite (QH v6 e'==v7) (.ite (f'&&decide (zc .i64 (v5-2)<(↑v0n:Int))) (.ite (decide (zh b' v0o<length o0')) (.ite (decide (Ih v6 e'<=getD o0' (zh b' v0o) 0)) c' a') .fail) .fail) a')) .fail) .fail) c':=by kernel_rfl
theorem Fi(v9:Int)(v11n:Nat)(v12:Int)(v13n:Nat)(v96 v97:Int)(o1 o0:List Int):stepT JA (L6 v9 v11n v12 v13n v96 v97 o1 o0)=let a':=set o0 (toNat v97) (Int.fdiv (getD o0 (toNat v97) 0) (2^yw (toNat v9) 64));let b':=decide (0<=v97)&&decide (v97<(↑v11n:Int));let c':=zc .i64 (v97+1);let d':=ze zd;let e':=decide (zc .i64 (v97+1)<(↑v11n:Int));let g':=decide (toNat v97<length o0);let f':=L6 v9 v11n v12 v13n v96 c' o1 a';let h':=decide (toNat v97<length a');.ite (decide (v97<v96)) (.ite b' (.ite g' (.ite (decide (0<=v9)) (.ite b' (.ite g' (.ite (decide (v9>0)) (.ite (e') (.ite b' (.ite h' (.ite (decide (0<=zc .i64 (v97+1))&&e') (.ite (decide (toNat c'<length a')) (.ite (decide (0<=zc .i64 (64-v9))) (.ite b' (.ite h' (L6 v9 v11n v12 v13n v96 c' o1 (set a' (toNat v97) (aU zd (getD a' (toNat v97) 0) (zc .u64 (getD a' (toNat c') 0*2^yw (toNat (zc .i64 (64-v9))) 64))))) .fail) .fail) .fail) .fail) .fail) .fail) .fail) f') f') .fail) .fail) .fail) .fail) .fail) (.ite (decide (0<=v12)&&true&&decide (0<=toNat v12)&&decide (toNat v12<=z6 none v11n)&&decide (z6 none v11n<=z6 none v11n)&&true) (.ite (decide (0+v13n<=length o1)&&true&&CO (take v13n o1)) (.ite (decide (0+toNat v12<=length o0)&&true&&CO (take (toNat v12) o0)) (.leaf (.tup [.dat (zg d') (Av (take v13n o1)),.dat (zg d') (Av (take (toNat v12) o0))]) ([(1,.arr true 215 d' o1),(0,.arr true 215 d' o0)])) .fail) .fail) .fail):=by kernel_rfl
def L8(v9:Int)(v10:List Int)(v11n:Nat)(v12:Int)(v13n:Nat)(v14:Int)(o1 o0:List Int)(v0o v0n v0c:Nat)(v1:List Int)(v5 v6 v17 v156 v157:Int)(o1':List Int)(o0':List Int):Tr:=re ((stepT JA (L7 v9 v10 v11n v12 v13n v14 o1 o0 0 0 0 [] 0 0 0 0 0 0 [] [])).R.L.L.L.L.L.R) (AF 186 [(0,.sl 0 1 v0o v0n (Option.some v0c)),(1,.dat (zg (ze zd)) v1),(5,.dat i64 v5),(6,.dat (ze zd) v6),(17,.dat (ze zd) v17),(156,.dat i64 v156),(157,.dat i64 v157)] [(1,.arr false 215 (ze zd) o1'),(0,.arr false 215 (ze zd) o0')] 2)
theorem Ew(v9:Int)(v10:List Int)(v11n:Nat)(v12:Int)(v13n:Nat)(v14:Int)(o1 o0:List Int)(v0o v0n v0c:Nat)(v1:List Int)(v5 v6 v11:Int)(v12':Int)(v104 v105:Int)(o1':List Int)(o0':List Int):stepT JA (L7 v9 v10 v11n v12 v13n v14 o1 o0 v0o v0n v0c v1 v5 v6 v11 v12' v104 v105 o1' o0')=let b':=zh (toNat v5) v0o;let d':=getD v1 (toNat v105) 0;let e':=decide (zh (toNat v105) v0o<length o0');let g':=decide (zh (toNat v5) v0o<length o0');let h':=decide (0<=v105)&&decide (v105<(↑v0n:Int));let i':=(0:yz (BG [u64]));let j':=(1:yz (BG [u64]));let k':=decide (0<=v5)&&decide (v5<(↑v0n:Int));let n':=zh (toNat v105) v0o;let a':=Ih v6 d';let c':=getD o0' n' 0;let m':=getD o0' b' 0;let f':=set o0' b' (Tl m' v12' v11);let l':=HW a' v12' 0;.ite (decide (v105<v104)) (.ite (decide (0<=v105)&&decide (v105<(length v1:Int))) (.ite (zu v6&&zu d') (.ite (zu a'&&zu v12'&&decide (i'<=0)&&decide (0<=j')) (.ite h' (.ite e' (.ite (zu c'&&zu l'&&decide (i'<=v11)&&decide (v11<=j')) (.ite h' (.ite e' (L7 v9 v10 v11n v12 v13n v14 o1 o0 v0o v0n v0c v1 v5 v6 (Qj c' l' v11) (zc .u64 (QH v6 d'+NX a' v12' 0)) v104 (zc .i64 (v105+1)) o1' (set o0' n' (Tl c' l' v11))) .fail) .fail) .fail) .fail) .fail) .fail) .fail) .fail) (.ite k' (.ite g' (.ite (zu m'&&zu v12'&&decide (i'<=v11)&&decide (v11<=j')) (.ite k' (.ite g' (.ite (Qj m' v12' v11==0) (.ite (decide (0<=v14)&&decide (v14<(↑v13n:Int))) (.ite (decide (toNat v14<length o1')) (L4 v9 v10 v11n v12 v13n (zc .i64 (v14-1)) (set o1' (toNat v14) v6) f') .fail) .fail) (L8 v9 v10 v11n v12 v13n v14 o1 o0 v0o v0n v0c v1 v5 v6 0 v5 0 o1' f')) .fail) .fail) .fail) .fail) .fail):=by kernel_rfl
theorem HX(v9:Int)(v10:List Int)(v11n:Nat)(v12:Int)(v13n:Nat)(v14:Int)(o1 o0:List Int)(v0o v0n v0c:Nat)(v1:List Int)(v5 v6 v17 v156 v157:Int)(o1':List Int)(o0':List Int):stepT JA (L8 v9 v10 v11n v12 v13n v14 o1 o0 v0o v0n v0c v1 v5 v6 v17 v156 v157 o1' o0')=let b':=decide (zh (toNat v157) v0o<length o0');let c':=getD v1 (toNat v157) 0;let d':=decide (zh (toNat v5) v0o<length o0');let e':=decide (0<=v157)&&decide (v157<(↑v0n:Int));let f':=decide (0<=v5)&&decide (v5<(↑v0n:Int));let g':=zh (toNat v157) v0o;let h':=zh (toNat v5) v0o;let a':=getD o0' g' 0;.ite (decide (v157<v156)) (.ite e' (.ite b' (.ite (decide (0<=v157)&&decide (v157<(length v1:Int))) (.ite (zu a'&&zu c'&&decide ((0:yz (BG [u64]))<=v17)&&decide (v17<=(1:yz (BG [u64])))) (.ite e' (.ite b' (L8 v9 v10 v11n v12 v13n v14 o1 o0 v0o v0n v0c v1 v5 v6 (NX a' c' v17) v156 (zc .i64 (v157+1)) o1' (set o0' g' (HW a' c' v17))) .fail) .fail) .fail) .fail) .fail) .fail) (.ite f' (.ite d' (.ite f' (.ite d' (.ite (decide (0<=v14)&&decide (v14<(↑v13n:Int))) (.ite (decide (toNat v14<length o1')) (L4 v9 v10 v11n v12 v13n (zc .i64 (v14-1)) (set o1' (toNat v14) (zc .u64 (v6-1))) (set o0' h' (zc .u64 (getD o0' h' 0+v17)))) .fail) .fail) .fail) .fail) .fail) .fail):=by kernel_rfl
end T221
end
namespace T221
variable {Q:PV->Ob->Prop}
theorem dqr{r x d:Int}(hd:0<d)(hr:0<=r/\r<d)(hx:0<=x/\x<18446744073709551616):Sp.dq r x d*d+Sp.dr r x d=r*18446744073709551616+x/\0<=Sp.dq r x d/\Sp.dq r x d<18446744073709551616/\0<=Sp.dr r x d/\Sp.dr r x d<d:=by
 unfold Sp.dq Sp.dr;have h:=yj (r*18446744073709551616+x) d;rw[zq]at h;refine⟨h,Int.ediv_nonneg (by omega) (by omega),Int.ediv_lt_of_lt_mul hd (by omega),Int.emod_nonneg _ (by omega),Int.emod_lt_of_pos _ hd⟩
theorem Ao(a:List Int)(d:Int)(ha:Aw Ai a)(hd:0<d/\d<18446744073709551616)(hm:a.length<=20000)(hq:∀q r ob,Aw Ai q->(0<=r/\r<d)->Am a=Am q*d+r->Q (.tup [.dat Dq (Av q),.dat Dq (Av [r])]) ob):∀(i:Nat) (q:List Int) (r:Int),i+q.length=a.length->Aw Ai q->(0<=r/\r<d)->zr Ai (a.drop i)=zr Ai q*d+r->
  Ends JA (L1 a [d] a.length r ((i:Int)-1) (yg i 0++q)) Q
 |0,q,r,hl,hdq,hr,he=>by
  have ht:((yg 0 0++q).take a.length)=q:=by
   rw[List.replicate_zero,List.nil_append];exact yi (by omega)
  refine Ends.Aq (Au ..) (Ends.ff (by simp) ?_);rw[ht];refine zo (Aa (by simp;omega) (Ej (by omega) hdq)) (zo (Aa rfl (Ej (by simp) (fun x hx=>by rw[List.mem_singleton]at hx;subst hx;exact⟨hr.1,by show x<18446744073709551616;omega⟩))) (Ends.leaf (hq q r _ hdq hr he)))
 |i+1,q,r,hl,hdq,hr,he=>by
  have e1:(((i+1:Nat):Int)-1)=(i:Int):=by omega
  have gx:=AS ha i;obtain⟨d1,d2,d3,d4,d5⟩:=dqr hd.1 hr (y7 gx);have da:a.drop i=a.getD i 0::a.drop (i+1):=by
   rw[zt,yd (by omega)];exact yr (by omega)
  have es:∀x,(yg (i+1) (0:Int)++q).set i x=yg i 0++(x::q):=by
   intro x;rw[List.replicate_succ',yh];exact Dx _ _ _ _ (by simp)
  rw[e1];refine Ends.Aq (Au ..) (zo (by simp) ?_);rw[zz,es,wr ((i:Int)-1) (by omega) (by omega)];refine zo (by simp;omega) (zo (by simp) (zo ?_ (zo (by simp;omega) (zo (by simp;omega) ?_))))
  ·exact Aa (Aa (Aa (CJ hr.1 (by omega)) gx) (CJ (by show 0<=d;omega) hd.2)) (w4 hr.2)
  ·refine Ao a d ha hd hm hq i _ _ (by simp;omega) (fun x hx=>?_) ⟨d4,d5⟩ ?_
   ·rcases List.mem_cons.1 hx with rfl|hx
    ·exact⟨d2,d3⟩
    ·exact hdq x hx
   ·rw[da];show a.getD i 0+(18446744073709551616:Int)*zr Ai (a.drop (i+1))=(Sp.dq r (a.getD i 0) d+(18446744073709551616:Int)*zr Ai q)*d+Sp.dr r (a.getD i 0) d;rw[he,zw,zx,zm];omega
end T221
end Go.Pe
namespace Go.Sp
theorem Vk{B P u0 u1 u2 u' v1 v2 v' q r:Int}(hP:0<P)(hv:0<=v')(hu:u'<P)(hq:0<=q)(he:q*v1+r=u0*B+u1)(h:r*B+u2<q*v2):
  ((u0*B+u1)*B+u2)*P+u'<q*((v1*B+v2)*P+v'):=by
 have e:q*(v1*B+v2)=q*v1*B+q*v2:=by rw[zx,zm]
 have e2:(u0*B+u1)*B=q*v1*B+r*B:=by rw[<-he,zw]
 have h1:(u0*B+u1)*B+u2+1<=q*(v1*B+v2):=by rw[e,e2];omega
 have h2:=zl h1 (yb hP);have h3:0<=q*v':=yc hq hv;rw[zx q, <-zm];rw[zw,z8]at h2;omega
theorem Ud{B P u0 u1 u2 u' v1 v2 v' q r:Int}(hP:0<P)(hv:0<=v'/\v'<P)(hu:0<=u')(hq:0<=q/\q<B)(hv1:1<=v1)(hv2:0<=v2)(he:q*v1+r=u0*B+u1)(h:q*v2<=r*B+u2):
  q*((v1*B+v2)*P+v')<((u0*B+u1)*B+u2)*P+u'+((v1*B+v2)*P+v'):=by
 have e:q*(v1*B+v2)=q*v1*B+q*v2:=by rw[zx,zm]
 have e2:(u0*B+u1)*B=q*v1*B+r*B:=by rw[<-he,zw]
 have h1:q*(v1*B+v2)<=(u0*B+u1)*B+u2:=by rw[e,e2];omega
 have h2:=zl h1 (yb hP);have h3:q*v'<=(B-1)*P:=Int.le_trans (ya (yb hv.2) hq.1) (zl (by omega) (yb hP));have h4:B<=v1*B+v2:=by
  have:=zl hv1 (show 0<=B by omega);omega
 have h5:=zl h4 (yb hP);rw[Int.sub_mul,z8]at h3;rw[zx q, <-zm];omega
theorem Hz(b:Int):∀(l:List Int) (i:Nat) (x:Int),i<l.length->val b (l.set i x)=val b l+b^i*(x-l.getD i 0)
 |[],i,x,h=>by simp at h
 |d::l,0,x,_=>by
  show x+b*val b l=d+b*val b l+b^0*(x-d);rw[Int.pow_zero,z8];omega
 |d::l,i+1,x,h=>by
  have:=Hz b l i x (by simpa using h);show d+b*val b (l.set i x)=d+b*val b l+b^(i+1)*(x-l.getD i 0);rw[this,zx,yp,zq (b^i) b,zm,Int.add_assoc]
theorem G5{b:Int}{l:List Int}(h:Aw b l)(i:Nat){x:Int}(hx:0<=x/\x<b):Aw b (l.set i x):=by
 intro d hd;rcases List.mem_or_eq_of_mem_set hd with hd|rfl
 ·exact h d hd
 ·exact hx
theorem EW{b:Int}{l r:List Int}(h1:Aw b l)(h2:Aw b r):Aw b (l++r):=by
 intro d hd;rcases List.mem_append.1 hd with hd|hd
 ·exact h1 d hd
 ·exact h2 d hd
theorem J1{b:Int}(hb:0<b){l:List Int}(h:Aw b l)(i:Nat):0<=l.getD i 0/\l.getD i 0<b:=by
 rcases Nat.lt_or_ge i l.length with hi|hi
 ·have:l.getD i 0∈l:=by rw[zt,yd hi];exact List.getElem_mem hi
  exact h _ this
 ·rw[zt,List.getElem?_eq_none hi];exact⟨Int.le_refl _,hb⟩
theorem Ch{l:List Int}{i:Nat}(h:i<l.length):l.drop i=l.getD i 0::l.drop (i+1):=by
 rw[zt,yd h];exact yr h
theorem G2(p r:List Int)(i j:Nat)(h:p.length=j):(p++r).getD (i+j) 0=r.getD i 0:=by
 subst h;rw[zt,zt,List.getElem?_append_right (by omega),ye]
theorem RD(p r:List Int)(i j:Nat)(x:Int)(h:p.length=j):(p++r).set (i+j) x=p++r.set i x:=by
 subst h;rw[List.set_append_right _ _ (by omega),ye]
theorem nG(b:Int)(r:List Int)(k:Nat)(hl:k+3<=r.length)(hz:val b (r.drop (k+3))=0):
  val b r=((r.getD (k+2) 0*b+r.getD (k+1) 0)*b+r.getD k 0)*b^k+val b (r.take k):=by
 have p1:b^(k+1)=b^k*b:=yp ..;have p2:b^(k+2)=b^k*b*b:=by rw[<-p1];exact yp ..
 rw[Cj b r (k+3) hl,hz,AE,AE,AE,p1,p2,yx,yy];generalize b^k=P;generalize r.getD (k+2) 0=x;generalize r.getD (k+1) 0=y;generalize r.getD k 0=z;have e1:P*b*b*x=x*b*b*P:=by rw[zq (P*b*b) x,zq P b,zm b P b,zq P b, <-zm, <-zm]
 have e2:P*b*y=y*b*P:=by rw[zq (P*b) y,zq P b,zm]
 have e3:P*z=z*P:=zq _ _;have e4:((x*b+y)*b+z)*P=x*b*b*P+y*b*P+z*P:=by rw[zw,zw,zw]
 rw[e4];omega
theorem mQ(b:Int)(v:List Int)(k:Nat)(hl:v.length=k+2):
  val b v=(v.getD (k+1) 0*b+v.getD k 0)*b^k+val b (v.take k):=by
 have h0:val b (v.drop (k+2))=0:=by rw[List.drop_eq_nil_of_le (by omega)];rfl
 have p1:b^(k+1)=b^k*b:=yp ..;rw[Cj b v (k+2) (by omega),h0,AE,AE,p1,yx,yy];generalize b^k=P;generalize v.getD (k+1) 0=y;generalize v.getD k 0=z;have e2:P*b*y=y*b*P:=by rw[zq (P*b) y,zq P b,zm]
 have e3:P*z=z*P:=zq _ _;rw[e2,e3,zw];omega
theorem gC{b:Int}(hb:2<=b){v:List Int}(hd:Aw b v)(hn:nz v){k:Nat}(h1:b^k<=val b v)(h2:val b v<b^(k+1)):v.length=k+1:=by
 have hp:=AO (show 0<b by omega) k;have hne:v≠[]:=by rintro rfl;simp[val]at h1;omega
 have a1:=Bu (by omega) hd;have a2:=Dk (by omega) hd hn hne;rcases Nat.lt_trichotomy v.length (k+1)with h|h|h
 ·have:=AL (show 1<=b by omega) (show v.length<=k by omega);omega
 ·exact h
 ·have:=AL (show 1<=b by omega) (show k+1<=v.length-1 by omega);omega
theorem Jq{b:Int}(hb:2<=b){r:List Int}(hd:Aw b r){n:Nat}(hl:n<=r.length)(h:val b r<b^n):val b (r.drop n)=0:=by
 have h0:=AA (show 0<=b by omega) (EH hd n);have h1:=AA (show 0<=b by omega) (AM hd n);rw[Cj b r n hl]at h;have hp:=AO (show 0<b by omega) n;rcases Int.lt_or_le 0 (val b (r.drop n))with g|g
 ·have:=ya (show 1<=val b (r.drop n)by omega) (show 0<=b^n by omega);omega
 ·omega
theorem Q2{b:Int}(hb:2<=b){r:List Int}(hd:Aw b r){n:Nat}(hl:n<=r.length)(h:val b (r.drop n)=0):val b r<b^n:=by
 have:=Bu (show 0<b by omega) (AM hd n);rw[List.length_take,Nat.min_eq_left hl]at this;rw[Cj b r n hl,h];omega
theorem cU{b c d x y X:Int}(hc:0<c)(hb:b=c*d):(x+b*(y+b*X))/c=(x/c+(y % c)*d)+b*((y+b*X)/c):=by
 subst hb;have h1:(x+c*d*(y+c*d*X))/c=x/c+d*(y+c*d*X):=by
  rw[zm c d,Int.add_mul_ediv_left _ _ (by omega)]
 have h2:(y+c*d*X)/c=y/c+d*X:=by
  rw[zm c d,Int.add_mul_ediv_left _ _ (by omega)]
 have h3:=yj y c;rw[h1,h2];have e1:d*(y+c*d*X)=d*(c*(y/c)+y % c+c*d*X):=by rw[h3]
 rw[e1,zx,zx,zx (c*d)];have e2:d*(c*(y/c))=c*d*(y/c):=by rw[<-zm,zq d c]
 have e3:d*(y % c)=(y % c)*d:=zq _ _;have e4:d*(c*d*X)=c*d*(d*X):=by rw[<-zm,zq d (c*d),zm]
 rw[e2,e3,e4];omega
theorem Um{b c d x k:Int}(hc:0<c)(hd:0<d)(hb:b=c*d)(hk:0<=k/\k<c)(hx:0<=x/\x<b):
  (x*c) % b=(x % d)*c/\(x % d)*c+k<b/\0<=(x % d)*c/\0<=x/d/\x/d<c/\(x % d)*c+b*(x/d)=x*c:=by
 subst hb;have h3:=yj x d;have m0:=Int.emod_nonneg x (show d≠0 by omega);have m1:=Int.emod_lt_of_pos x hd;have q0:0<=x/d:=Int.ediv_nonneg hx.1 (by omega);have q1:x/d<c:=Int.ediv_lt_of_lt_mul hd (by have:=hx.2;omega);have p0:0<=(x % d)*c:=yc m0 (by omega);have p1:(x % d)*c<=(d-1)*c:=zl (by omega) (by omega);have p2:(d-1)*c=c*d-c:=by rw[Int.sub_mul,z8,zq]
 have e:(x % d)*c+c*d*(x/d)=x*c:=by
  conv=>rhs;rw[<-h3]
  rw[zw,zm c d,zq c (d*(x/d))];omega
 refine⟨?_,by omega,p0,q0,q1,e⟩;rw[<-e,Int.add_mul_emod_self_left];exact Int.emod_eq_of_lt p0 (by omega)
theorem MY{B P u0 u1 u2 u' v1 v2 v' q r:Int}(hP:0<P)(hB:0<B)(hq:0<=q)(hv:0<=v')(hv2:0<=v2)(hu:u'<P)(hu2:u2<B)(he:q*v1+r=u0*B+u1)(h:r<v1):
  ((u0*B+u1)*B+u2)*P+u'<(q+1)*((v1*B+v2)*P+v'):=by
 have h1:u0*B+u1+1<=(q+1)*v1:=by rw[zw,z8];omega
 have h2:=zl h1 (yb hB);have h3:(u0*B+u1)*B+u2+1<=(q+1)*v1*B:=by
  rw[zw,z8]at h2;omega
 have h4:=zl h3 (yb hP);rw[zw,z8]at h4;have h5:0<=(q+1)*(v2*P):=yc (by omega) (yc hv2 (yb hP));have h6:0<=(q+1)*v':=yc (by omega) hv;have e:(q+1)*((v1*B+v2)*P+v')=(q+1)*v1*B*P+(q+1)*(v2*P)+(q+1)*v':=by
  rw[zw (v1*B),zx,zx];congr 2;rw[zm,zm,zm]
 rw[e];omega
end Go.Sp
namespace Go.Pe
open Sp
open Go.Det
theorem Vo{q x y c b:Int}(hq:zu q=true)(hx:zu x=true)(hy:zu y=true)(hc:zu c=true)(hb:0<=b/\b<=1):
  zu (Ih q x)=true/\zu (HW (Ih q x) c 0)=true/\zc .u64 (QH q x+NX (Ih q x) c 0)=(q*x+c)/18446744073709551616/\zu ((q*x+c)/18446744073709551616)=true/\
  zu (Tl y (HW (Ih q x) c 0) b)=true/\(0<=Qj y (HW (Ih q x) c 0) b/\Qj y (HW (Ih q x) c 0) b<=1)/\
  c+b+(Tl y (HW (Ih q x) c 0) b-y)=18446744073709551616*((q*x+c)/18446744073709551616+Qj y (HW (Ih q x) c 0) b)-q*x:=by
 have hq:=y7 hq;have hx:=y7 hx;have hc:=y7 hc;have h0:0<=q*x:=yc hq.1 hx.1;have h1:q*x<=18446744073709551615*18446744073709551615:=by
  have a:=ya (show x<=18446744073709551615 by omega) hq.1;have b:=zl (show q<=18446744073709551615 by omega) (show(0:Int)<=18446744073709551615 by omega);omega
 have hl:zu (HW (Ih q x) c 0)=true:=by unfold HW;exact CJ (by omega) (by omega)
 obtain⟨s1,s2,s3⟩:=Sp.GQ hy hl hb;refine⟨?_,hl,?_,?_,s1,s2,?_⟩
 ·unfold Ih;exact CJ (by omega) (by omega)
 ·unfold Ih QH NX;rw[La];generalize q*x=P at*;omega
 ·generalize q*x=P at*;exact CJ (by omega) (by omega)
 ·generalize Qj y (HW (Ih q x) c 0) b=h at*;generalize Tl y (HW (Ih q x) c 0) b=l at*;unfold HW Ih at s3;generalize q*x=P at*;omega
namespace T221
variable {Q:PV->Ob->Prop}
theorem gw{lo r:List Int}{j:Nat}(h:lo.length=j)(i:Nat):(lo++r).getD (zh i j) 0=r.getD i 0:=G2 lo r i j h
theorem sw{lo r:List Int}{j:Nat}(h:lo.length=j)(i:Nat)(x:Int):(lo++r).set (zh i j) x=lo++r.set i x:=RD lo r i j x h
theorem lw{lo r:List Int}{j i:Nat}(h:lo.length=j)(hi:i<r.length):decide (zh i j<(lo++r).length)=true:=by
 refine w4 ?_;show i+j<_;rw[List.length_append];omega
theorem Jt(r:List Int)(i n:Nat)(x:Int)(h:i<n):(r.set i x).drop n=r.drop n:=by
 rw[List.drop_set,wd h]
theorem Cs(v9:Int)(v10:List Int)(v11n:Nat)(v12:Int)(v13n:Nat)(o1 o0:List Int)(v0c:Nat)(v:List Int)(n j:Nat)(lo:List Int)(m:Nat)(q W:Int)(o1':List Int)
  (hn:v.length=n) (hn9:n<=9000) (hm:n+1<=m) (hlo:lo.length=j) (hjv:j<v13n) (hj1:j<o1'.length) (hv:Aw Ai v) (hq:zu q=true)
  (h0:∀r:List Int,r.length=m->Aw Ai r->zr Ai (r.drop (n+1))=0->zr Ai r=W-q*zr Ai v->Ends JA (L4 v9 v10 v11n v12 v13n (zc .i64 ((j:Int)-1)) (o1'.set j q) (lo++r)) Q)
  (h1:∀r:List Int,r.length=m->Aw Ai r->zr Ai (r.drop (n+1))=0->zr Ai r=W-q*zr Ai v+(Ai:Int)^(n+1)->Ends JA (L8 v9 v10 v11n v12 v13n j o1 o0 j (n+1) v0c v n q 0 n 0 o1' (lo++r)) Q):
  ∀(k i:Nat) (r:List Int) (b c:Int),i+k=n->r.length=m->Aw Ai r->zr Ai (r.drop (n+1))=0->zu c=true->(0<=b/\b<=1)->zr Ai r=W-q*zr Ai (v.take i)+(Ai:Int)^i*(c+b)->
   Ends JA (L7 v9 v10 v11n v12 v13n j o1 o0 j (n+1) v0c v n q b c n i o1' (lo++r)) Q
 |0,i,r,b,c,hi,hr,hd,hz,hc,hb,he=>by
  have hi:i=n:=by omega
  subst hi;have gy:=AS hd i;obtain⟨s1,s2,s3⟩:=Sp.GQ gy hc hb;have hlw:decide (zh i j<(lo++r).length)=true:=lw hlo (by omega);have t1:(decide ((0:Int)<=(i:Int))&&decide ((i:Int)<((i+1:Nat):Int)))=true:=by simp;omega
  have hv1:v.take i=v:=yi (by omega);have hset:∀x:Int,0<=x/\x<18446744073709551616->(r.set i x).length=m/\Aw Ai (r.set i x)/\zr Ai ((r.set i x).drop (i+1))=0:=fun x hx=>
   ⟨by simp[hr],G5 hd i hx,by rw[Jt _ _ _ _ (by omega)];exact hz⟩
  obtain⟨e1,e2,e3⟩:=hset _ (y7 s1);have ev:zr Ai (r.set i (Tl (r.getD i 0) c b))=W-q*zr Ai v+(Ai:Int)^(i+1)*Qj (r.getD i 0) c b:=by
   rw[Hz _ _ _ _ (by omega),he,hv1,K8,Int.add_assoc, <-zx];congr 2;omega
  refine Ends.Aq (Ew ..) (Ends.ff (by simp) ?_);rw[zz,zz,gw hlo,sw hlo];refine zo t1 (zo hlw (zo (Aa (Aa (Aa gy hc) (w4 hb.1)) (w4 hb.2)) (zo t1 (zo hlw (Ends.ite (fun c1=>?_) (fun c1=>?_))))))
  ·have c1:Qj (r.getD i 0) c b=0:=by simpa using c1
   refine zo (by simp;omega) (zo (w4 hj1) (h0 _ e1 e2 e3 ?_));rw[ev,c1,yx,yy]
  ·have c1:Qj (r.getD i 0) c b≠0:=by simpa using c1
   refine h1 _ e1 e2 e3 ?_;rw[ev,show Qj (r.getD i 0) c b=1 by omega,Int.mul_one]
 |k+1,i,r,b,c,hi,hr,hd,hz,hc,hb,he=>by
  have gx:=AS hv i;have gy:=AS hd i;obtain⟨m1,m2,m3,m4,m5,m6,m7⟩:=Vo hq gx gy hc hb;have hlw:decide (zh i j<(lo++r).length)=true:=lw hlo (by omega);have t1:(decide ((0:Int)<=(i:Int))&&decide ((i:Int)<((n+1:Nat):Int)))=true:=by simp;omega
  have e2:zc .i64 ((i:Int)+1)=((i+1:Nat):Int):=by rw[wr _ (by omega) (by omega)];omega
  refine Ends.Aq (Ew ..) (zo (by simp;omega) ?_);rw[zz,gw hlo,sw hlo,m3,e2];refine zo (by simp;omega) (zo (Aa hq gx) (zo (Aa (Aa (Aa m1 hc) rfl) rfl) (zo t1 (zo hlw (zo (Aa (Aa (Aa gy m2) (w4 hb.1)) (w4 hb.2)) (zo t1 (zo hlw ?_)))))));refine Cs v9 v10 v11n v12 v13n o1 o0 v0c v n j lo m q W o1' hn hn9 hm hlo hjv hj1 hv hq h0 h1 k (i+1) _ _ _ (by omega) (by simp[hr]) (G5 hd i (y7 m5)) (by rw[Jt _ _ _ _ (by omega)];exact hz) m4 m6 ?_;rw[Hz _ _ _ _ (by omega),he,K8,AE,zx q,Int.mul_left_comm q];have e:(Ai:Int)^i*(c+b)+(Ai:Int)^i*(Tl (r.getD i 0) (HW (Ih q (v.getD i 0)) c 0) b-r.getD i 0)=(Ai:Int)^i*(18446744073709551616*((q*v.getD i 0+c)/18446744073709551616+Qj (r.getD i 0) (HW (Ih q (v.getD i 0)) c 0) b))-(Ai:Int)^i*(q*v.getD i 0):=by
   rw[<-zx, <-yv,m7]
  omega
theorem Fl(v9:Int)(v10:List Int)(v11n:Nat)(v12:Int)(v13n:Nat)(o1 o0:List Int)(v0c:Nat)(v:List Int)(n j:Nat)(lo:List Int)(m:Nat)(q W:Int)(o1':List Int)
  (hn:v.length=n) (hn9:n<=9000) (hm:n+1<=m) (hlo:lo.length=j) (hjv:j<v13n) (hj1:j<o1'.length) (hv:Aw Ai v)
  (hW:0<=W+zr Ai v)
  (h0:∀r:List Int,r.length=m->Aw Ai r->zr Ai (r.drop (n+1))=0->zr Ai r=W+zr Ai v->Ends JA (L4 v9 v10 v11n v12 v13n (zc .i64 ((j:Int)-1)) (o1'.set j (zc .u64 (q-1))) (lo++r)) Q):
  ∀(k i:Nat) (r:List Int) (c:Int),i+k=n->r.length=m->Aw Ai r->zr Ai (r.drop (n+1))=0->(0<=c/\c<=1)->zr Ai r=W+(Ai:Int)^(n+1)+zr Ai (v.take i)-(Ai:Int)^i*c->
   Ends JA (L8 v9 v10 v11n v12 v13n j o1 o0 j (n+1) v0c v n q c n i o1' (lo++r)) Q
 |0,i,r,c,hi,hr,hd,hz,hc,he=>by
  have hi:i=n:=by omega
  subst hi;have gy:=y7 (AS hd i);have hlw:decide (zh i j<(lo++r).length)=true:=lw hlo (by omega);have t1:(decide ((0:Int)<=(i:Int))&&decide ((i:Int)<((i+1:Nat):Int)))=true:=by simp;omega
  have hv1:v.take i=v:=yi (by omega);have gm:0<=(r.getD i 0+c) % 18446744073709551616/\(r.getD i 0+c) % 18446744073709551616<18446744073709551616:=by omega
  have e1:(r.set i ((r.getD i 0+c) % 18446744073709551616)).length=m:=by simp[hr]
  have e2:Aw Ai (r.set i ((r.getD i 0+c) % 18446744073709551616)):=G5 hd i gm;have e3:zr Ai ((r.set i ((r.getD i 0+c) % 18446744073709551616)).drop (i+1))=0:=by rw[Jt _ _ _ _ (by omega)];exact hz
  have eb:=Q2 (b:=Ai) (by decide) e2 (n:=i+1) (by omega) e3;refine Ends.Aq (HX ..) (Ends.ff (by simp) ?_);rw[zz,zz,gw hlo,sw hlo,La (r.getD i 0+c)];refine zo t1 (zo hlw (zo t1 (zo hlw (zo (by simp;omega) (zo (w4 hj1) (h0 _ e1 e2 e3 ?_))))));have hp:=AO (b:=Ai) (by decide) i;rw[Hz _ _ _ _ (by omega),he,hv1]at eb ⊢;rcases show(r.getD i 0+c) % 18446744073709551616=r.getD i 0+c\/(r.getD i 0+c) % 18446744073709551616=r.getD i 0+c-18446744073709551616 by omega with g|g
  ·exfalso;rw[g,show r.getD i 0+c-r.getD i 0=c by omega]at eb;omega
  ·have ep:(Ai:Int)^(i+1)=(Ai:Int)^i*18446744073709551616:=yp ..;rw[g,show r.getD i 0+c-18446744073709551616-r.getD i 0=c-18446744073709551616 by omega,yv,ep];omega
 |k+1,i,r,c,hi,hr,hd,hz,hc,he=>by
  have gx:=AS hv i;have gy:=AS hd i;obtain⟨m1,m2,m3⟩:=LM gy gx hc;have hlw:decide (zh i j<(lo++r).length)=true:=lw hlo (by omega);have t1:(decide ((0:Int)<=(i:Int))&&decide ((i:Int)<((n+1:Nat):Int)))=true:=by simp;omega
  have e2:zc .i64 ((i:Int)+1)=((i+1:Nat):Int):=by rw[wr _ (by omega) (by omega)];omega
  refine Ends.Aq (HX ..) (zo (by simp;omega) ?_);rw[zz,gw hlo,sw hlo,e2];refine zo t1 (zo hlw (zo (by simp;omega) (zo (Aa (Aa (Aa gy gx) (w4 hc.1)) (w4 hc.2)) (zo t1 (zo hlw ?_)))));refine Fl v9 v10 v11n v12 v13n o1 o0 v0c v n j lo m q W o1' hn hn9 hm hlo hjv hj1 hv hW h0 k (i+1) _ _ (by omega) (by simp[hr]) (G5 hd i (y7 m1)) (by rw[Jt _ _ _ _ (by omega)];exact hz) m2 ?_;rw[Hz _ _ _ _ (by omega),he,K8,AE];have e:(Ai:Int)^i*(HW (r.getD i 0) (v.getD i 0) c-r.getD i 0)-(Ai:Int)^i*c=(Ai:Int)^i*v.getD i 0-(Ai:Int)^i*(18446744073709551616*NX (r.getD i 0) (v.getD i 0) c):=by
   rw[<-yv, <-yv];congr 1;omega
  omega
theorem lY(v9:Int)(v10:List Int)(v11n:Nat)(v12:Int)(v13n:Nat)(o1 o0:List Int)(v0c:Nat)(v:List Int)(n j:Nat)(lo:List Int)(m:Nat)(r0 o1':List Int)
  (hn:v.length=n) (hn9:n<=9000) (hm:n+1<=m) (hlo:lo.length=j) (hjv:j<v13n) (hj1:j<o1'.length) (hv:Aw Ai v)
  (hr:r0.length=m) (hd:Aw Ai r0) (hz:zr Ai (r0.drop (n+1))=0)
  (hfin:∀(q:Int) (r:List Int),r.length=m->Aw Ai r->(0<=q/\q<18446744073709551616)->zr Ai r<zr Ai v->zr Ai r=zr Ai r0-q*zr Ai v->Ends JA (L4 v9 v10 v11n v12 v13n (zc .i64 ((j:Int)-1)) (o1'.set j q) (lo++r)) Q)
  (q:Int) (hq:zu q=true) (h1:zr Ai r0<(q+1)*zr Ai v) (h2:q*zr Ai v<zr Ai r0+zr Ai v):
  Ends JA (L7 v9 v10 v11n v12 v13n j o1 o0 j (n+1) v0c v n q 0 0 n 0 o1' (lo++r0)) Q:=by
 have gq:=y7 hq;have hW0:=AA (b:=Ai) (by decide) hd;have hV0:=AA (b:=Ai) (by decide) hv;rw[zw,z8]at h1;refine Cs v9 v10 v11n v12 v13n o1 o0 v0c v n j lo m q (zr Ai r0) o1' hn hn9 hm hlo hjv hj1 hv hq (fun r a b c d=>hfin q r a b gq (by omega) d) (fun r a b c d=>?_) n 0 r0 0 0 (by omega) hr hd hz (by decide) (by decide) (by simp[zr]);have hb:=Q2 (b:=Ai) (by decide) b (n:=n+1) (by omega) c;have hq1:1<=q:=by
  rcases Int.lt_or_le 0 q with g|g
  ·exact g
  ·have:q=0:=by omega
   subst this;rw[Int.zero_mul]at d;omega
 have ew:zc .u64 (q-1)=q-1:=wu _ (by omega) (by omega);refine Fl v9 v10 v11n v12 v13n o1 o0 v0c v n j lo m q (zr Ai r0-q*zr Ai v) o1' hn hn9 hm hlo hjv hj1 hv (by omega) (fun r' a' b' c' d'=>?_) n 0 r 0 (by omega) a b c (by decide) (by rw[d];simp[zr]);rw[ew];refine hfin (q-1) r' a' b' (by omega) (by omega) ?_;rw[d',Int.sub_mul,z8];omega
end T221
end Go.Pe
