import Derived.Lib.ItoaMem
import Derived.Test.YtlohiljbghionaaGreatDoorX10
/- A part of a proof (no law is stated here). Made by program out of texts by AI agents. -/
noncomputable section
open Go.IntKind renaming wrap -> zc, u64 -> zd, u8 -> zV, i64 -> yb
open Go.Pe.Sh renaming list -> ze, int -> zh, bool -> zi, str -> zj, nlist -> zt, pair -> z6, T -> y8
open Go.Sp renaming val -> zf, u64 -> zx, AX -> zW, first -> yx
open Go.Pe.Ends renaming tt -> zg, Ah -> z7, ite -> yq
open Nat renaming add -> zk, sub -> zM, add_sub_cancel -> zU, min_eq_left -> yg
open Int renaming mul_le_mul_of_nonneg_right -> zl, toNat_natCast -> zm, mul_assoc -> zp, mul_comm -> zq, mul_add -> zr, le_of_lt -> zw, mul_le_mul_of_nonneg_left -> zz, add_mul -> zK, one_mul -> zN, tmod -> zQ, mul_nonneg -> zR, pow_succ -> zX, mul_ediv_add_emod -> zY, ediv_lt_of_lt_mul -> zZ, add_assoc -> z8, tdiv -> yc, pow_pos -> ye, emod_nonneg -> yf, add_zero -> yh, emod_lt_of_pos -> yi, fdiv_eq_ediv_of_nonneg -> yj, sub_mul -> ym, mul_left_comm -> yn, mul_sub -> yo, fdiv -> yp, mul_zero -> yt, ediv_nonneg -> yv, pow_zero -> yy, lt_or_le -> yz, zero_mul -> y7
open UInt8 renaming toNat -> zn
open List renaming replicate -> zo, append_assoc -> zu, getD_eq_getElem?_getD -> zy, take_of_length_le -> zO, length_take -> zS, getElem?_eq_getElem -> zT, replicate_succ' -> ya, map -> yd, drop_eq_getElem_cons -> yk, mem_append -> yw
open Go.Pe.PV renaming agg -> zL
open Option renaming getD -> zP
open Min renaming min -> yr
open BitVec renaming ofInt -> yu
namespace Go.Sp
open Go.Lib
theorem E1(a d:Nat)(c:0<a)(b:d<10):decDigits (10*a+d)=decDigits a++[UInt8.ofNat<|48+d]:=by
 rw[decDigits,dif_neg (by omega),show(10*a+d)/10=a from by omega,show(10*a+d) % 10=d from by omega]
theorem aT(a d:Nat)(c:0<a)(b:d<10):nDigits (10*a+d)=nDigits a+1:=by
 rw[nDigits_big (by omega),show(10*a+d)/10=a from by omega]
def Qz(k b:Nat):Z:=zo (k-nDigits b) 48++decDigits b
theorem Pr(k b d:Nat)(f:1<=k)(a:d<10):Qz (k+1) (10*b+d)=Qz k b++[UInt8.ofNat<|48+d]:=by
 unfold Qz;rcases Nat.eq_zero_or_pos b with rfl|c
 ·rw[Nat.mul_zero,Nat.zero_add,nDigits_small a,decDigits_one a,nDigits_small (by omega),decDigits_one<|by omega];obtain⟨j,rfl⟩:∃j,k=j+1:=⟨k-1,by omega⟩;have e:(48:UInt8)=UInt8.ofNat (48+0):=rfl;rw[zU,zU, <-e,ya,zu]
 ·rw[aT b d c a,E1 b d c a, <-zu,Nat.add_sub_add_right]
theorem Wh:∀(k a b:Nat),1<=k->0<a->b<10^k->decDigits (a*10^k+b)=decDigits a++Qz k b
 |0,_,_,h,_,_=>by omega
 |1,a,b,_,d,c=>by
  rw[Nat.pow_one]at*;rw[Nat.mul_comm,E1 a b d c];unfold Qz;rw[nDigits_small c,decDigits_one c];rfl
 |k+2,a,b,_,d,c=>by
  have e:b=10*(b/10)+b % 10:=by omega
  have f:b/10<10^(k+1):=by
   rw[Nat.pow_succ 10<|k+1]at c;omega
  have i:a*10^(k+2)+b=10*(a*10^(k+1)+b/10)+b % 10:=by
   rw[Nat.pow_succ 10<|k+1, <-Nat.mul_assoc];omega
  have l:0<a*10^(k+1):=Nat.mul_pos d (Nat.pow_pos (by omega));have j:=Wh (k+1) a (b/10) (by omega) d f;have g:=Pr (k+1) (b/10) (b % 10) (by omega) (by omega);rw[i,E1 _ _ (by omega) (by omega),j,zu, <-g, <-e]
end Go.Sp
namespace Go.Pe
open Sp
open Go.Det
section
open List Int Prod
namespace T55
def T(s:Z):Tr:=tree vM false 9 55<|Ae ([zj]) s
theorem Ap(s:Z):T s=let a:=zt<|zh zd;let b':=CU<|Ay s;let b:=C0<|Ay s;.ck (pX s [(47:UInt8)]) (.ite (!Bh s) (.ck (D2<|Ay s)<|.ck true<|.leaf (zL [.dat i64 b',.dat a b,.dat i64 (1:Int),.dat a<|C5 1])<|[(zk (zk 0 1) 1,.box [.dat i64 b',.dat a b,.dat i64 (1:Int),.dat a<|C5 1]),(zk 0 1,.box [.dat i64 b',.dat a b]),(0,.box [.dat i64 b',.dat a b,.dat i64 (1:Int),.dat a<|C5 1])])<|.ck (D2<|Ay s)<|.ck (D2<|Sp.AJ s)<|.leaf (zL [.dat i64 b',.dat a b,.dat i64<|CU<|Sp.AJ s,.dat a<|C0<|Sp.AJ s])<|[(0,.box [.dat i64 b',.dat a b,.dat i64<|CU<|Sp.AJ s,.dat a<|C0<|Sp.AJ s])]):=by kernel_rfl
end T55
namespace T56
def T(a:(Int×List Int)×Int×List Int)(b:(Int×List Int)×Int×List Int):Tr:=tree vM false 9 56<|Ae ([z6 (z6 i64<|zt<|zh zd)<|z6 i64<|zt<|zh zd,z6 (z6 i64<|zt<|zh zd)<|z6 i64<|zt<|zh zd]) (a,b)
theorem Ap(a:(Int×List Int)×Int×List Int)(b:(Int×List Int)×Int×List Int):T a b=let c:=zt<|zh zd;let d:=(fst<|fst a,snd<|fst a);let f:=(fst<|snd b,snd<|snd b);let e:=(fst<|fst b,snd<|fst b);let g:=(fst<|snd a,snd<|snd a);let h:=(Hl d f,Hi d f);let b':=(Hl e g,Hi e g);.ck (BV d&&BV f) (.ck (BV e&&BV g)<|.ck (BV h&&BV b')<|.leaf (.dat i64<|X4 h b')<|[(zk 0 1,.box [.dat i64<|fst<|fst b,.dat c<|snd<|fst b,.dat i64<|fst<|snd b,.dat c<|snd<|snd b]),(0,.box [.dat i64<|fst<|fst a,.dat c<|snd<|fst a,.dat i64<|fst<|snd a,.dat c<|snd<|snd a])]):=by kernel_rfl
end T56
namespace T128
def T(s:Z):Tr:=tree Mj false 9 128<|Ae ([zj]) s
def L1(v0:Z)(v3:Int):Tr:=re ((T []))<|Ax 17 [(0,.dat zj v0),(3,.dat i64 v3)] [] 0
theorem Ap(s:Z):T s=L1 s 0:=by kernel_rfl
theorem Al(v0:Z)(v3:Int):stepT Mj (L1 v0 v3)=let a:=(length v0:Int);.di (v3<a) (.ck (decide (0<=v3)&&decide (v3<a))<|.ite ((↑(zn<|getD v0 (toNat v3) (0:UInt8)):Int)==47) (.leaf (.dat i64 v3) [])<|L1 v0<|zc .i64<|v3+1) (.leaf (.dat i64 a) []):=by kernel_rfl
end T128
namespace T129
def T(s:Z):Tr:=tree Mj false 9 129<|Ae ([zj]) s
def L1(s v0:Z)(v3:Int):Tr:=re ((T s).R.L.L.R)<|Ax 20 [(0,.dat zj v0),(3,.dat i64 v3)] [] 0
def L2(s v0:Z)(v3:Int):Tr:=re ((T s).R.R)<|Ax 20 [(0,.dat zj v0),(3,.dat i64 v3)] [] 0
theorem Ap(s:Z):T s=let a:=(length s:Int);.ite (a==0) (.leaf (.bl false) []) (.di (a>1) (.cd (0<a)<|.ite ((↑(zn<|getD s 0 (0:UInt8)):Int)==48) (.leaf (.bl false) [])<|L1 s s 0)<|L2 s s 0):=by kernel_rfl
theorem Al(s v0:Z)(v3:Int):stepT Mj (L1 s v0 v3)=let a:=decide (v3<(length v0:Int));let b':=(↑(zn<|getD v0 (toNat v3) (0:UInt8)):Int);.ite a (.ck (decide (0<=v3)&&a)<|.di (b'<48) (.leaf (.bl false) [])<|.ck (decide (0<=v3)&&a)<|.di (b'>57) (.leaf (.bl false) [])<|L1 s v0<|zc .i64<|v3+1) (.leaf (.bl true) []):=by kernel_rfl
theorem AK(s v0:Z)(v3:Int):stepT Mj (L2 s v0 v3)=let a:=decide (v3<(length v0:Int));let b':=(↑(zn<|getD v0 (toNat v3) (0:UInt8)):Int);.ite a (.ck (decide (0<=v3)&&a)<|.di (b'<48) (.leaf (.bl false) [])<|.ck (decide (0<=v3)&&a)<|.di (b'>57) (.leaf (.bl false) [])<|L2 s v0<|zc .i64<|v3+1) (.leaf (.bl true) []):=by kernel_rfl
end T129
namespace T97
def T(n:Int):Tr:=tree mC false 9 97<|Ae ([zh yb]) n
def L1(v0:Int)(v4:Bool):Tr:=re ((T 0))<|Ax 25 [(0,.dat i64 v0),(2,.ptr 0 0),(3,.nil),(4,.dat zi v4)] [(0,.box [.bl false,.nil])] 1
theorem Ap(n:Int):T n=L1 n (decide (n<0)):=by kernel_rfl
def L2(v0:Int)(a:Nat)(v4:Bool)(o1:List Int):Tr:=re ((stepT mC<|L1 0 false).L.L.L.L.L)<|Ax 25 [(0,.dat i64 v0),(2,.ptr 0 0),(3,.sl 1 1 0 a none),(4,.dat zi v4)] [(1,.arr false 3 i64 o1),(0,.box [.bl false,.nil])] 2
theorem Al(v0:Int)(v4:Bool):stepT mC (L1 v0 v4)=let a:=decide (1<=1)&&decide (0<1)&&decide ((3*1+2000)*8<=562949953421312);let b':=zc .i64<|yc v0 1000000000;.ite (v0 !=0) (.ck true<|.di (zQ v0 1000000000<0) (.ck a<|.ck true<|L2 b' 1 v4<|[zc .i64<|0-zQ v0 1000000000])<|.ck a<|.ck true<|L2 b' 1 v4<|[zQ v0 1000000000]) (.cd (0<=20000)<|.leaf (zL [.dat zi<|Sp.B5 v4 [],.dat (ze i64)<|Sp.At []])<|[(0,.box [.dat zi<|Sp.B5 v4 [],.dat (ze i64)<|Sp.At []])]):=by kernel_rfl
theorem AK(v0:Int)(a:Nat)(v4:Bool)(o1:List Int):stepT mC (L2 v0 a v4 o1)=let d:=decide (1<=1)&&true&&decide (a=length o1)&&decide ((3*(a+1)+2000)*8<=562949953421312);let b':=zc .i64<|yc v0 1000000000;let c:=Sp.B5 v4<|take a o1;let b:=Sp.At<|take a o1;.ite (v0 !=0) (.ck true<|.di (zQ v0 1000000000<0) (.ck d<|.ck true<|L2 b' (zk a 1) v4<|o1++[zc .i64<|0-zQ v0 1000000000])<|.ck d<|.ck true<|L2 b' (zk a 1) v4<|o1++[zQ v0 1000000000]) (.ck (decide (0+a<=length o1)&&true&&decide (length (take a o1)<=20000))<|.leaf (zL [.dat zi c,.dat (ze i64) b])<|[(1,.arr true 3 i64 o1),(0,.box [.dat zi c,.dat (ze i64) b])]):=by kernel_rfl
end T97
namespace T92
def T(a:Z):Tr:=tree yG false 9 92<|Ae ([zj]) a
theorem Ap(a:Z):T a=let b':=take (toNat<|AT a) a;let c:=zc .i64<|AT a+1;let b:=take (zM (length a)<|toNat c)<|drop (toNat c) a;.cd (length a<=1000000) (.ite (AT a==(length a:Int)) (.ck (D2 a)<|.ck true<|.leaf (.tup [zL [.dat zi<|EJ a,.dat (ze i64)<|EM a],zL [.dat zi false,.dat (ze i64)<|Sp.rW 1]])<|[(zk 0 1,.box [.dat zi false,.dat (ze i64)<|Sp.rW 1]),(0,.box [.dat zi<|EJ a,.dat (ze i64)<|EM a])])<|.ck (decide (0<=AT a)&&decide (0<=toNat (AT a))&&decide (toNat (AT a)<=length a))<|.ck (decide (0<=zc .i64 (AT a+1))&&true&&decide (toNat c<=length a)&&decide (length a<=length a))<|.ck (D2 b')<|.ck (D2 b)<|.leaf (.tup [zL [.dat zi<|EJ b',.dat (ze i64)<|EM b'],zL [.dat zi<|EJ b,.dat (ze i64)<|EM b]])<|[(zk 0 1,.box [.dat zi<|EJ b,.dat (ze i64)<|EM b]),(0,.box [.dat zi<|EJ b',.dat (ze i64)<|EM b'])]):=by kernel_rfl
end T92
namespace T62
def T(a:Z):Tr:=tree Sk false 9 62<|Ae ([zj]) a
def L1(v0 v3:Z):Tr:=re ((T []).L.L.L.L)<|Ax 96 [(0,.dat zj v0),(3,.dat zj v3)] [] 0
theorem Ap(a:Z):T a=.di ((length a:Int)>0) (.cd (0<(length a:Int))<|.ite ((↑(zn<|getD a 0 (0:UInt8)):Int)==45) (.ck (decide (1<=length a)&&decide (length a<=length a))<|L1 a<|take (zM (length a) 1)<|drop 1 a)<|L1 a a) (L1 a a):=by kernel_rfl
def L2(v3:Z)(v4:Int):Tr:=re ((stepT Sk<|L1 [] []).L.L.L.R.L.L.L.R)<|Ax 96 [(3,.dat zj v3),(4,.dat i64 v4)] [] 0
theorem Al(v0 v3:Z):stepT Sk (L1 v0 v3)=let b':=AT v3;let a:Tr:=.leaf (.dat i64 (1:Int)) [];let b:=decide (0<=AT v3)&&decide (0<=toNat b')&&decide (toNat b'<=length v3);.cd (length v3<=9223372036854775807) (.ck b<|.cd (length (take (toNat b') v3)<=9223372036854775807)<|.ite (!AQ (take (toNat b') v3)) a<|.cd (0<(length v0:Int))<|.ite ((↑(zn<|getD v0 0 (0:UInt8)):Int)==45) (.ck b<|.ite (take (toNat b') v3==[(48:UInt8)]) a<|L2 v3 b')<|L2 v3 b'):=by kernel_rfl
def L3(v3:Z)(v4:Int):Tr:=re ((stepT Sk<|L2 [] 0).L.L.L.R.L.R.L.R)<|Ax 96 [(3,.dat zj v3),(4,.dat i64 v4)] [] 0
theorem AK(v3:Z)(v4:Int):stepT Sk (L2 v3 v4)=let b:Tr:=.leaf (.dat i64 (1:Int)) [];let d:=zc .i64<|v4+1;let c:=decide (0<=zc .i64 (v4+1))&&true&&decide (toNat d<=length v3)&&decide (length v3<=length v3);let b':=toNat d;let a:=zM (length v3) b';.di (v4<(length v3:Int)) (.ck c<|.cd (length (take a<|drop b' v3)<=9223372036854775807)<|.ite (!AQ (take a<|drop b' v3)) b<|.ck c<|.ite (take a (drop b' v3)==[(48:UInt8)]) b<|.ck c<|.ite (take a (drop b' v3)==[(49:UInt8)]) b<|L3 v3 v4) (L3 v3 v4):=by kernel_rfl
def L4(v3:Z)(v4:Int):Tr:=re ((stepT Sk<|L3 [] 0).R.R)<|Ax 96 [(3,.dat zj v3),(4,.dat i64 v4)] [] 0
theorem BE(v3:Z)(v4:Int):stepT Sk (L3 v3 v4)=let a:Tr:=.leaf (.dat i64 (4:Int)) [];.di (v4>600) a (.di (zc .i64 (zc .i64 ((length v3:Int)-v4)-1)>600) a<|L4 v3 v4):=by kernel_rfl
def L5(o1:Bool)(b:List Int)(c:Bool)(a:List Int):Tr:=re ((stepT Sk<|L4 [] 0).L.L)<|Ax 96 [(5,.ptr 0 0),(6,.ptr 1 0)] [(1,.box [.dat zi o1,.dat (ze i64) b]),(0,.box [.dat zi c,.dat (ze i64) a])] 2
theorem Cf(v3:Z)(v4:Int):stepT Sk (L4 v3 v4)=.di (v4<(length v3:Int)) (.ck (FN v3)<|L5 (Bb v3) (A4 v3) (Bu v3)<|Bn v3) (.leaf (.dat i64 (0:Int)) []):=by kernel_rfl
def L6(a:List Int):Tr:=re ((stepT Sk<|L5 false [] false []).L)<|Ax 96 [(7,.dat (ze i64) a)] [] 0
theorem DU(o1:Bool)(b:List Int)(c:Bool)(a:List Int):stepT Sk (L5 o1 b c a)=.ck (AZ a&&AZ b&&decide (length a<=9000)&&decide (length b<=9000)) (L6<|Cd a b):=by kernel_rfl
theorem Fj(a:List Int):stepT Sk (L6 a)=let b:Tr:=.leaf (.dat i64 (1:Int)) [];.ite ((length a:Int) !=1) b (.cd (0<(length a:Int))<|.ite (getD a 0 0 !=1) b<|.leaf (.dat i64 (0:Int)) []):=by kernel_rfl
end T62
namespace T168
def T(l:List Int):Tr:=tree Mj false 9 168<|Ae ([ze i64]) l
def L1(v5:List Int)(b a:Int):Tr:=re ((T []))<|Ax 15 [(5,.dat (ze i64) v5),(6,.dat i64 b),(7,.dat i64 a)] [] 0
theorem Ap(l:List Int):T l=L1 l ((length l:Int)) 0:=by kernel_rfl
theorem Al(v5:List Int)(b a:Int):stepT Mj (L1 v5 b a)=.di (a<b) (.ck (decide (0<=a)&&decide (a<(length v5:Int)))<|.ite (getD v5 (toNat a) 0 !=0) (.leaf (.dat i64<|getD v5 (toNat a) 0) [])<|L1 v5 b<|zc .i64<|a+1) (.leaf (.dat i64 (0:Int)) []):=by kernel_rfl
end T168
namespace T169
def T(b:Bool)(e:Int):Tr:=tree Mj false 9 169<|Ae ([zi,zh yb]) (b,e)
theorem Ap(b:Bool)(e:Int):T b e=.ite b (.leaf (.dat i64 e) []) (.leaf (.dat i64 (0:Int)) []):=by kernel_rfl
end T169
namespace T122
def T(a:Z):Tr:=tree KY false 9 122<|Ae ([zj]) a
def L1(v5 b:Z)(a:Bool):Tr:=re ((T []).L.L.L.L.L)<|Ax 76 [(5,.dat zj v5),(6,.dat zj b),(7,.dat zi a),(8,.bl true)] [] 0
def L2(v5 b:Z)(a c:Bool):Tr:=re ((T []).L.L.L.L.R)<|Ax 76 [(5,.dat zj v5),(6,.dat zj b),(7,.dat zi a),(8,.dat zi c)] [] 0
def L3(v5 b:Z)(a:Bool):Tr:=re ((T []).L.L.L.R)<|Ax 76 [(5,.dat zj v5),(6,.dat zj b),(7,.dat zi a),(8,.bl false)] [] 0
theorem Ap(a:Z):T a=let b:=Ay<|A3 a;let b':=Sp.AJ<|A3 a;let c:=Bh<|A3 a;.ck (Zi a [(45:UInt8)]) (.ck (pX (A3 a) [(47:UInt8)])<|.cd (length b<=1000000)<|.ite (AQ b) (.ite (!Sp.preB a) (L1 b b' c)<|L2 b b' c<|!Ay (A3 a)==[(48:UInt8)])<|L3 b b' c):=by kernel_rfl
def L4(v5 b:Z)(a c:Bool):Tr:=re ((stepT KY<|L1 [] [] false).L.L.L.L)<|Ax 76 [(5,.dat zj v5),(6,.dat zj b),(7,.dat zi a),(8,.dat zi c)] [] 0
def L5(v5 b:Z)(a:Bool):Tr:=re ((stepT KY<|L1 [] [] false).L.L.L.R)<|Ax 76 [(5,.dat zj v5),(6,.dat zj b),(7,.dat zi a),(8,.bl false)] [] 0
def L6(v5 b:Z)(a:Bool):Tr:=re ((stepT KY<|L1 [] [] false).R)<|Ax 76 [(5,.dat zj v5),(6,.dat zj b),(7,.dat zi a),(8,.bl true)] [] 0
theorem Al(v5 a:Z)(b:Bool):stepT KY (L1 v5 a b)=.ite b (.cd (length a<=1000000)<|.ite (AQ a) (.ite (!a==[(48:UInt8)]) (L4 v5 a b<|!a==[(49:UInt8)])<|L5 v5 a b)<|L5 v5 a b) (L6 v5 a b):=by kernel_rfl
theorem AK(v5 a:Z)(b c:Bool):stepT KY (L2 v5 a b c)=.ite b (.ite c (.cd (length a<=1000000)<|.ite (AQ a) (.ite (!a==[(48:UInt8)]) (L4 v5 a b<|!a==[(49:UInt8)])<|L5 v5 a b)<|L5 v5 a b)<|L5 v5 a b) (L4 v5 a b c):=by kernel_rfl
theorem BE(v5 b:Z)(a:Bool):stepT KY (L3 v5 b a)=.ite a (L5 v5 b a) (L5 v5 b a):=by kernel_rfl
def L7(v5 b:Z)(a:Bool)(v9:Int):Tr:=re ((stepT KY<|L4 [] [] false false).L.L.L.L)<|Ax 76 [(5,.dat zj v5),(6,.dat zj b),(7,.dat zi a),(9,.dat i64 v9)] [] 0
theorem Cf(v5 a:Z)(c b:Bool):stepT KY (L4 v5 a c b)=let d:=decide (2<=2)&&true&&decide (2<=1000000);.ck true (.di ((length v5:Int)>600) (.ck true<|.ck d<|L7 v5 a c<|yx [BJ (!b) 1,BJ true 4])<|.ck true<|.ck d<|L7 v5 a c<|yx [BJ (!b) 1,BJ (decide ((length a:Int)>600)) 4]):=by kernel_rfl
theorem DU(v5 a:Z)(b:Bool):stepT KY (L5 v5 a b)=.ck true (.di ((length v5:Int)>600) (.ck true<|.ck true<|L7 v5 a b<|yx [BJ true 1,BJ true 4])<|.ck true<|.ck (decide (2<=2)&&true&&decide (2<=1000000))<|L7 v5 a b<|yx [BJ true 1,BJ (decide ((length a:Int)>600)) 4]):=by kernel_rfl
theorem Fj(v5 a:Z)(b:Bool):stepT KY (L6 v5 a b)=.ck true (.di ((length v5:Int)>600) (.ck true<|.ck true<|L7 v5 a b<|yx [BJ false 1,BJ true 4])<|.ck true<|.ck (decide (2<=2)&&true&&decide (2<=1000000))<|L7 v5 a b<|yx [BJ false 1,BJ (decide ((length a:Int)>600)) 4]):=by kernel_rfl
def L8(v5 b:Z)(a:Bool):Tr:=re ((stepT KY<|L7 [] [] false 0).R)<|Ax 76 [(5,.dat zj v5),(6,.dat zj b),(7,.dat zi a)] [] 0
theorem Dm(v5 b:Z)(a:Bool)(v9:Int):stepT KY (L7 v5 b a v9)=.ite (v9 !=0) (.leaf (.dat i64 v9) []) (L8 v5 b a):=by kernel_rfl
def L9(a:Bool):Tr:=re ((stepT KY<|L8 [] [] false).L.L.L.L.L.L)<|Ax 76 [(10,.dat zi a)] [] 0
def pY:Tr:=re ((stepT KY<|L8 [] [] false).R)<|Ax 76 [(10,.bl false)] [] 0
theorem Jb(v5 a:Z)(b:Bool):stepT KY (L8 v5 a b)=let c:=(SQ (CU v5,C0 v5) (CU a,C0 a),RW (CU v5,C0 v5) (CU a,C0 a));.ite b (.ck (D2 v5)<|.ck (D2 a)<|.ck (BV (CU v5,C0 v5)&&BV (CU a,C0 a))<|.ck true<|.ck (BV c&&BV (1,C5 1))<|L9<|X4 c (1,C5 1) !=0) pY:=by kernel_rfl
theorem VQ(a:Bool):stepT KY (L9 a)=.ck true (.leaf (.dat i64<|BJ a 1) []):=by kernel_rfl
theorem QP:stepT KY pY=.ck true (.leaf (.dat i64<|BJ false 1) []):=by kernel_rfl
end T122
namespace T126
def T(s:Z):Tr:=tree Pg false 9 126<|Ae ([zj]) s
def L1(v0:Z)(v3:Bool)(o1 a:Int):Tr:=re ((T []).L.L.L.L.L.L)<|Ax 41 [(0,.dat zj v0),(2,.ptr 0 0),(3,.dat zi v3),(4,.ptr 1 0)] [(1,.box [.dat i64 o1,.nil]),(0,.box [.dat i64 a,.nil])] 2
def L2(v0:Z)(o1 a:Int):Tr:=re ((T []).R.L.L.L.L)<|Ax 41 [(0,.dat zj v0),(2,.ptr 0 0),(3,.bl false),(4,.ptr 1 0)] [(1,.box [.dat i64 o1,.nil]),(0,.box [.dat i64 a,.nil])] 2
theorem Ap(s:Z):T s=let a:=take 1 s==[(45:UInt8)];let b':=decide ((length s:Int)>=1);let c:=decide (1<=length s)&&decide (length s<=length s);let b:=decide (1<=length s);let d:=take (zM (length s) 1)<|drop 1 s;.ite b' (.ck b<|.ite b' (.ck b<|.ite a (.ck c<|L1 d a 0 0)<|L1 s a 0 0)<|L1 s a 0 0) (.ite b' (.ck b<|.ite a (.ck c<|L2 d 0 0)<|L2 s 0 0)<|L2 s 0 0):=by kernel_rfl
def L3(v0:Z)(v3:Bool)(o1 h:Int)(v5:Z)(f:Int)(a:Nat)(e d:Int)(g:List Int)(b:Int)(c:Int):Tr:=re ((stepT Pg<|L1 v0 v3 o1 h).L.L.L.L.L.L.L.R)<|Ax 77 [(5,.dat zj v5),(6,.dat i64 f),(47,.sl 2 1 0 a none),(48,.dat i64 e),(49,.dat i64 d)] [(2,.arr false 5 (zh zV) g),(1,.box [.dat i64 b,.nil]),(0,.box [.dat i64 c,.nil])] 3
theorem Al(v0:Z)(v3:Bool)(o1 c:Int):stepT Pg (L1 v0 v3 o1 c)=let d:=(length v0:Int);let h:=zt<|zh zd;let a:=take (toNat<|Ec 18 d) v0;let b':=take (zM (length a) 1)<|drop 1 a;let e:=(↑(length a):Int);let g:=decide (1<=length a)&&decide (length a<=length a);let f:=(↑(zn<|getD a 0 (0:UInt8)):Int);let h':=decide (0<e);.di (d>0) (.ck (decide (0<=Ec 18 d)&&decide (0<=toNat (Ec 18 d))&&decide (toNat (Ec 18 d)<=length v0))<|.ite h' (.di (e<19) (.ck h'<|.ite (f==45) (.ck g<|.di ((↑(length b'):Int)<1) .fail<|L3 v0 v3 o1 c a 0 (length b') ((↑(length b'):Int)) 0 (yd (fun b=>(↑(zn b):Int)) b') o1 c)<|.ck h'<|.ite (f==43) (.ck g<|.di ((↑(length b'):Int)<1) .fail<|L3 v0 v3 o1 c a 0 (length b') ((↑(length b'):Int)) 0 (yd (fun b=>(↑(zn b):Int)) b') o1 c)<|L3 v0 v3 o1 c a 0 (length a) e 0 (yd (fun b=>(↑(zn b):Int)) a) o1 c)<|.ck false .fail)<|.ck false .fail) (.ite v3 (.ck (Sp.D8 (o1,[]))<|.leaf (zL [.dat i64<|HI (o1,[]),.dat h<|HT (o1,[])])<|[(1,.box [.dat i64 o1,.nil]),(0,.box [.dat i64<|HI (o1,[]),.dat h<|HT (o1,[])])])<|.leaf (zL [.dat i64 o1,.nil])<|[(1,.box [.dat i64 o1,.nil]),(0,.box [.dat i64 o1,.nil])]):=by kernel_rfl
def L4(v0:Z)(o1 h:Int)(v5:Z)(f:Int)(a:Nat)(e d:Int)(g:List Int)(b:Int)(c:Int):Tr:=re ((stepT Pg<|L2 v0 o1 h).L.L.L.L.L.L.L.R)<|Ax 77 [(5,.dat zj v5),(6,.dat i64 f),(47,.sl 2 1 0 a none),(48,.dat i64 e),(49,.dat i64 d)] [(2,.arr false 5 (zh zV) g),(1,.box [.dat i64 b,.nil]),(0,.box [.dat i64 c,.nil])] 3
theorem AK(v0:Z)(o1 c:Int):stepT Pg (L2 v0 o1 c)=let d:=(length v0:Int);let a:=take (toNat<|Ec 18 d) v0;let b':=take (zM (length a) 1)<|drop 1 a;let e:=(↑(length a):Int);let h:=decide (1<=length a)&&decide (length a<=length a);let g:=(↑(zn<|getD a 0 (0:UInt8)):Int);let f:=decide (0<e);.di (d>0) (.ck (decide (0<=Ec 18 d)&&decide (0<=toNat (Ec 18 d))&&decide (toNat (Ec 18 d)<=length v0))<|.ite f (.di (e<19) (.ck f<|.ite (g==45) (.ck h<|.di ((↑(length b'):Int)<1) .fail<|L4 v0 o1 c a 0 (length b') ((↑(length b'):Int)) 0 (yd (fun b=>(↑(zn b):Int)) b') o1 c)<|.ck f<|.ite (g==43) (.ck h<|.di ((↑(length b'):Int)<1) .fail<|L4 v0 o1 c a 0 (length b') ((↑(length b'):Int)) 0 (yd (fun b=>(↑(zn b):Int)) b') o1 c)<|L4 v0 o1 c a 0 (length a) e 0 (yd (fun b=>(↑(zn b):Int)) a) o1 c)<|.ck false .fail)<|.ck false .fail) (.leaf (zL [.dat i64 o1,.nil])<|[(1,.box [.dat i64 o1,.nil]),(0,.box [.dat i64 o1,.nil])]):=by kernel_rfl
def L5(v0:Z)(v3:Bool)(o1:Int)(a:List Int)(b:Int):Tr:=re ((stepT Pg<|L3 [] false 0 0 [] 0 0 0 0 [] 0 0).R.L.L.L.L.L.L.L.L)<|Ax 41 [(0,.dat zj v0),(2,.ptr 0 0),(3,.dat zi v3),(4,.ptr 1 0)] [(1,.box [.dat i64 o1,.dat (zt<|zh zd) a]),(0,.box [.dat i64 b,.nil])] 2
theorem BE(v0:Z)(v3:Bool)(o1 l:Int)(v5:Z)(d:Int)(b:Nat)(f a:Int)(h:List Int)(c:Int)(e:Int):stepT Pg (L3 v0 v3 o1 l v5 d b f a h c e)=let b':=Ec 18 (length v0:Int);let j:=(zc .i64<|0-d,C5<|zc .i64<|0-d);let m:=getD h (toNat a) 0-48;let i:=(Tq (10,C5 10) b',Tm (10,C5 10) b');let n:=decide (0<=Ec 18 (length v0:Int))&&true&&decide (toNat b'<=length v0)&&decide (length v0<=length v0);let k:=take (zM (length v0)<|toNat b')<|drop (toNat b') v0;let o:=BV (10,C5 10)&&eB (Sp.vI (10,C5 10)) b';let g:=(Hl (c,[]) i,Hi (c,[]) i);let h':=BV (c,[])&&BV i;.di (a<f) (.ck (decide (0<=a)&&decide (a<(↑b:Int)))<|.cd (toNat a<length h)<|.di (zc .u8 m>9) .fail<|L3 v0 v3 o1 l v5 (zc .i64<|zc .i64 (d*10)+zc .i64 (zc .u8 m)) b f (zc .i64<|a+1) h c e) (.cd (0<(length v5:Int))<|.ite ((↑(zn<|getD v5 0 (0:UInt8)):Int)==45) (.ck true<|.ck o<|.ck h'<|.ck true<|.ck (BV g&&BV j)<|.ck n<|L5 k v3 (Lt g j) (LG g j) e)<|.ck true<|.ck o<|.ck h'<|.ck true<|.ck (BV g&&BV (d,C5 d))<|.ck n<|L5 k v3 (Lt g (d,C5 d)) (LG g (d,C5 d)) e):=by kernel_rfl
def L7(v0:Z)(v3:Bool)(o1:Int)(c:List Int)(j:Int)(v5:Z)(h:Int)(b:Nat)(g f:Int)(i:List Int)(d:Int)(a:List Int)(e:Int):Tr:=re ((stepT Pg<|L5 v0 v3 o1 c j).L.L.L.L.L.L.L.R)<|Ax 77 [(5,.dat zj v5),(6,.dat i64 h),(47,.sl 2 1 0 b none),(48,.dat i64 g),(49,.dat i64 f)] [(2,.arr false 5 (zh zV) i),(1,.box [.dat i64 d,.dat (zt<|zh zd) a]),(0,.box [.dat i64 e,.nil])] 3
theorem DU(v0:Z)(v3:Bool)(o1:Int)(a:List Int)(d:Int):stepT Pg (L5 v0 v3 o1 a d)=let e:=zt<|zh zd;let f:=(length v0:Int);let c:=take (toNat<|Ec 18 f) v0;let b':=take (zM (length c) 1)<|drop 1 c;let g:=(↑(length c):Int);let h:=decide (1<=length c)&&decide (length c<=length c);let i:=(↑(zn<|getD c 0 (0:UInt8)):Int);let h':=decide (0<g);.di (f>0) (.ck (decide (0<=Ec 18 f)&&decide (0<=toNat (Ec 18 f))&&decide (toNat (Ec 18 f)<=length v0))<|.ite h' (.di (g<19) (.ck h'<|.ite (i==45) (.ck h<|.di ((↑(length b'):Int)<1) .fail<|L7 v0 v3 o1 a d c 0 (length b') ((↑(length b'):Int)) 0 (yd (fun b=>(↑(zn b):Int)) b') o1 a d)<|.ck h'<|.ite (i==43) (.ck h<|.di ((↑(length b'):Int)<1) .fail<|L7 v0 v3 o1 a d c 0 (length b') ((↑(length b'):Int)) 0 (yd (fun b=>(↑(zn b):Int)) b') o1 a d)<|L7 v0 v3 o1 a d c 0 (length c) g 0 (yd (fun b=>(↑(zn b):Int)) c) o1 a d)<|.ck false .fail)<|.ck false .fail) (.ite v3 (.ck (Sp.D8 (o1,a))<|.leaf (zL [.dat i64<|HI (o1,a),.dat e<|HT (o1,a)])<|[(1,.box [.dat i64 o1,.dat e a]),(0,.box [.dat i64<|HI (o1,a),.dat e<|HT (o1,a)])])<|.leaf (zL [.dat i64 o1,.dat e a])<|[(1,.box [.dat i64 o1,.dat e a]),(0,.box [.dat i64 o1,.dat e a])]):=by kernel_rfl
theorem Dm(v0:Z)(v3:Bool)(o1:Int)(g:List Int)(n:Int)(v5:Z)(e:Int)(c:Nat)(h b:Int)(j:List Int)(d:Int)(a:List Int)(f:Int):stepT Pg (L7 v0 v3 o1 g n v5 e c h b j d a f)=let i:=Ec 18 (length v0:Int);let l:=(zc .i64<|0-e,C5<|zc .i64<|0-e);let o:=getD j (toNat b) 0-48;let k:=(Tq (10,C5 10) i,Tm (10,C5 10) i);let p:=decide (0<=Ec 18 (length v0:Int))&&true&&decide (toNat i<=length v0)&&decide (length v0<=length v0);let m:=take (zM (length v0)<|toNat i)<|drop (toNat i) v0;let q:=BV (10,C5 10)&&eB (Sp.vI (10,C5 10)) i;let b':=(Hl (d,a) k,Hi (d,a) k);let h':=BV (d,a)&&BV k;.di (b<h) (.ck (decide (0<=b)&&decide (b<(↑c:Int)))<|.cd (toNat b<length j)<|.di (zc .u8 o>9) .fail<|L7 v0 v3 o1 g n v5 (zc .i64<|zc .i64 (e*10)+zc .i64 (zc .u8 o)) c h (zc .i64<|b+1) j d a f) (.cd (0<(length v5:Int))<|.ite ((↑(zn<|getD v5 0 (0:UInt8)):Int)==45) (.ck true<|.ck q<|.ck h'<|.ck true<|.ck (BV b'&&BV l)<|.ck p<|L5 m v3 (Lt b' l) (LG b' l) f)<|.ck true<|.ck q<|.ck h'<|.ck true<|.ck (BV b'&&BV (e,C5 e))<|.ck p<|L5 m v3 (Lt b' (e,C5 e)) (LG b' (e,C5 e)) f):=by kernel_rfl
end T126
namespace T201
def T(s t:Z):Tr:=tree XA false 9 201<|Ae ([zj,zj]) (s,t)
def L1(s t v0:Z)(v4:Int)(a:List Bool):Tr:=re ((T s t).R.R.L.L.R)<|Ax 21 [(0,.dat zj v0),(2,.ptr 0 0),(4,.dat i64 v4)] [(0,.arr false 266 zi a)] 1
def L2(s t v0:Z)(v4:Int)(a:List Bool):Tr:=re ((T s t).R.R.R)<|Ax 21 [(0,.dat zj v0),(2,.ptr 0 0),(4,.dat i64 v4)] [(0,.arr false 266 zi a)] 1
theorem Ap(s t:Z):T s t=let a:=decide (0<(length t:Int));let b':Tr:=.leaf (.dat zj s) [];.ite (s==[]) b' (.ite (t==[]) b'<|.ite ((length t:Int)==1) (.ck a<|.di ((↑(zn<|getD t 0 (0:UInt8)):Int)<128) (.ck a<|.ck a<|.ck false<|.ck false b')<|L1 s t t 0 Sp.mG)<|L2 s t t 0 Sp.mG):=by kernel_rfl
def L4(s t v0:Z)(v4:Int)(c:List Bool)(b:Z)(o1:List Bool)(a:List Bool):Tr:=re ((stepT XA<|L2 s t v0 v4 c).R.L.L.L.L)<|Ax 22 [(0,.dat zj b),(1,.ptr 1 0)] [(1,.arr false 266 zi o1),(0,.arr false 266 zi a)] 2
theorem AK(s t v0:Z)(v4:Int)(a:List Bool):stepT XA (L2 s t v0 v4 a)=let b:=(↑(zn<|getD v0 (toNat v4) (0:UInt8)):Int);let b':=decide (length a=256);let c:=decide (v4<(length v0:Int));.ite c (.ck (decide (0<=v4)&&c)<|.di (b>=128) (.ck b'<|.ck b'<|.cd (256=256)<|.ck true<|.ck false<|.ck false<|.leaf (.dat zj s)<|[(1,.arr false 266 zi<|Sp.VU a),(0,.arr false 266 zi<|Sp.VU a)])<|.ck (decide ((0:y8 (zh zV))<=b)&&decide (b<(↑256:Int)))<|.cd (toNat b<length a)<|L2 s t v0 (zc .i64<|v4+1)<|set a (toNat b) true) (.ck b'<|.ck b'<|.cd (256=256)<|.ck true<|L4 s t v0 v4 a s ((Sp.VU a))<|(Sp.VU a)):=by kernel_rfl
def L7(s t v0:Z)(v4:Int)(f:List Bool)(e:Z)(o1:List Bool)(d:List Bool)(b:Z)(c:List Bool)(a:List Bool):Tr:=re ((stepT XA<|L4 s t v0 v4 f e o1 d).L.L.L.L.L)<|Ax 16 [(0,.dat zj b),(1,.ptr 1 0)] [(1,.arr false 266 zi c),(0,.arr false 266 zi a)] 2
def L8(s t v0:Z)(v4:Int)(f:List Bool)(e:Z)(o1:List Bool)(d:List Bool)(b:Z)(c:List Bool)(a:List Bool):Tr:=re ((stepT XA<|L4 s t v0 v4 f e o1 d).R)<|Ax 16 [(0,.dat zj b),(1,.ptr 1 0)] [(1,.arr false 266 zi c),(0,.arr false 266 zi a)] 2
theorem Cf(s t v0:Z)(v4:Int)(d:List Bool)(a:Z)(o1:List Bool)(b:List Bool):stepT XA (L4 s t v0 v4 d a o1 b)=let b':=(↑(length a):Int);let c:=zc .i64<|b'-1;let f:=decide (0<=zc .i64 (b'-1));let e:=(↑(zn<|getD a (toNat c) (0:UInt8)):Int);.di (b'>0) (.ck (f&&decide (zc .i64 (b'-1)<b'))<|.ck (decide ((0:y8 (zh zV))<=e)&&decide (e<(↑256:Int)))<|.cd (toNat e<length o1)<|.ite (!getD o1 (toNat e) false) (L7 s t v0 v4 d a o1 b a o1 b)<|.ck (f&&decide (0<=toNat c)&&decide (toNat c<=length a))<|L4 s t v0 v4 d (take (toNat c) a) o1 b) (L8 s t v0 v4 d a o1 b a o1 b):=by kernel_rfl
theorem Dm(s t v0:Z)(v4:Int)(g:List Bool)(e:Z)(o1:List Bool)(d:List Bool)(a:Z)(b:List Bool)(c:List Bool):stepT XA (L7 s t v0 v4 g e o1 d a b c)=let f:=(↑(zn<|getD a 0 (0:UInt8)):Int);let b':Tr:=.leaf (.dat zj a)<|[(1,.arr false 266 zi b),(0,.arr false 266 zi c)];.di ((↑(length a):Int)>0) (.cd (0<(↑(length a):Int))<|.ck (decide ((0:y8 (zh zV))<=f)&&decide (f<(↑256:Int)))<|.cd (toNat f<length b)<|.ite (!getD b (toNat f) false) b'<|.ck (decide (1<=length a)&&decide (length a<=length a))<|L7 s t v0 v4 g e o1 d (take (zM (length a) 1)<|drop 1 a) b c) b':=by kernel_rfl
theorem Jb(s t v0:Z)(v4:Int)(g:List Bool)(e:Z)(o1:List Bool)(d:List Bool)(a:Z)(b:List Bool)(c:List Bool):stepT XA (L8 s t v0 v4 g e o1 d a b c)=let f:=(↑(zn<|getD a 0 (0:UInt8)):Int);let b':Tr:=.leaf (.dat zj a)<|[(1,.arr false 266 zi b),(0,.arr false 266 zi c)];.di ((↑(length a):Int)>0) (.cd (0<(↑(length a):Int))<|.ck (decide ((0:y8 (zh zV))<=f)&&decide (f<(↑256:Int)))<|.cd (toNat f<length b)<|.ite (!getD b (toNat f) false) b'<|.ck (decide (1<=length a)&&decide (length a<=length a))<|L8 s t v0 v4 g e o1 d (take (zM (length a) 1)<|drop 1 a) b c) b':=by kernel_rfl
end T201
namespace T167
def T(s:Z):Tr:=tree xS false 9 167<|Ae ([zj]) s
theorem Ap(s:Z):T s=.ite (!s==[]) (.ck (Sp.mX s [(48:UInt8),49,50,51,52,53,54,55,56,57])<|.ite (Sp.N7 s==[]) (.cd (0<(length s:Int))<|.ite ((↑(zn<|getD s 0 (0:UInt8)):Int) !=48) (.leaf (.bl true) [])<|.leaf (.dat zi<|s==[(48:UInt8)]) [])<|.leaf (.bl false) []) (.leaf (.bl false) []):=by kernel_rfl
end T167
namespace T166
def T(s t:Z):Tr:=tree Mj false 9 166<|Ae ([zj,zj]) (s,t)
theorem Ap(s t:Z):T s t=let a:=(length t:Int);let b':Tr:=.leaf (.tup [.dat zj s,.bl false]) [];let b:=decide (toNat a<=length s);.di ((length s:Int)>=a) (.ck (decide (0<=a)&&decide (0<=toNat a)&&b)<|.ite (!take (toNat a) s==t) b'<|.ck (decide (0<=a)&&true&&b&&decide (length s<=length s))<|.leaf (.tup [.dat zj<|take (zM (length s)<|toNat a)<|drop (toNat a) s,.bl true]) []) b':=by kernel_rfl
end T166
namespace T124
def T(s t:Z):Tr:=tree yO false 9 124<|Ae ([zj,zj]) (s,t)
theorem Ap(s t:Z):T s t=let b':=(↑(zn<|getD t 0 (0:UInt8)):Int);let a:=(length t:Int);let b:Tr:=.leaf (.tup [.dat zj s,.dat zj [],.bl false]) [];let f:=decide (length s<=length s);let h:=Bw [zh zV];let e:=zc .i64<|Sp.NL s b'+a;let c:=zc .i64<|(-1)+a;let h':=zc .i64<|0+a;let d:=Sp.NL s b';let g:Tr:=.ite true (.cd (0<=length s)<|.ck (decide (0<=zc .i64 (0+a))&&true&&decide (toNat h'<=length s)&&f)<|.leaf (.tup [.dat zj<|take 0 s,.dat zj<|take (zM (length s)<|toNat h')<|drop (toNat h') s,.bl true]) []) b;.ite (a==0) g (.ite (t==s) g<|.ite (a==1) (.cd (0<a)<|.ck (decide ((0:y8 h)<=b')&&decide (b'<(256:y8 h)))<|.di (Sp.NL s b'>=0) (.ck (decide (0<=Sp.NL s b')&&decide (0<=toNat d)&&decide (toNat d<=length s))<|.ck (decide (0<=zc .i64 (Sp.NL s b'+a))&&true&&decide (toNat e<=length s)&&f)<|.leaf (.tup [.dat zj<|take (toNat d) s,.dat zj<|take (zM (length s)<|toNat e)<|drop (toNat e) s,.bl true]) []) b)<|.cd (a>=(length s:Int))<|.ite false (.ck (false&&decide (0<=length s))<|.ck (decide (0<=zc .i64 ((-1)+a))&&true&&decide (toNat c<=length s)&&f)<|.leaf (.tup [.dat zj<|take 0 s,.dat zj<|take (zM (length s)<|toNat c)<|drop (toNat c) s,.bl true]) []) b):=by kernel_rfl
end T124
namespace T193
def T(w:List Int):Tr:=tree eI false 9 193<|Ae ([ze i64]) w
def L1(v0:List Int):Tr:=re ((T []))<|Ax 21 [(0,.dat (ze i64) v0)] [] 0
theorem Ap(w:List Int):T w=L1 w:=by kernel_rfl
theorem Al(v0:List Int):stepT eI (L1 v0)=let b':=(length v0:Int);let b:Tr:=.leaf (.dat (ze i64) v0) [];let a:=zc .i64<|b'-1;let c:=decide (0<=zc .i64 (b'-1));.di (b'>0) (.ck (c&&decide (zc .i64 (b'-1)<b'))<|.ite (getD v0 (toNat a) 0==0) (.ck (c&&decide (0<=toNat a)&&decide (toNat a<=length v0))<|L1<|take (toNat a) v0) b) b:=by kernel_rfl
end T193
namespace T155
def T(n:Bool)(w:List Int):Tr:=tree Yk false 9 155<|Ae ([zi,ze i64]) (n,w)
theorem Ap(n:Bool)(w:List Int):T n w=let a:=decide ((↑(length<|At w):Int)>0);.cd (length w<=20000) (.ite n (.leaf (zL [.dat zi a,.dat (ze i64)<|At w])<|[(0,.box [.dat zi a,.dat (ze i64)<|At w])])<|.leaf (zL [.bl false,.dat (ze i64)<|At w])<|[(0,.box [.bl false,.dat (ze i64)<|At w])]):=by kernel_rfl
end T155
namespace T157
def T(a b:List Int):Tr:=tree eI false 9 157<|Ae ([ze i64,ze i64]) (a,b)
def L1(v0 v1:List Int)(v5:Int):Tr:=re ((T [] []).R)<|Ax 41 [(0,.dat (ze i64) v0),(1,.dat (ze i64) v1),(5,.dat i64 v5)] [] 0
theorem Ap(a b:List Int):T a b=let c:=(length a:Int);.ite (c !=(length b:Int)) (.di (c<(length b:Int)) (.leaf (.dat i64 (-1:Int)) [])<|.leaf (.dat i64 (1:Int)) []) (L1 a b<|zc .i64<|c-1):=by kernel_rfl
theorem Al(v0 v1:List Int)(v5:Int):stepT eI (L1 v0 v1 v5)=let a:=decide (0<=v5)&&decide (v5<(length v0:Int));let b':=decide (0<=v5)&&decide (v5<(length v1:Int));.di (v5>=0) (.ck a<|.ck b'<|.di (getD v0 (toNat v5) 0<getD v1 (toNat v5) 0) (.leaf (.dat i64 (-1:Int)) [])<|.ck a<|.ck b'<|.di (getD v0 (toNat v5) 0>getD v1 (toNat v5) 0) (.leaf (.dat i64 (1:Int)) [])<|L1 v0 v1<|zc .i64<|v5-1) (.leaf (.dat i64 (0:Int)) []):=by kernel_rfl
end T157
namespace T159
def T(a b:List Int):Tr:=tree Yk false 9 159<|Ae ([ze i64,ze i64]) (a,b)
def L1(v0 v1:List Int)(a:Nat)(b:Int)(c:List Int):Tr:=re ((T [] []).L)<|Ax 72 [(0,.dat (ze i64) v0),(1,.dat (ze i64) v1),(5,.sl 0 1 0 a none),(6,.dat i64 b)] [(0,.arr false 3 i64 c)] 1
theorem Ap(a b:List Int):T a b=let c:=(length a:Int)+(length b:Int);let b':=zc .i64 c;.ck (decide (0<=zc .i64 c)&&decide (zc .i64 c=zc .i64 c)&&decide (8*toNat b'<=281474976710656)&&decide (zc .i64 c<9223372036854775808)) (L1 a b (toNat b') 0<|replicate (toNat b') 0):=by kernel_rfl
def L2(v0 v1:List Int)(a:Nat)(c e b:Int)(d:List Int):Tr:=re ((stepT Yk<|L1 [] [] 0 0 []).L)<|Ax 72 [(0,.dat (ze i64) v0),(1,.dat (ze i64) v1),(5,.sl 0 1 0 a none),(6,.dat i64 c),(7,.dat i64 e),(8,.dat i64 b)] [(0,.arr false 3 i64 d)] 1
theorem Al(v0 v1:List Int)(a:Nat)(c:Int)(b:List Int):stepT Yk (L1 v0 v1 a c b)=.di (c<(length v0:Int)) (L2 v0 v1 a c 0 0 b) (.ck (decide (0+a<=length b)&&true&&decide (length (take a b)<=20000))<|.leaf (.dat (ze i64)<|At<|take a b)<|[(0,.arr true 3 i64 b)]):=by kernel_rfl
theorem AK(v0 v1:List Int)(a:Nat)(b g c:Int)(d:List Int):stepT Yk (L2 v0 v1 a b g c d)=let i:=decide (0<=zc .i64 (b+c))&&decide (zc .i64 (b+c)<(↑a:Int));let e:=zc .i64<|b+c;let h:=(length v1:Int);let j:=zc .i64<|zc .i64 (getD d (toNat e) 0+zc .i64 (getD v0 (toNat b) 0*getD v1 (toNat c) 0))+g;let b':=b+h;let l:=decide (toNat e<length d);let k:=decide (0<=zc .i64 b')&&decide (zc .i64 b'<(↑a:Int));let f:=zc .i64 b';let h':=decide (toNat f<length d);.di (c<h) (.ck i<|.ck l<|.ck (decide (0<=b)&&decide (b<(length v0:Int)))<|.ck (decide (0<=c)&&decide (c<h))<|.ck true<|.ck i<|.ck l<|.ck true<|L2 v0 v1 a b (zc .i64<|yc j 1000000000) (zc .i64<|c+1)<|set d (toNat e)<|zQ j 1000000000) (.ck k<|.ck h'<|.ck k<|.ck h'<|L1 v0 v1 a (zc .i64<|b+1)<|set d (toNat f)<|zc .i64<|getD d (toNat f) 0+g):=by kernel_rfl
end T159
namespace T192
def T(a:List Int)(d:Int):Tr:=tree Yk false 9 192<|Ae ([ze i64,zh yb]) (a,d)
def L1(v0:List Int)(v1:Int)(a:Nat)(d b:Int)(c:List Int):Tr:=re ((T [] 0).L)<|Ax 39 [(0,.dat (ze i64) v0),(1,.dat i64 v1),(6,.sl 0 1 0 a none),(7,.dat i64 d),(8,.dat i64 b)] [(0,.arr false 3 i64 c)] 1
theorem Ap(a:List Int)(d:Int):T a d=let b:=(length a:Int);.ck (decide (0<=b)&&decide (b=b)&&decide (8*toNat b<=281474976710656)&&decide (b<9223372036854775808)) (L1 a d (toNat b) 0 (zc .i64<|b-1)<|replicate (toNat b) 0):=by kernel_rfl
theorem Al(v0:List Int)(v1:Int)(a:Nat)(d b:Int)(c:List Int):stepT Yk (L1 v0 v1 a d b c)=let e:=zc .i64<|zc .i64 (d*1000000000)+getD v0 (toNat b) 0;.di (b>=0) (.ck (decide (0<=b)&&decide (b<(length v0:Int)))<|.cd (v1≠0)<|.ck (decide (0<=b)&&decide (b<(↑a:Int)))<|.cd (toNat b<length c)<|.cd (v1≠0)<|L1 v0 v1 a (zQ e v1) (zc .i64<|b-1)<|set c (toNat b)<|zc .i64<|yc e v1) (.ck (decide (0+a<=length c)&&true&&decide (length (take a c)<=20000))<|.leaf (.tup [.dat (ze i64)<|At<|take a c,.dat i64 d])<|[(0,.arr true 3 i64 c)]):=by kernel_rfl
end T192
namespace T154
def T(a b:List Int):Tr:=tree KW false 9 154<|Ae ([ze i64,ze i64]) (a,b)
def L1(v0:List Int)(b:Nat)(v9:List Int)(c:Int)(a:Nat)(o1 d:List Int):Tr:=re ((T [] []).L.R.R.L.L.L.L.L)<|Ax 206 [(0,.dat (ze i64) v0),(8,.sl 0 1 0 b none),(9,.dat (ze i64) v9),(10,.dat i64 c),(11,.sl 1 1 0 a none)] [(1,.arr false 3 i64 o1),(0,.arr true 3 i64 d)] 2
theorem Ap(a b:List Int):T a b=let c:=(length b:Int);let f:=getD b (toNat<|zc .i64<|c-1) 0+1;let d:=yc 1000000000<|zc .i64 f;let b':=Ar a*Ar [zc .i64 d];let e:=BL<|Ar b*Ar [zc .i64 d];.ck (AZ a&&AZ b) (.di (BY (Ar a) (Ar b)<0) (.leaf (.tup [.nil,.dat (ze i64) a]) [])<|.ite (c==1) (.cd (0<c)<|.ck (I7 a&&decide (0<getD b 0 0)&&decide (getD b 0 0<1000000000))<|.ck (decide (1<=1)&&true&&decide (1<=20000))<|.leaf (.tup [.dat (ze i64)<|BL<|Ar a/getD b 0 0,.dat (ze i64)<|At [Ar a % getD b 0 0]])<|[(0,.arr true 3 i64 [Ar a % getD b 0 0])])<|.ck (decide (0<=zc .i64 (c-1))&&decide (zc .i64 (c-1)<c))<|.cd (zc .i64 f≠0)<|.ck (decide (1<=1)&&true&&(Sp.hR b&&Sp.hR [zc .i64 d]))<|.ck (decide (1<=1)&&true&&(Sp.hR a&&Sp.hR [zc .i64 d]))<|.cd ((3*(0+length (BL b'))+2000)*8<=562949953421312)<|L1 a 1 e ((↑(length e):Int)) (zk 0<|length<|BL b') ([]++BL b')<|[zc .i64 d]):=by kernel_rfl
def L2(c:Nat)(v9:List Int)(e:Int)(a b:Nat)(d:Int)(f o1 g:List Int):Tr:=re ((stepT KW<|L1 [] 0 [] 0 0 [] []).R.L)<|Ax 206 [(8,.sl 0 1 0 c none),(9,.dat (ze i64) v9),(10,.dat i64 e),(11,.sl 1 1 0 a none),(12,.sl 2 1 0 b none),(13,.dat i64 d)] [(2,.arr false 3 i64 f),(1,.arr false 3 i64 o1),(0,.arr true 3 i64 g)] 3
theorem Al(v0:List Int)(c:Nat)(v9:List Int)(b:Int)(a:Nat)(o1 e:List Int):stepT KW (L1 v0 c v9 b a o1 e)=let d:=(↑a:Int)-b;let b':=zc .i64 d;.di ((↑a:Int)<zc .i64 ((length v0:Int)+1)) (.ck (decide (a=length o1)&&decide ((3*(a+1)+2000)*8<=562949953421312))<|L1 v0 c v9 b (zk a 1) (o1++[0]) e) (.ck (decide (0<=zc .i64 d)&&decide (zc .i64 d=zc .i64 d)&&decide (8*toNat b'<=281474976710656)&&decide (zc .i64 d<9223372036854775808))<|L2 c v9 b a (toNat b') (zc .i64<|zc .i64 d-1) (replicate (toNat b') 0) o1 e):=by kernel_rfl
def L3(d:Nat)(v9:List Int)(g:Int)(a b:Nat)(e:Int)(m o1 n:List Int)(i:Nat)(v1:List Int)(v2 l:Int)(h:Int)(c:Int)(j:List Int)(f:List Int)(k:List Int):Tr:=re ((stepT KW<|L2 d v9 g a b e m o1 n).L.L.L.L.L.L.L.L.L)<|Ax 77 [(0,.sl 1 1 0 i none),(1,.dat (ze i64) v1),(2,.dat i64 v2),(7,.dat i64 l),(9,.dat i64 h),(10,.dat i64 c)] [(2,.arr false 3 i64 j),(1,.arr false 3 i64 f),(0,.arr true 3 i64 k)] 3
theorem AK(g:Nat)(v9:List Int)(d:Int)(a c:Nat)(b:Int)(h o1 f:List Int):stepT KW (L2 g v9 d a c b h o1 f)=let e:=(length v9:Int);let j:=take (toNat d) o1;let k:=toNat<|zc .i64<|e-1;let i:=zc .i64 (b+e)-1;let l:=decide (0<=zc .i64 (e-1))&&decide (zc .i64 (e-1)<e);let m:=zc .i64<|b+e;let b':=zc .i64<|zc .i64 (getD o1 (toNat m) 0*1000000000)+getD o1 (toNat<|zc .i64 i) 0;let h':=decide (getD v9 k 0≠0);.di (b>=0) (.ck (decide (0<=zc .i64 (b+e))&&decide (zc .i64 (b+e)<(↑a:Int)))<|.cd (toNat m<length o1)<|.ck (decide (0<=zc .i64 i)&&decide (zc .i64 i<(↑a:Int)))<|.cd (toNat (zc .i64 i)<length o1)<|.ck l<|.ck h'<|.ck l<|.ck h'<|L3 g v9 d a c b h o1 f a v9 b e (zc .i64<|yc b'<|getD v9 k 0) (zQ b'<|getD v9 k 0) h o1 f) (.ck (decide (0<=d)&&true&&decide (0<=toNat d)&&decide (toNat d<=zP none a)&&decide (zP none a<=zP none a)&&true)<|.cd (0<(↑g:Int))<|.cd (0<length f)<|.ck (decide (0+toNat d<=length o1)&&true&&decide (length j<=20000))<|.ck (I7 (At j)&&decide (0<getD f 0 0)&&decide (getD f 0 0<1000000000))<|.ck (decide (0+c<=length h)&&true&&decide (length (take c h)<=20000))<|.leaf (.tup [.dat (ze i64)<|At<|take c h,.dat (ze i64)<|BL<|Ar (At j)/getD f 0 0])<|[(2,.arr true 3 i64 h),(1,.arr true 3 i64 o1),(0,.arr true 3 i64 f)]):=by kernel_rfl
def L4(c:Nat)(v9:List Int)(f:Int)(a b:Nat)(d e g h:Int)(i o1 j:List Int):Tr:=re ((stepT KW<|L3 0 [] 0 0 0 0 [] [] [] 0 [] 0 0 0 0 [] [] []).L.L.L)<|Ax 206 [(8,.sl 0 1 0 c none),(9,.dat (ze i64) v9),(10,.dat i64 f),(11,.sl 1 1 0 a none),(12,.sl 2 1 0 b none),(13,.dat i64 d),(14,.dat i64 e),(15,.dat i64 g),(16,.dat i64 h)] [(2,.arr false 3 i64 i),(1,.arr false 3 i64 o1),(0,.arr true 3 i64 j)] 3
theorem BE(f:Nat)(v9:List Int)(j:Int)(a b:Nat)(i:Int)(o o1 p:List Int)(l:Nat)(v1:List Int)(v2 g:Int)(d:Int)(e:Int)(h:List Int)(c:List Int)(k:List Int):stepT KW (L3 f v9 j a b i o o1 p l v1 v2 g d e h c k)=let b':=zc .i64 (v2+g)-2;let n:=e+getD v1 (toNat<|zc .i64<|g-1) 0;let m:=zc .i64<|d-1;let q:Tr:=.ck (decide (0<=zc .i64 (g-1))&&decide (zc .i64 (g-1)<(length v1:Int)))<|.di (zc .i64 n>=1000000000) (L4 f v9 j a b i m 0 0 h c k)<|L3 f v9 j a b i o o1 p l v1 v2 g m (zc .i64 n) h c k;.di (d>=1000000000) q (.ck (decide (0<=zc .i64 (g-2))&&decide (zc .i64 (g-2)<(length v1:Int)))<|.ck (decide (0<=zc .i64 b')&&decide (zc .i64 b'<(↑l:Int)))<|.cd (toNat (zc .i64 b')<length c)<|.di (zc .i64 (d*getD v1 (toNat<|zc .i64<|g-2) 0)>zc .i64 (zc .i64 (e*1000000000)+getD c (toNat<|zc .i64 b') 0)) q<|L4 f v9 j a b i d 0 0 h c k):=by kernel_rfl
def L5(c:Nat)(v9:List Int)(g:Int)(a b:Nat)(e f d v20:Int)(h o1 i:List Int):Tr:=re ((stepT KW<|L4 0 [] 0 0 0 0 0 0 0 [] [] []).R.L.L.L.L.L.L.L)<|Ax 206 [(8,.sl 0 1 0 c none),(9,.dat (ze i64) v9),(10,.dat i64 g),(11,.sl 1 1 0 a none),(12,.sl 2 1 0 b none),(13,.dat i64 e),(14,.dat i64 f),(19,.dat i64 d),(20,.dat i64 v20)] [(2,.arr false 3 i64 h),(1,.arr false 3 i64 o1),(0,.arr true 3 i64 i)] 3
theorem Cf(g:Nat)(v9:List Int)(d:Int)(b c:Nat)(a f h e:Int)(i o1 j:List Int):stepT KW (L4 g v9 d b c a f h e i o1 j)=let o:=decide (0<=zc .i64 (e+a))&&decide (zc .i64 (e+a)<(↑b:Int));let n:=decide (0<=zc .i64 (a+d))&&decide (zc .i64 (a+d)<(↑b:Int));let r:=zc .i64<|zc .i64 (f*getD v9 (toNat e) 0)+h;let l:=zc .i64<|e+a;let k:=zc .i64<|a+d;let p:=zc .i64<|e+1;let m:=set o1 (toNat k)<|zc .i64<|getD o1 (toNat k) 0-h;let b':=getD o1 (toNat l) 0-zQ r 1000000000;let h':=decide (toNat l<length o1);let s:=decide (toNat k<length o1);let q:=yc r 1000000000;.di (e<d) (.ck (decide (0<=e)&&decide (e<(length v9:Int)))<|.ck o<|.ck h'<|.ck true<|.ck true<|.di (zc .i64 b'<0) (.ck o<|.ck h'<|L4 g v9 d b c a f (zc .i64<|zc .i64 q+1) p i (set o1 (toNat l)<|zc .i64<|zc .i64 b'+1000000000) j)<|.ck o<|.ck h'<|L4 g v9 d b c a f (zc .i64 q) p i (set o1 (toNat l)<|zc .i64 b') j) (.ck n<|.ck s<|.ck n<|.ck s<|.ck n<|.cd (toNat k<length m)<|.di (getD m (toNat k) 0<0) (L5 g v9 d b c a (zc .i64<|f-1) 0 0 i m j)<|.ck (decide (0<=a)&&decide (a<(↑c:Int)))<|.cd (toNat a<length i)<|L2 g v9 d b c (zc .i64<|a-1) (set i (toNat a) f) m j):=by kernel_rfl
theorem DU(f:Nat)(v9:List Int)(c:Int)(b d:Nat)(a e g v20:Int)(h o1 j:List Int):stepT KW (L5 f v9 c b d a e g v20 h o1 j)=let b':=decide (0<=zc .i64 (v20+a))&&decide (zc .i64 (v20+a)<(↑b:Int));let n:=decide (0<=zc .i64 (a+c))&&decide (zc .i64 (a+c)<(↑b:Int));let i:=zc .i64<|v20+a;let k:=zc .i64<|a+c;let m:=zc .i64<|zc .i64 (getD o1 (toNat i) 0+getD v9 (toNat v20) 0)+g;let l:=decide (toNat i<length o1);let o:=decide (toNat k<length o1);.di (v20<c) (.ck b'<|.ck l<|.ck (decide (0<=v20)&&decide (v20<(length v9:Int)))<|.ck true<|.ck b'<|.ck l<|.ck true<|L5 f v9 c b d a e (zc .i64<|yc m 1000000000) (zc .i64<|v20+1) h (set o1 (toNat i)<|zQ m 1000000000) j) (.ck n<|.ck o<|.ck n<|.ck o<|.ck (decide (0<=a)&&decide (a<(↑d:Int)))<|.cd (toNat a<length h)<|L2 f v9 c b d (zc .i64<|a-1) (set h (toNat a) e) (set o1 (toNat k)<|zc .i64<|getD o1 (toNat k) 0+g) j):=by kernel_rfl
end T154
namespace T130
def T(a b:List Int):Tr:=tree sG false 9 130<|Ae ([ze i64,ze i64]) (a,b)
def L1(v0 v1:List Int):Tr:=re ((T [] []))<|Ax 19 [(0,.dat (ze i64) v0),(1,.dat (ze i64) v1)] [] 0
theorem Ap(a b:List Int):T a b=L1 a b:=by kernel_rfl
theorem Al(v0 v1:List Int):stepT sG (L1 v0 v1)=.di ((length v1:Int)>0) (.ck (AZ v0&&AZ v1&&decide (length v0<=9000)&&decide (length v1<=9000)&&decide (0<Ar v1))<|L1 v1<|BL<|Ar v0 % Ar v1) (.leaf (.dat (ze i64) v0) []):=by kernel_rfl
end T130
namespace T152
def T(s:Z):Tr:=tree eI false 9 152<|Ae ([zj]) s
def L1(v0:Z)(v3 v4:Int):Tr:=re ((T []))<|Ax 20 [(0,.dat zj v0),(3,.dat i64 v3),(4,.dat i64 v4)] [] 0
theorem Ap(s:Z):T s=L1 s 0 0:=by kernel_rfl
theorem Al(v0:Z)(v3 v4:Int):stepT eI (L1 v0 v3 v4)=let a:=decide (v4<(length v0:Int));.ite a (.ck (decide (0<=v4)&&a)<|L1 v0 (zc .i64<|zc .i64 (zc .i64 (10*v3)+zc .i64 (↑(zn<|getD v0 (toNat v4) (0:UInt8)):Int))-48)<|zc .i64<|v4+1) (.leaf (.dat i64 v3) []):=by kernel_rfl
end T152
namespace T149
def T(s:Z):Tr:=tree Ym false 9 149<|Ae ([zj]) s
def L1(v0:Z)(v3:Bool):Tr:=re ((T []).L.L.L.L)<|Ax 40 [(0,.dat zj v0),(2,.ptr 0 0),(3,.dat zi v3),(4,.nil)] [(0,.box [.bl false,.nil])] 1
def L2(v0:Z):Tr:=re ((T []).R)<|Ax 40 [(0,.dat zj v0),(2,.ptr 0 0),(3,.bl false),(4,.nil)] [(0,.box [.bl false,.nil])] 1
theorem Ap(s:Z):T s=let a:=(↑(zn<|getD s 0 (0:UInt8)):Int)==45;.di ((length s:Int)>0) (.cd (0<(length s:Int))<|.ite a (.ck (decide (1<=length s)&&decide (length s<=length s))<|L1 (take (zM (length s) 1)<|drop 1 s) a)<|L1 s a) (L2 s):=by kernel_rfl
def L3(v0:Z)(v3:Bool)(a:Nat)(o1:List Int):Tr:=re ((stepT Ym<|L1 [] false).L.L.L.L.L)<|Ax 40 [(0,.dat zj v0),(2,.ptr 0 0),(3,.dat zi v3),(4,.sl 1 1 0 a none)] [(1,.arr false 3 i64 o1),(0,.box [.bl false,.nil])] 2
theorem Al(v0:Z)(v3:Bool):stepT Ym (L1 v0 v3)=let b':=decide (1<=1)&&decide (0<1)&&decide ((3*1+2000)*8<=562949953421312);let b:=(length v0:Int);let f:=B5 v3 [Bq v0];let h':=At [Bq v0];let a:=zc .i64<|b-9;let c:=decide (0<=zc .i64 (b-9));let e:=take (zM (length v0)<|toNat a)<|drop (toNat a) v0;let d:=decide (toNat a<=length v0);.di (b>9) (.ck (c&&true&&d&&decide (length v0<=length v0))<|.ck (Dz e)<|.ck b'<|.ck (c&&decide (0<=toNat a)&&d)<|L3 (take (toNat a) v0) v3 1<|[Bq e]) (.ck (Dz v0)<|.ck b'<|.ck (decide (0+1<=1)&&true&&decide (1<=20000))<|.leaf (zL [.dat zi f,.dat (ze i64) h'])<|[(zk 1 1,.arr true 3 i64 [Bq v0]),(1,.arr false 3 i64 [Bq v0]),(0,.box [.dat zi f,.dat (ze i64) h'])]):=by kernel_rfl
def L4(v0:Z)(a:Nat)(o1:List Int):Tr:=re ((stepT Ym<|L2 []).L.L.L.L.L)<|Ax 40 [(0,.dat zj v0),(2,.ptr 0 0),(3,.bl false),(4,.sl 1 1 0 a none)] [(1,.arr false 3 i64 o1),(0,.box [.bl false,.nil])] 2
theorem AK(v0:Z):stepT Ym (L2 v0)=let b':=decide (1<=1)&&decide (0<1)&&decide ((3*1+2000)*8<=562949953421312);let e:=B5 false [Bq v0];let b:=(length v0:Int);let h':=At [Bq v0];let a:=zc .i64<|b-9;let c:=decide (0<=zc .i64 (b-9));let d:=take (zM (length v0)<|toNat a)<|drop (toNat a) v0;let f:=decide (toNat a<=length v0);.di (b>9) (.ck (c&&true&&f&&decide (length v0<=length v0))<|.ck (Dz d)<|.ck b'<|.ck (c&&decide (0<=toNat a)&&f)<|L4 (take (toNat a) v0) 1<|[Bq d]) (.ck (Dz v0)<|.ck b'<|.ck (decide (0+1<=1)&&true&&decide (1<=20000))<|.leaf (zL [.dat zi e,.dat (ze i64) h'])<|[(zk 1 1,.arr true 3 i64 [Bq v0]),(1,.arr false 3 i64 [Bq v0]),(0,.box [.dat zi e,.dat (ze i64) h'])]):=by kernel_rfl
theorem BE(v0:Z)(v3:Bool)(a:Nat)(o1:List Int):stepT Ym (L3 v0 v3 a o1)=let f:=decide (1<=1)&&true&&decide (a=length o1)&&decide ((3*(a+1)+2000)*8<=562949953421312);let c:=o1++[Bq v0];let d:=(length v0:Int);let b:=zc .i64<|d-9;let b':=take (zk a 1) c;let g:=decide (0<=zc .i64 (d-9));let e:=take (zM (length v0)<|toNat b)<|drop (toNat b) v0;let h':=decide (toNat b<=length v0);.di (d>9) (.ck (g&&true&&h'&&decide (length v0<=length v0))<|.ck (Dz e)<|.ck f<|.ck (g&&decide (0<=toNat b)&&h')<|L3 (take (toNat b) v0) v3 (zk a 1)<|o1++[Bq e]) (.ck (Dz v0)<|.ck f<|.ck (decide (0+zk a 1<=length c)&&true&&decide (length b'<=20000))<|.leaf (zL [.dat zi<|B5 v3 b',.dat (ze i64)<|At b'])<|[(zk 2 1,.arr true 3 i64 c),(2,.arr false 3 i64 [Bq v0]),(0,.box [.dat zi<|B5 v3 b',.dat (ze i64)<|At b'])]):=by kernel_rfl
theorem Cf(v0:Z)(a:Nat)(o1:List Int):stepT Ym (L4 v0 a o1)=let f:=decide (1<=1)&&true&&decide (a=length o1)&&decide ((3*(a+1)+2000)*8<=562949953421312);let c:=o1++[Bq v0];let d:=(length v0:Int);let b:=zc .i64<|d-9;let b':=take (zk a 1) c;let g:=decide (0<=zc .i64 (d-9));let e:=take (zM (length v0)<|toNat b)<|drop (toNat b) v0;let h':=decide (toNat b<=length v0);.di (d>9) (.ck (g&&true&&h'&&decide (length v0<=length v0))<|.ck (Dz e)<|.ck f<|.ck (g&&decide (0<=toNat b)&&h')<|L4 (take (toNat b) v0) (zk a 1)<|o1++[Bq e]) (.ck (Dz v0)<|.ck f<|.ck (decide (0+zk a 1<=length c)&&true&&decide (length b'<=20000))<|.leaf (zL [.dat zi<|B5 false b',.dat (ze i64)<|At b'])<|[(zk 2 1,.arr true 3 i64 c),(2,.arr false 3 i64 [Bq v0]),(0,.box [.dat zi<|B5 false b',.dat (ze i64)<|At b'])]):=by kernel_rfl
end T149
namespace T106n
def T(n:Int):Tr:=tree xY false 9 106<|Ae ([zh yb]) n
theorem Ap(n:Int):T n=.leaf (zL [.dat i64 n,.nil]) ([(0,.box [.dat i64 n,.nil])]):=by kernel_rfl
end T106n
namespace T190
def T(a b:Int×List Int):Tr:=tree rT false 9 190<|Ae ([z6 i64<|zt<|zh zd,z6 i64<|zt<|zh zd]) (a,b)
def L1(e:Bool)(c b:List Int)(d o1 f:Int)(a:List Int):Tr:=re ((T (0,[]) (0,[])).L.L.R.L.L.L)<|Ax 84 [(3,.ptr 0 0),(4,.ptr 1 0),(5,.ptr 2 0),(8,.dat zi e),(12,.dat (ze<|zh zd) c),(13,.dat (ze<|zh zd) b)] [(2,.box [.dat i64 d,.nil]),(1,.box [.dat i64 o1,.nil]),(0,.box [.dat i64 f,.dat (zt<|zh zd) a])] 3
theorem Ap(a b:Int×List Int):T a b=let b':=zt<|zh zd;let d:=BS<|Af<|Sp.vI (fst a,snd a);let c:=BS<|Af<|Sp.vI (fst b,snd b);let e:=yc (fst a)<|fst b;let g:=zc .i64<|zQ (fst a) (fst b)+fst b;let h':=zQ (fst a)<|fst b;let h:=zk (zk 0 1) 1;let f:Tr:=.ck (Sp.D8 (fst a,snd a))<|.ck (Sp.D8 (fst b,snd b))<|.ck (jG d c)<|L1 (decide (Sp.vI (fst a,snd a)<0)) (BS<|Ao d/Ao c) (BS<|Ao d % Ao c) 0 0 (fst b)<|snd b;let i:=zc .i64<|zc .i64 e-1;.ite (!decide (0<length (snd a))) (.ite (!decide (0<length (snd b))) (.ite (fst a !=(-9223372036854775808)) (.cd (fst b≠0)<|.cd (fst b≠0)<|.di (zQ (fst a) (fst b)<0) (.leaf (.tup [zL [.dat i64 i,.nil],zL [.dat i64 g,.nil]])<|[(zk h 1,.box [.dat i64 g,.nil]),(zk (zk 0 1) 1,.box [.dat i64 i,.nil]),(zk 0 1,.box [.dat i64<|fst b,.dat b'<|snd b]),(0,.box [.dat i64<|fst a,.dat b'<|snd a])])<|.leaf (.tup [zL [.dat i64<|zc .i64 e,.nil],zL [.dat i64 h',.nil]])<|[(zk h 1,.box [.dat i64 h',.nil]),(zk (zk 0 1) 1,.box [.dat i64<|zc .i64 e,.nil]),(zk 0 1,.box [.dat i64<|fst b,.dat b'<|snd b]),(0,.box [.dat i64<|fst a,.dat b'<|snd a])]) f) f) f:=by kernel_rfl
def L2(g:Int)(c:List Int)(e:Int)(b:List Int)(d o1 f:Int)(a:List Int):Tr:=re ((stepT rT<|L1 false [] [] 0 0 0 []).L.L)<|Ax 84 [(3,.ptr 0 0),(4,.ptr 1 0),(5,.ptr 2 0),(14,.ptr 3 0),(15,.ptr 4 0)] [(4,.box [.dat i64 g,.dat (zt<|zh zd) c]),(3,.box [.dat i64 e,.dat (zt<|zh zd) b]),(2,.box [.dat i64 d,.nil]),(1,.box [.dat i64 o1,.nil]),(0,.box [.dat i64 f,.dat (zt<|zh zd) a])] 5
theorem Al(d:Bool)(b c:List Int)(e o1 f:Int)(a:List Int):stepT rT (L1 d b c e o1 f a)=let g:=Sp.sg d<|Ao c;let b':=Sp.sg d<|Ao b;.ck (B3 b) (.ck (B3 c)<|L2 (Cv g) (Ct g) (Cv b') (Ct b') e o1 f a):=by kernel_rfl
theorem AK(e:Int)(a:List Int)(f:Int)(b:List Int)(k o1 g:Int)(c:List Int):stepT rT (L2 e a f b k o1 g c)=let d:=zt<|zh zd;let b':=Zx (f,b) (1,C5 1);let i:=ZG (f,b) (1,C5 1);let h:=Lt (e,a) (g,c);let j:=LG (e,a) (g,c);.ck (Sp.D8 (e,a)) (.di (LP (e,a)<0) (.ck true<|.ck (BV (f,b)&&BV (1,C5 1))<|.ck (BV (e,a)&&BV (g,c))<|.leaf (.tup [zL [.dat i64 b',.dat d i],zL [.dat i64 h,.dat d j]])<|[(4,.box [.dat i64 h,.dat d j]),(3,.box [.dat i64 b',.dat d i]),(2,.box [.dat i64 h,.dat d j]),(1,.box [.dat i64 b',.dat d i]),(0,.box [.dat i64 g,.dat d c])])<|.leaf (.tup [zL [.dat i64 f,.dat d b],zL [.dat i64 e,.dat d a]])<|[(4,.box [.dat i64 e,.dat d a]),(3,.box [.dat i64 f,.dat d b]),(2,.box [.dat i64 e,.dat d a]),(1,.box [.dat i64 f,.dat d b]),(0,.box [.dat i64 g,.dat d c])]):=by kernel_rfl
end T190
namespace T170
def T(a b:Int×List Int):Tr:=tree tU false 9 170<|Ae ([z6 i64<|zt<|zh zd,z6 i64<|zt<|zh zd]) (a,b)
def L1(c o1:Int)(a:List Int)(d:Int)(b:List Int):Tr:=re ((T (0,[]) (0,[])).L.L)<|Ax 23 [(2,.ptr 0 0),(3,.ptr 1 0),(4,.ptr 2 0)] [(2,.box [.dat i64 c,.nil]),(1,.box [.dat i64 o1,.dat (zt<|zh zd) a]),(0,.box [.dat i64 d,.dat (zt<|zh zd) b])] 3
theorem Ap(a b:Int×List Int):T a b=.ck (Sp.D8 (fst a,snd a)) (.ck (Sp.D8 (fst b,snd b))<|L1 0 (Np (fst b,snd b)) (MV (fst b,snd b)) (Np (fst a,snd a))<|MV (fst a,snd a)):=by kernel_rfl
theorem Al(e o1:Int)(a:List Int)(c:Int)(b:List Int):stepT tU (L1 e o1 a c b)=let d:=zt<|zh zd;.ck (Sp.D8 (o1,a)) (.ite (LP (o1,a) !=0) (.ck (BV (c,b)&&BV (o1,a)&&decide (0<Sp.vI (o1,a)))<|L1 e (dP (c,b) (o1,a)) (Y9 (c,b) (o1,a)) o1 a)<|.leaf (zL [.dat i64 c,.dat d b])<|[(2,.box [.dat i64 c,.dat d b]),(1,.box [.dat i64 o1,.dat d a]),(0,.box [.dat i64 c,.dat d b])]):=by kernel_rfl
end T170
namespace T176
def T(a:Int×List Int)(k:Int):Tr:=tree rM false 9 176<|Ae ([z6 i64<|zt<|zh zd,zh yb]) (a,k)
def L1(v1 c:Int)(a:List Int)(o1 d:Int)(b:List Int):Tr:=re ((T (0,[]) 0).L)<|Ax 23 [(1,.dat i64 v1),(2,.ptr 0 0),(4,.ptr 1 0),(5,.ptr 2 0)] [(2,.box [.dat i64 c,.dat (zt<|zh zd) a]),(1,.box [.dat i64 o1,.nil]),(0,.box [.dat i64 d,.dat (zt<|zh zd) b])] 3
theorem Ap(a:Int×List Int)(k:Int):T a k=.ck true (L1 k 1 (C5 1) 0 (fst a)<|snd a):=by kernel_rfl
theorem Al(v1 d:Int)(b:List Int)(o1 c:Int)(a:List Int):stepT rM (L1 v1 d b o1 c a)=let e:=zt<|zh zd;let b':=yp v1<|2^1;let h:=BV (c,a)&&BV (c,a);let f:=Hl (d,b) (c,a);let i:=Hi (d,b) (c,a);let g:=Hl (c,a) (c,a);let j:=Hi (c,a) (c,a);.di (v1>0) (.ite (Hc yb v1 1==1) (.ck (BV (d,b)&&BV (c,a))<|.di (v1>1) (.ck h<|.ck true<|L1 b' f i o1 g j)<|.ck true<|L1 b' f i o1 c a)<|.di (v1>1) (.ck h<|.ck true<|L1 b' d b o1 g j)<|.ck true<|L1 b' d b o1 c a) (.leaf (zL [.dat i64 d,.dat e b])<|[(2,.box [.dat i64 d,.dat e b]),(1,.box [.dat i64 d,.dat e b]),(0,.box [.dat i64 c,.dat e a])]):=by kernel_rfl
end T176
namespace T212
def T(a b:List Int):Tr:=tree IY false 9 212<|Ae ([ze<|zh zd,ze<|zh zd]) (a,b)
def L1(v0 v1:List Int)(a:Nat)(d b:Int)(c:List Int):Tr:=re ((T [] []).L.R.L.L)<|Ax 137 [(0,.dat (ze<|zh zd) v0),(1,.dat (ze<|zh zd) v1),(6,.sl 0 1 0 a none),(7,.dat (zh zd) d),(8,.dat i64 b)] [(0,.arr false 216 (zh zd) c)] 1
def L2(a b:List Int)(v1:Int)(e:Nat)(f:List Int)(d c:Int)(g:List Int):Tr:=re ((T a b).L.R.R.L.L.L)<|Ax 40 [(1,.dat i64 v1),(5,.sl 0 1 0 e none),(12,.dat (ze<|zh zd) f),(13,.dat i64 d),(14,.dat i64 c)] [(0,.arr false 216 (zh zd) g)] 1
theorem Ap(a b:List Int):T a b=let c:=(length b:Int);let b':=(length a:Int);let d:=zc .i64<|c+1;let e:=getD b (toNat<|zc .i64<|c-1) 0;.ck (B3 a&&B3 b) (.di (BY (Ao a) (Ao b)<0) (.leaf (.tup [.nil,.dat (ze<|zh zd) a]) [])<|.ite (c==1) (.ck (decide (0<=b')&&decide (b'=b')&&decide (8*toNat b'<=281474976710656)&&decide (b'<9223372036854775808))<|L1 a b (toNat b') 0 (zc .i64<|b'-1)<|replicate (toNat b') 0)<|.ck (decide (0<=zc .i64 (c-1))&&decide (zc .i64 (c-1)<c))<|.ck (zx e)<|.ck (decide (0<=zc .i64 (c+1))&&decide (zc .i64 (c+1)=zc .i64 (c+1))&&decide (8*toNat d<=281474976710656)&&decide (zc .i64 (c+1)<9223372036854775808))<|L2 a b (Sp.lz e) (toNat d) b c 0<|replicate (toNat d) 0):=by kernel_rfl
theorem Al(v0 v1:List Int)(a:Nat)(c b:Int)(d:List Int):stepT IY (L1 v0 v1 a c b d)=let e:=zh zd;let b':=getD v0 (toNat b) 0;.di (b>=0) (.ck (decide (0<=b)&&decide (b<(length v0:Int)))<|.cd (0<(length v1:Int))<|.ck (zx c&&zx b'&&zx (getD v1 0 0)&&decide (c<getD v1 0 0))<|.ck (decide (0<=b)&&decide (b<(↑a:Int)))<|.cd (toNat b<length d)<|L1 v0 v1 a (Sp.dr c b'<|getD v1 0 0) (zc .i64<|b-1)<|set d (toNat b)<|Sp.dq c b'<|getD v1 0 0) (.ck (decide (0+a<=length d)&&true&&CD (take a d))<|.ck (decide (1<=1)&&true&&CD [c])<|.leaf (.tup [.dat (ze e)<|At<|take a d,.dat (ze e)<|At [c]])<|[(1,.arr true 216 e [c]),(0,.arr true 216 e d)]):=by kernel_rfl
def L3(a b:List Int)(v1:Int)(k:Nat)(l:List Int)(g i:Int)(m:List Int)(j:Int)(e:Nat)(f:List Int)(d:Int)(c:Int)(o1:List Int)(h:List Int):Tr:=re ((stepT IY<|L2 a b v1 k l g i m).R.L.L)<|Ax 40 [(1,.dat i64 j),(5,.sl 1 1 0 e none),(12,.dat (ze<|zh zd) f),(13,.dat i64 d),(14,.dat i64 c)] [(1,.arr false 216 (zh zd) o1),(0,.arr true 216 (zh zd) h)] 2
theorem AK(a b:List Int)(v1:Int)(d:Nat)(e:List Int)(f c:Int)(g:List Int):stepT IY (L2 a b v1 d e f c g)=let j:=set g (toNat c)<|Yj zd (getD g (toNat c) 0)<|zc .u64<|getD e (toNat c) 0*2^yr (toNat v1) 64;let b':=(length a:Int)+1;let h:=zc .i64<|c+1;let l:=decide (0<=c)&&decide (c<(↑d:Int));let k:=decide (toNat c<length g);let i:=zc .i64 b';.di (c<f) (.ck (decide (0<=c)&&decide (c<(length e:Int)))<|.ck l<|.ck k<|.cd (0<=v1)<|.ck l<|.ck k<|.di (v1>0) (.cd (0<=zc .i64 (64-v1))<|.ck (decide (0<=zc .i64 (c+1))&&decide (zc .i64 (c+1)<(↑d:Int)))<|.cd (toNat h<length j)<|L2 a b v1 d e f h<|set j (toNat h)<|yp (getD e (toNat c) 0)<|2^yr (toNat<|zc .i64<|64-v1) 64)<|L2 a b v1 d e f h j) (.ck (decide (0+d<=length g)&&true&&CD (take d g))<|.ck (decide (0<=zc .i64 b')&&decide (zc .i64 b'=zc .i64 b')&&decide (8*toNat i<=281474976710656)&&decide (zc .i64 b'<9223372036854775808))<|L3 a b v1 d e f c g (Sp.lz<|getD b (toNat<|zc .i64<|(length b:Int)-1) 0) (toNat i) a ((length a:Int)) 0 (replicate (toNat i) 0) g):=by kernel_rfl
def L4(v9:Int)(d:List Int)(b:Nat)(e:Int)(a:Nat)(c:Int)(o1 f:List Int):Tr:=re ((stepT IY<|L3 [] [] 0 0 [] 0 0 [] 0 0 [] 0 0 [] []).R.L)<|Ax 137 [(9,.dat i64 v9),(10,.dat (ze<|zh zd) d),(11,.sl 0 1 0 b none),(12,.dat i64 e),(13,.sl 1 1 0 a none),(14,.dat i64 c)] [(1,.arr false 216 (zh zd) o1),(0,.arr false 216 (zh zd) f)] 2
theorem BE(a b:List Int)(v1:Int)(h:Nat)(j:List Int)(k i:Int)(o:List Int)(f:Int)(d:Nat)(e:List Int)(g:Int)(c:Int)(o1:List Int)(l:List Int):stepT IY (L3 a b v1 h j k i o f d e g c o1 l)=let b':=set o1 (toNat c)<|Yj zd (getD o1 (toNat c) 0)<|zc .u64<|getD e (toNat c) 0*2^yr (toNat f) 64;let n:=zc .i64<|c+1;let r:=decide (0<=c)&&decide (c<(↑d:Int));let s:=decide (toNat c<length o1);let h':=At<|take h o;let q:=(↑(length h'):Int);let m:=zc .i64 ((length a:Int)-q)+1;let p:=zc .i64 m;.di (c<g) (.ck (decide (0<=c)&&decide (c<(↑(length e):Int)))<|.ck r<|.ck s<|.cd (0<=f)<|.ck r<|.ck s<|.di (f>0) (.cd (0<=zc .i64 (64-f))<|.ck (decide (0<=zc .i64 (c+1))&&decide (zc .i64 (c+1)<(↑d:Int)))<|.cd (toNat n<length b')<|L3 a b v1 h j k i o f d e g n (set b' (toNat n)<|yp (getD e (toNat c) 0)<|2^yr (toNat<|zc .i64<|64-f) 64) l)<|L3 a b v1 h j k i o f d e g n b' l) (.ck (decide (0<=zc .i64 m)&&decide (zc .i64 m=zc .i64 m)&&decide (8*toNat p<=281474976710656)&&decide (zc .i64 m<9223372036854775808))<|L4 (Sp.lz<|getD b (toNat<|zc .i64<|(length b:Int)-1) 0) h' d q (toNat p) (zc .i64<|(length a:Int)-q) (replicate (toNat p) 0) o1):=by kernel_rfl
def L5(v9:Int)(f:List Int)(a:Nat)(j:Int)(b:Nat)(e:Int)(o1 n:List Int)(i g c:Nat)(v1:List Int)(v5 k l m:Int)(d:List Int)(h:List Int):Tr:=re ((stepT IY<|L4 v9 f a j b e o1 n).L.L.L.L.L.L.L.L.L.L)<|Ax 186 [(0,.sl 0 1 i g<|Option.some c),(1,.dat (ze<|zh zd) v1),(5,.dat i64 v5),(6,.dat (zh zd) k),(7,.dat (zh zd) l),(8,.dat (zh zd) m)] [(1,.arr false 216 (zh zd) d),(0,.arr false 216 (zh zd) h)] 2
def L6(v9:Int)(b:Nat)(e:Int)(a:Nat)(d c:Int)(o1 f:List Int):Tr:=re ((stepT IY<|L4 0 [] 0 0 0 0 [] []).R)<|Ax 137 [(9,.dat i64 v9),(11,.sl 0 1 0 b none),(12,.dat i64 e),(13,.sl 1 1 0 a none),(96,.dat i64 d),(97,.dat i64 c)] [(1,.arr false 216 (zh zd) o1),(0,.arr false 216 (zh zd) f)] 2
theorem Cf(v9:Int)(c:List Int)(a:Nat)(e:Int)(d:Nat)(b:Int)(o1 f:List Int):stepT IY (L4 v9 c a e d b o1 f)=let g:=(length c:Int);let i:=zk 0<|toNat b;let p:=zM (zP none a)<|toNat b;let p':=zc .i64 (b+e)+1;let k:=toNat<|zc .i64<|g-1;let n:=zc .i64 p';let h':=zk (toNat g) i;let l':=decide (zk (toNat g) i<length f);let n':=decide (0<=zc .i64 (g-1));let b':=zM (toNat n)<|toNat b;let m:=n'&&decide (zc .i64 (g-1)<g);let h:=getD f (zk k i) 0;let j:=getD c k 0;let o':=decide (zk k i<length f);let l:=getD f h' 0;let q:=n'&&decide (zc .i64 (g-1)<(↑b':Int));let o:=decide (0<=g)&&decide (g<(↑b':Int));.di (b>=0) (.ck (decide (0<=b)&&decide (0<=zc .i64 p')&&true&&decide (toNat b<=toNat n)&&decide (toNat n<=zP none a)&&decide (zP none a<=zP none a)&&true)<|.ck o<|.ck l'<|.ck m<|.di (getD f h' 0>=getD c k 0) (.ck q<|.ck o'<|.ck m<|.ck (zx h&&zx j&&decide ((0:y8 (Bw [u64]))<=0)&&decide (0<=(1:y8 (Bw [u64]))))<|L5 v9 c a e d b o1 f i b' p c g 18446744073709551615 (Hp h j 0) (Ni h j 0) o1 f)<|.ck o<|.ck l'<|.ck q<|.ck o'<|.ck m<|.ck (zx l&&zx h&&zx j&&decide (getD f h' 0<getD c k 0))<|L5 v9 c a e d b o1 f i b' p c g (Sp.dq l h j) (Sp.dr l h j) 0 o1 f) (L6 v9 a e d e 0 o1 f):=by kernel_rfl
def L7(v9:Int)(l:List Int)(b:Nat)(j:Int)(c:Nat)(g:Int)(o1 p:List Int)(n h k:Nat)(v1:List Int)(v5 o i:Int)(d:Int)(e a:Int)(f:List Int)(m:List Int):Tr:=re ((stepT IY<|L5 v9 l b j c g o1 p 0 0 0 [] 0 0 0 0 [] []).L.L.L.L)<|Ax 186 [(0,.sl 0 1 n h<|Option.some k),(1,.dat (ze<|zh zd) v1),(5,.dat i64 v5),(6,.dat (zh zd) o),(11,.dat (zh zd) i),(12,.dat (zh zd) d),(104,.dat i64 e),(105,.dat i64 a)] [(1,.arr false 216 (zh zd) f),(0,.arr false 216 (zh zd) m)] 2
theorem DU(v9:Int)(k:List Int)(a:Nat)(i:Int)(b:Nat)(h:Int)(o1 p:List Int)(d e j:Nat)(v1:List Int)(v5 f l r:Int)(g:List Int)(c:List Int):stepT IY (L5 v9 k a i b h o1 p d e j v1 v5 f l r g c)=let b':=toNat<|zc .i64<|v5-2;let o:=L7 v9 k a i b h o1 p d e j v1 v5 f 0 0 v5 0 g c;let n:=getD v1 (toNat<|zc .i64<|v5-1) 0;let q:=decide (0<=zc .i64 (v5-2));let s:Tr:=.ck (decide (0<=zc .i64 (v5-1))&&decide (zc .i64 (v5-1)<(length v1:Int)))<|.ck (zx l&&zx n&&decide ((0:y8 (Bw [u64]))<=0)&&decide (0<=(1:y8 (Bw [u64]))))<|L5 v9 k a i b h o1 p d e j v1 v5 (zc .u64<|f-1) (Hp l n 0) (Ni l n 0) g c;let m:=getD v1 b' 0;.ite (r==0) (.ck (q&&decide (zc .i64 (v5-2)<(length v1:Int)))<|.ck (zx f&&zx m)<|.di (PU f m<l) o<|.ite (PU f m==l) (.ck (q&&decide (zc .i64 (v5-2)<(↑e:Int)))<|.cd (zk b' d<length c)<|.di (HJ f m<=getD c (zk b' d) 0) o s) s) o:=by kernel_rfl
theorem Fj(v9:Int)(b:Nat)(d:Int)(c:Nat)(e a:Int)(o1 f:List Int):stepT IY (L6 v9 b d c e a o1 f)=let g:=set f (toNat a)<|yp (getD f (toNat a) 0)<|2^yr (toNat v9) 64;let b':=decide (0<=a)&&decide (a<(↑b:Int));let i:=zc .i64<|a+1;let h:=zh zd;let k:=decide (zc .i64 (a+1)<(↑b:Int));let l:=decide (toNat a<length f);let j:=L6 v9 b d c e i o1 g;let h':=decide (toNat a<length g);.di (a<e) (.ck b'<|.ck l<|.cd (0<=v9)<|.ck b'<|.ck l<|.di (v9>0) (.ite k (.ck b'<|.ck h'<|.ck (decide (0<=zc .i64 (a+1))&&k)<|.cd (toNat i<length g)<|.cd (0<=zc .i64 (64-v9))<|.ck b'<|.ck h'<|L6 v9 b d c e i o1<|set g (toNat a)<|Yj zd (getD g (toNat a) 0)<|zc .u64<|getD g (toNat i) 0*2^yr (toNat<|zc .i64<|64-v9) 64) j) j) (.ck (decide (0<=d)&&true&&decide (0<=toNat d)&&decide (toNat d<=zP none b)&&decide (zP none b<=zP none b)&&true)<|.ck (decide (0+c<=length o1)&&true&&CD (take c o1))<|.ck (decide (0+toNat d<=length f)&&true&&CD (take (toNat d) f))<|.leaf (.tup [.dat (ze h)<|At<|take c o1,.dat (ze h)<|At<|take (toNat d) f])<|[(1,.arr true 216 h o1),(0,.arr true 216 h f)]):=by kernel_rfl
def L8(v9:Int)(k:List Int)(b:Nat)(i:Int)(d:Nat)(g:Int)(o1 o:List Int)(m h j:Nat)(v1:List Int)(v5 n e a c:Int)(f:List Int)(l:List Int):Tr:=re ((stepT IY<|L7 v9 k b i d g o1 o 0 0 0 [] 0 0 0 0 0 0 [] []).R.L.L.L.L.L.R)<|Ax 186 [(0,.sl 0 1 m h<|Option.some j),(1,.dat (ze<|zh zd) v1),(5,.dat i64 v5),(6,.dat (zh zd) n),(17,.dat (zh zd) e),(156,.dat i64 a),(157,.dat i64 c)] [(1,.arr false 216 (zh zd) f),(0,.arr false 216 (zh zd) l)] 2
theorem Dm(v9:Int)(m:List Int)(h:Nat)(l:Int)(e:Nat)(d:Int)(o1 t:List Int)(g j o:Nat)(v1:List Int)(v5 n c:Int)(b:Int)(k a:Int)(i:List Int)(f:List Int):stepT IY (L7 v9 m h l e d o1 t g j o v1 v5 n c b k a i f)=let b':=zk (toNat v5) g;let p:=getD v1 (toNat a) 0;let z:=decide (zk (toNat a) g<length f);let x:=decide (zk (toNat v5) g<length f);let h':=decide (0<=a)&&decide (a<(↑j:Int));let u:=(0:y8 (Bw [u64]));let r:=(1:y8 (Bw [u64]));let y:=decide (0<=v5)&&decide (v5<(↑j:Int));let n':=zk (toNat a) g;let v:=HJ n p;let q:=getD f n' 0;let s:=getD f b' 0;let w:=set f b'<|RO s b c;let l':=Hp v b 0;.di (a<k) (.ck (decide (0<=a)&&decide (a<(length v1:Int)))<|.ck (zx n&&zx p)<|.ck (zx v&&zx b&&decide (u<=0)&&decide (0<=r))<|.ck h'<|.ck z<|.ck (zx q&&zx l'&&decide (u<=c)&&decide (c<=r))<|.ck h'<|.ck z<|L7 v9 m h l e d o1 t g j o v1 v5 n (O6 q l' c) (zc .u64<|PU n p+Ni v b 0) k (zc .i64<|a+1) i<|set f n'<|RO q l' c) (.ck y<|.ck x<|.ck (zx s&&zx b&&decide (u<=c)&&decide (c<=r))<|.ck y<|.ck x<|.ite (O6 s b c==0) (.ck (decide (0<=d)&&decide (d<(↑e:Int)))<|.cd (toNat d<length i)<|L4 v9 m h l e (zc .i64<|d-1) (set i (toNat d) n) w)<|L8 v9 m h l e d o1 t g j o v1 v5 n 0 v5 0 i w):=by kernel_rfl
theorem Jb(v9:Int)(l:List Int)(h:Nat)(k:Int)(d:Nat)(b:Int)(o1 s:List Int)(f j m:Nat)(v1:List Int)(v5 n e g a:Int)(i:List Int)(c:List Int):stepT IY (L8 v9 l h k d b o1 s f j m v1 v5 n e g a i c)=let b':=decide (zk (toNat a) f<length c);let o:=getD v1 (toNat a) 0;let q:=decide (zk (toNat v5) f<length c);let t:=decide (0<=a)&&decide (a<(↑j:Int));let r:=decide (0<=v5)&&decide (v5<(↑j:Int));let u:=zk (toNat a) f;let h':=zk (toNat v5) f;let p:=getD c u 0;.di (a<g) (.ck t<|.ck b'<|.ck (decide (0<=a)&&decide (a<(length v1:Int)))<|.ck (zx p&&zx o&&decide ((0:y8 (Bw [u64]))<=e)&&decide (e<=(1:y8 (Bw [u64]))))<|.ck t<|.ck b'<|L8 v9 l h k d b o1 s f j m v1 v5 n (Ni p o e) g (zc .i64<|a+1) i<|set c u<|Hp p o e) (.ck r<|.ck q<|.ck r<|.ck q<|.ck (decide (0<=b)&&decide (b<(↑d:Int)))<|.cd (toNat b<length i)<|L4 v9 l h k d (zc .i64<|b-1) (set i (toNat b)<|zc .u64<|n-1)<|set c h'<|zc .u64<|getD c h' 0+e):=by kernel_rfl
end T212
end
namespace T212
variable {Q:PV->Ob->Prop}
theorem xQ{r x d:Int}(a:0<d)(c:0<=r/\r<d)(b:0<=x/\x<18446744073709551616):Sp.dq r x d*d+Sp.dr r x d=r*18446744073709551616+x/\0<=Sp.dq r x d/\Sp.dq r x d<18446744073709551616/\0<=Sp.dr r x d/\Sp.dr r x d<d:=by
 unfold Sp.dq Sp.dr;have h:=zY (r*18446744073709551616+x) d;rw[zq]at h;refine⟨h,yv (by omega) (by omega),zZ a (by omega),yf _ (by omega),yi _ a⟩
theorem An(a:List Int)(d:Int)(h:Av Am a)(f:0<d/\d<18446744073709551616)(m:a.length<=20000)(k:∀q r ob,Av Am q->(0<=r/\r<d)->Ao a=Ao q*d+r->Q (.tup [.dat CZ<|At q,.dat CZ<|At [r]]) ob):∀(i:Nat) (q:List Int) (r:Int),i+q.length=a.length->Av Am q->(0<=r/\r<d)->zf Am (a.drop i)=zf Am q*d+r->
  Ends IY (L1 a [d] a.length r ((i:Int)-1)<|zo i 0++q) Q
 |0,q,r,t,b,e,g=>by
  have l:((zo 0 0++q).take a.length)=q:=by
   rw[List.replicate_zero,List.nil_append];exact zO (by omega)
  refine z7 (Al ..) (Ends.ff (by simp) ?_);rw[l];refine zg (Aa (by simp;omega)<|D4 (by omega) b) (zg (Aa rfl (D4 (by simp)<|fun x c=>by rw[List.mem_singleton]at c;subst c;exact⟨e.1,by show x<18446744073709551616;omega⟩))<|Ends.leaf<|k q r _ b e g)
 |i+1,q,r,t,b,e,g=>by
  have v:(((i+1:Nat):Int)-1)=(i:Int):=by omega
  have j:=AR h i;obtain⟨w,s,p,o,u⟩:=xQ f.1 e<|zW j;have n:a.drop i=a.getD i 0::a.drop (i+1):=by
   rw[zy,zT<|by omega];exact yk (by omega)
  have es:∀x,(zo (i+1) (0:Int)++q).set i x=zo i 0++(x::q):=by
   intro x;rw[ya,zu];exact C9 _ _ _ _ (by simp)
  rw[v];refine z7 (Al ..) (zg (by simp) ?_);rw[zm,es,wr ((i:Int)-1) (by omega)<|by omega];refine zg (by simp;omega) (zg (by simp) (zg ?_ (zg (by simp;omega)<|zg (by simp;omega) ?_)))
  ·exact Aa (Aa (Aa (Cz e.1<|by omega) j)<|Cz (by show 0<=d;omega) f.2)<|w4 e.2
  ·refine An a d h f m k i _ _ (by simp;omega) (fun x c=>?_) ⟨o,u⟩ ?_
   ·rcases List.mem_cons.1 c with rfl|c
    ·exact⟨s,p⟩
    ·exact b x c
   ·rw[n];show a.getD i 0+(18446744073709551616:Int)*zf Am (a.drop<|i+1)=(Sp.dq r (a.getD i 0) d+(18446744073709551616:Int)*zf Am q)*d+Sp.dr r (a.getD i 0) d;rw[g,zK,zr,zp];omega
end T212
end Go.Pe
namespace Go.Sp
theorem Sy{B P u0 u1 u2 a v1 v2 v' q r:Int}(j:0<P)(f:0<=v')(k:a<P)(g:0<=q)(i:q*v1+r=u0*B+u1)(h:r*B+u2<q*v2):
  ((u0*B+u1)*B+u2)*P+a<q*((v1*B+v2)*P+v'):=by
 have e:q*(v1*B+v2)=q*v1*B+q*v2:=by rw[zr,zp]
 have d:(u0*B+u1)*B=q*v1*B+r*B:=by rw[<-i,zK]
 have b:(u0*B+u1)*B+u2+1<=q*(v1*B+v2):=by rw[e,d];omega
 have c:=zl b<|zw j;have l:0<=q*v':=zR g f;rw[zr q, <-zp];rw[zK,zN]at c;omega
theorem Sf{B P u0 u1 u2 c v1 v2 v' q r:Int}(b:0<P)(j:0<=v'/\v'<P)(o:0<=c)(k:0<=q/\q<B)(a:1<=v1)(f:0<=v2)(l:q*v1+r=u0*B+u1)(h:q*v2<=r*B+u2):
  q*((v1*B+v2)*P+v')<((u0*B+u1)*B+u2)*P+c+((v1*B+v2)*P+v'):=by
 have e:q*(v1*B+v2)=q*v1*B+q*v2:=by rw[zr,zp]
 have d:(u0*B+u1)*B=q*v1*B+r*B:=by rw[<-l,zK]
 have g:q*(v1*B+v2)<=(u0*B+u1)*B+u2:=by rw[e,d];omega
 have n:=zl g<|zw b;have m:q*v'<=(B-1)*P:=Int.le_trans (zz (zw j.2) k.1) (zl (by omega)<|zw b);have i:B<=v1*B+v2:=by
  have:=zl a (show 0<=B by omega);omega
 have p:=zl i<|zw b;rw[ym,zN]at m;rw[zr q, <-zp];omega
theorem G2(b:Int):∀(l:List Int) (i:Nat) (x:Int),i<l.length->val b (l.set i x)=val b l+b^i*(x-l.getD i 0)
 |[],i,x,h=>by simp at h
 |d::l,0,x,_=>by
  show x+b*val b l=d+b*val b l+b^0*(x-d);rw[yy,zN];omega
 |d::l,i+1,x,h=>by
  have:=G2 b l i x (by simpa using h);show d+b*val b (l.set i x)=d+b*val b l+b^(i+1)*(x-l.getD i 0);rw[this,zr,zX,zq (b^i) b,zp,z8]
theorem GC{b:Int}{l:List Int}(h:Av b l)(i:Nat){x:Int}(c:0<=x/\x<b):Av b (l.set i x):=by
 intro d a;rcases List.mem_or_eq_of_mem_set a with a|rfl
 ·exact h d a
 ·exact c
theorem EE{b:Int}{l r:List Int}(c:Av b l)(e:Av b r):Av b (l++r):=by
 intro d a;rcases yw.1 a with a|a
 ·exact c d a
 ·exact e d a
theorem Oa{b:Int}(c:0<b){l:List Int}(h:Av b l)(i:Nat):0<=l.getD i 0/\l.getD i 0<b:=by
 rcases Nat.lt_or_ge i l.length with a|a
 ·have:l.getD i 0∈l:=by rw[zy,zT a];exact List.getElem_mem a
  exact h _ this
 ·rw[zy,List.getElem?_eq_none a];exact⟨Int.le_refl _,c⟩
theorem Cm{l:List Int}{i:Nat}(h:i<l.length):l.drop i=l.getD i 0::l.drop (i+1):=by
 rw[zy,zT h];exact yk h
theorem Gn(p r:List Int)(i j:Nat)(h:p.length=j):(p++r).getD (i+j) 0=r.getD i 0:=by
 subst h;rw[zy,zy,List.getElem?_append_right (by omega),zU]
theorem Ry(p r:List Int)(i j:Nat)(x:Int)(h:p.length=j):(p++r).set (i+j) x=p++r.set i x:=by
 subst h;rw[List.set_append_right _ _ (by omega),zU]
theorem gC(b:Int)(r:List Int)(k:Nat)(e:k+3<=r.length)(d:val b (r.drop<|k+3)=0):
  val b r=((r.getD (k+2) 0*b+r.getD (k+1) 0)*b+r.getD k 0)*b^k+val b (r.take k):=by
 have a:b^(k+1)=b^k*b:=zX ..;have c:b^(k+2)=b^k*b*b:=by rw[<-a];exact zX ..
 rw[Ck b r (k+3) e,d,AD,AD,AD,a,c,yt,yh];generalize b^k=P;generalize r.getD (k+2) 0=x;generalize r.getD (k+1) 0=y;generalize r.getD k 0=z;have i:P*b*b*x=x*b*b*P:=by rw[zq (P*b*b) x,zq P b,zp b P b,zq P b, <-zp, <-zp]
 have g:P*b*y=y*b*P:=by rw[zq (P*b) y,zq P b,zp]
 have h:P*z=z*P:=zq _ _;have f:((x*b+y)*b+z)*P=x*b*b*P+y*b*P+z*P:=by rw[zK,zK,zK]
 rw[f];omega
theorem fI(b:Int)(v:List Int)(k:Nat)(e:v.length=k+2):
  val b v=(v.getD (k+1) 0*b+v.getD k 0)*b^k+val b (v.take k):=by
 have h0:val b (v.drop<|k+2)=0:=by rw[List.drop_eq_nil_of_le<|by omega];rfl
 have d:b^(k+1)=b^k*b:=zX ..;rw[Ck b v (k+2) (by omega),h0,AD,AD,d,yt,yh];generalize b^k=P;generalize v.getD (k+1) 0=y;generalize v.getD k 0=z;have a:P*b*y=y*b*P:=by rw[zq (P*b) y,zq P b,zp]
 have c:P*z=z*P:=zq _ _;rw[a,c,zK];omega
theorem cR{b:Int}(i:2<=b){v:List Int}(c:Av b v)(e:nz v){k:Nat}(d:b^k<=val b v)(g:val b v<b^(k+1)):v.length=k+1:=by
 have f:=AN (show 0<b by omega) k;have a:v≠[]:=by rintro rfl;simp[val]at d;omega
 have a1:=Bl (by omega) c;have a2:=C2 (by omega) c e a;rcases Nat.lt_trichotomy v.length (k+1)with h|h|h
 ·have:=AM (show 1<=b by omega) (show v.length<=k by omega);omega
 ·exact h
 ·have:=AM (show 1<=b by omega) (show k+1<=v.length-1 by omega);omega
theorem Iu{b:Int}(f:2<=b){r:List Int}(a:Av b r){n:Nat}(c:n<=r.length)(h:val b r<b^n):val b (r.drop n)=0:=by
 have h0:=Az (show 0<=b by omega)<|Eb a n;have d:=Az (show 0<=b by omega)<|AL a n;rw[Ck b r n c]at h;have e:=AN (show 0<b by omega) n;rcases yz 0 (val b<|r.drop n)with g|g
 ·have:=zz (show 1<=val b (r.drop n)by omega) (show 0<=b^n by omega);omega
 ·omega
theorem PB{b:Int}(d:2<=b){r:List Int}(c:Av b r){n:Nat}(a:n<=r.length)(h:val b (r.drop n)=0):val b r<b^n:=by
 have:=Bl (show 0<b by omega)<|AL c n;rw[zS,yg a]at this;rw[Ck b r n a,h];omega
theorem Zq{b c d x y X:Int}(l:0<c)(g:b=c*d):(x+b*(y+b*X))/c=(x/c+(y % c)*d)+b*((y+b*X)/c):=by
 subst g;have e:(x+c*d*(y+c*d*X))/c=x/c+d*(y+c*d*X):=by
  rw[zp c d,Int.add_mul_ediv_left _ _<|by omega]
 have f:(y+c*d*X)/c=y/c+d*X:=by
  rw[zp c d,Int.add_mul_ediv_left _ _<|by omega]
 have i:=zY y c;rw[e,f];have k:d*(y+c*d*X)=d*(c*(y/c)+y % c+c*d*X):=by rw[i]
 rw[k,zr,zr,zr<|c*d];have a:d*(c*(y/c))=c*d*(y/c):=by rw[<-zp,zq d c]
 have j:d*(y % c)=(y % c)*d:=zq _ _;have h:d*(c*d*X)=c*d*(d*X):=by rw[<-zp,zq d<|c*d,zp]
 rw[a,j,h];omega
theorem Tz{b c d x k:Int}(o:0<c)(f:0<d)(h:b=c*d)(m:0<=k/\k<c)(a:0<=x/\x<b):
  (x*c) % b=(x % d)*c/\(x % d)*c+k<b/\0<=(x % d)*c/\0<=x/d/\x/d<c/\(x % d)*c+b*(x/d)=x*c:=by
 subst h;have i:=zY x d;have g:=yf x (show d≠0 by omega);have n:=yi x f;have q0:0<=x/d:=yv a.1 (by omega);have q1:x/d<c:=zZ f (by have:=a.2;omega);have p0:0<=(x % d)*c:=zR g (by omega);have j:(x % d)*c<=(d-1)*c:=zl (by omega) (by omega);have l:(d-1)*c=c*d-c:=by rw[ym,zN,zq]
 have e:(x % d)*c+c*d*(x/d)=x*c:=by
  conv=>rhs;rw[<-i]
  rw[zK,zp c d,zq c<|d*(x/d)];omega
 refine⟨?_,by omega,p0,q0,q1,e⟩;rw[<-e,Int.add_mul_emod_self_left];exact Int.emod_eq_of_lt p0 (by omega)
theorem LA{B P u0 u1 u2 b v1 v2 v' q r:Int}(c:0<P)(k:0<B)(m:0<=q)(j:0<=v')(a:0<=v2)(o:b<P)(i:u2<B)(n:q*v1+r=u0*B+u1)(h:r<v1):
  ((u0*B+u1)*B+u2)*P+b<(q+1)*((v1*B+v2)*P+v'):=by
 have d:u0*B+u1+1<=(q+1)*v1:=by rw[zK,zN];omega
 have g:=zl d<|zw k;have l:(u0*B+u1)*B+u2+1<=(q+1)*v1*B:=by
  rw[zK,zN]at g;omega
 have f:=zl l<|zw c;rw[zK,zN]at f;have s:0<=(q+1)*(v2*P):=zR (by omega)<|zR a<|zw c;have p:0<=(q+1)*v':=zR (by omega) j;have e:(q+1)*((v1*B+v2)*P+v')=(q+1)*v1*B*P+(q+1)*(v2*P)+(q+1)*v':=by
  rw[zK<|v1*B,zr,zr];congr 2;rw[zp,zp,zp]
 rw[e];omega
end Go.Sp
namespace Go.Pe
open Sp
open Go.Det
theorem R9{q x y c b:Int}(d:zx q=true)(e:zx x=true)(i:zx y=true)(f:zx c=true)(j:0<=b/\b<=1):
  zx (HJ q x)=true/\zx (Hp (HJ q x) c 0)=true/\zc .u64 (PU q x+Ni (HJ q x) c 0)=(q*x+c)/18446744073709551616/\zx ((q*x+c)/18446744073709551616)=true/\
  zx (RO y (Hp (HJ q x) c 0) b)=true/\(0<=O6 y (Hp (HJ q x) c 0) b/\O6 y (Hp (HJ q x) c 0) b<=1)/\
  c+b+(RO y (Hp (HJ q x) c 0) b-y)=18446744073709551616*((q*x+c)/18446744073709551616+O6 y (Hp (HJ q x) c 0) b)-q*x:=by
 have d:=zW d;have e:=zW e;have f:=zW f;have h0:0<=q*x:=zR d.1 e.1;have k:q*x<=18446744073709551615*18446744073709551615:=by
  have a:=zz (show x<=18446744073709551615 by omega) d.1;have b:=zl (show q<=18446744073709551615 by omega) (show(0:Int)<=18446744073709551615 by omega);omega
 have g:zx (Hp (HJ q x) c 0)=true:=by unfold Hp;exact Cz (by omega) (by omega)
 obtain⟨s1,s2,s3⟩:=Sp.Gu i g j;refine⟨?_,g,?_,?_,s1,s2,?_⟩
 ·unfold HJ;exact Cz (by omega) (by omega)
 ·unfold HJ PU Ni;rw[JT];generalize q*x=P at*;omega
 ·generalize q*x=P at*;exact Cz (by omega) (by omega)
 ·generalize O6 y (Hp (HJ q x) c 0) b=h at*;generalize RO y (Hp (HJ q x) c 0) b=l at*;unfold Hp HJ at s3;generalize q*x=P at*;omega
namespace T212
variable {Q:PV->Ob->Prop}
theorem gw{lo r:List Int}{j:Nat}(h:lo.length=j)(i:Nat):(lo++r).getD (zk i j) 0=r.getD i 0:=Gn lo r i j h
theorem sw{lo r:List Int}{j:Nat}(h:lo.length=j)(i:Nat)(x:Int):(lo++r).set (zk i j) x=lo++r.set i x:=Ry lo r i j x h
theorem lw{lo r:List Int}{j i:Nat}(h:lo.length=j)(a:i<r.length):decide (zk i j<(lo++r).length)=true:=by
 refine w4 ?_;show i+j<_;rw[List.length_append];omega
theorem Ih(r:List Int)(i n:Nat)(x:Int)(h:i<n):(r.set i x).drop n=r.drop n:=by
 rw[List.drop_set,wd h]
theorem Cc(v9:Int)(o:List Int)(f:Nat)(l:Int)(a:Nat)(o1 K:List Int)(s:Nat)(v:List Int)(n j:Nat)(lo:List Int)(m:Nat)(q W:Int)(h:List Int)
  (hn:v.length=n) (E:n<=9000) (Z:n+1<=m) (d:lo.length=j) (F:j<a) (y:j<h.length) (P:Av Am v) (G:zx q=true)
  (h0:∀r:List Int,r.length=m->Av Am r->zf Am (r.drop<|n+1)=0->zf Am r=W-q*zf Am v->Ends IY (L4 v9 o f l a (zc .i64<|(j:Int)-1) (h.set j q)<|lo++r) Q)
  (M:∀r:List Int,r.length=m->Av Am r->zf Am (r.drop<|n+1)=0->zf Am r=W-q*zf Am v+(Am:Int)^(n+1)->Ends IY (L8 v9 o f l a j o1 K j (n+1) s v n q 0 n 0 h<|lo++r) Q):
  ∀(k i:Nat) (r:List Int) (b c:Int),i+k=n->r.length=m->Av Am r->zf Am (r.drop<|n+1)=0->zx c=true->(0<=b/\b<=1)->zf Am r=W-q*zf Am (v.take i)+(Am:Int)^i*(c+b)->
   Ends IY (L7 v9 o f l a j o1 K j (n+1) s v n q b c n i h<|lo++r) Q
 |0,i,r,b,c,L,J,w,D,B,p,H=>by
  have L:i=n:=by omega
  subst L;have z:=AR w i;obtain⟨s1,s2,s3⟩:=Sp.Gu z B p;have g:decide (zk i j<(lo++r).length)=true:=lw d (by omega);have u:(decide ((0:Int)<=(i:Int))&&decide ((i:Int)<((i+1:Nat):Int)))=true:=by simp;omega
  have I:v.take i=v:=zO (by omega);have A:∀x:Int,0<=x/\x<18446744073709551616->(r.set i x).length=m/\Av Am (r.set i x)/\zf Am ((r.set i x).drop<|i+1)=0:=fun x S=>
   ⟨by simp[J],GC w i S,by rw[Ih _ _ _ _<|by omega];exact D⟩
  obtain⟨O,C,N⟩:=A _<|zW s1;have ev:zf Am (r.set i<|RO (r.getD i 0) c b)=W-q*zf Am v+(Am:Int)^(i+1)*O6 (r.getD i 0) c b:=by
   rw[G2 _ _ _ _ (by omega),H,I,JI,z8, <-zr];congr 2;omega
  refine z7 (Dm ..) (Ends.ff (by simp) ?_);rw[zm,zm,gw d,sw d];refine zg u<|zg g<|zg (Aa (Aa (Aa z B)<|w4 p.1)<|w4 p.2)<|zg u<|zg g<|yq (fun t=>?_)<|fun t=>?_
  ·have t:O6 (r.getD i 0) c b=0:=by simpa using t
   refine zg (by simp;omega)<|zg (w4 y)<|h0 _ O C N ?_;rw[ev,t,yt,yh]
  ·have t:O6 (r.getD i 0) c b≠0:=by simpa using t
   refine M _ O C N ?_;rw[ev,show O6 (r.getD i 0) c b=1 by omega,Int.mul_one]
 |k+1,i,r,b,c,L,J,w,D,B,p,H=>by
  have R:=AR P i;have z:=AR w i;obtain⟨m1,U,T,V,m5,X,Y⟩:=R9 G R z B p;have g:decide (zk i j<(lo++r).length)=true:=lw d (by omega);have u:(decide ((0:Int)<=(i:Int))&&decide ((i:Int)<((n+1:Nat):Int)))=true:=by simp;omega
  have C:zc .i64 ((i:Int)+1)=((i+1:Nat):Int):=by rw[wr _ (by omega)<|by omega];omega
  refine z7 (Dm ..) (zg (by simp;omega) ?_);rw[zm,gw d,sw d,T,C];refine zg (by simp;omega)<|zg (Aa G R)<|zg (Aa (Aa (Aa m1 B) rfl) rfl)<|zg u<|zg g<|zg (Aa (Aa (Aa z U)<|w4 p.1)<|w4 p.2)<|zg u<|zg g ?_;refine Cc v9 o f l a o1 K s v n j lo m q W h hn E Z d F y P G h0 M k (i+1) _ _ _ (by omega) (by simp[J]) (GC w i<|zW m5) (by rw[Ih _ _ _ _<|by omega];exact D) V X ?_;rw[G2 _ _ _ _ (by omega),H,JI,AD,zr q,yn q];have e:(Am:Int)^i*(c+b)+(Am:Int)^i*(RO (r.getD i 0) (Hp (HJ q<|v.getD i 0) c 0) b-r.getD i 0)=(Am:Int)^i*(18446744073709551616*((q*v.getD i 0+c)/18446744073709551616+O6 (r.getD i 0) (Hp (HJ q<|v.getD i 0) c 0) b))-(Am:Int)^i*(q*v.getD i 0):=by
   rw[<-zr, <-yo,Y]
  omega
theorem GP(v9:Int)(p:List Int)(f:Nat)(o:Int)(d:Nat)(o1 L:List Int)(u:Nat)(v:List Int)(n j:Nat)(lo:List Int)(m:Nat)(q W:Int)(l:List Int)
  (M:v.length=n) (A:n<=9000) (P:n+1<=m) (a:lo.length=j) (B:j<d) (t:j<l.length) (K:Av Am v)
  (hW:0<=W+zf Am v)
  (h0:∀r:List Int,r.length=m->Av Am r->zf Am (r.drop<|n+1)=0->zf Am r=W+zf Am v->Ends IY (L4 v9 p f o d (zc .i64<|(j:Int)-1) (l.set j<|zc .u64<|q-1)<|lo++r) Q):
  ∀(k i:Nat) (r:List Int) (c:Int),i+k=n->r.length=m->Av Am r->zf Am (r.drop<|n+1)=0->(0<=c/\c<=1)->zf Am r=W+(Am:Int)^(n+1)+zf Am (v.take i)-(Am:Int)^i*c->
   Ends IY (L8 v9 p f o d j o1 L j (n+1) u v n q c n i l<|lo++r) Q
 |0,i,r,c,G,F,s,z,y,C=>by
  have G:i=n:=by omega
  subst G;have D:=zW<|AR s i;have h:decide (zk i j<(lo++r).length)=true:=lw a (by omega);have w:(decide ((0:Int)<=(i:Int))&&decide ((i:Int)<((i+1:Nat):Int)))=true:=by simp;omega
  have E:v.take i=v:=zO (by omega);have R:0<=(r.getD i 0+c) % 18446744073709551616/\(r.getD i 0+c) % 18446744073709551616<18446744073709551616:=by omega
  have O:(r.set i<|(r.getD i 0+c) % 18446744073709551616).length=m:=by simp[F]
  have x:Av Am (r.set i<|(r.getD i 0+c) % 18446744073709551616):=GC s i R;have H:zf Am ((r.set i<|(r.getD i 0+c) % 18446744073709551616).drop<|i+1)=0:=by rw[Ih _ _ _ _<|by omega];exact z
  have J:=PB (b:=Am) (by decide) x (n:=i+1) (by omega) H;refine z7 (Jb ..) (Ends.ff (by simp) ?_);rw[zm,zm,gw a,sw a,JT<|r.getD i 0+c];refine zg w (zg h<|zg w<|zg h<|zg (by simp;omega)<|zg (w4 t)<|h0 _ O x H ?_);have U:=AN (b:=Am) (by decide) i;rw[G2 _ _ _ _ (by omega),C,E]at J ⊢;rcases show(r.getD i 0+c) % 18446744073709551616=r.getD i 0+c\/(r.getD i 0+c) % 18446744073709551616=r.getD i 0+c-18446744073709551616 by omega with g|g
  ·exfalso;rw[g,show r.getD i 0+c-r.getD i 0=c by omega]at J;omega
  ·have T:(Am:Int)^(i+1)=(Am:Int)^i*18446744073709551616:=zX ..;rw[g,show r.getD i 0+c-18446744073709551616-r.getD i 0=c-18446744073709551616 by omega,yo,T];omega
 |k+1,i,r,c,G,F,s,z,y,C=>by
  have I:=AR K i;have D:=AR s i;obtain⟨S,N,V⟩:=JO D I y;have h:decide (zk i j<(lo++r).length)=true:=lw a (by omega);have w:(decide ((0:Int)<=(i:Int))&&decide ((i:Int)<((n+1:Nat):Int)))=true:=by simp;omega
  have x:zc .i64 ((i:Int)+1)=((i+1:Nat):Int):=by rw[wr _ (by omega)<|by omega];omega
  refine z7 (Jb ..) (zg (by simp;omega) ?_);rw[zm,gw a,sw a,x];refine zg w (zg h<|zg (by simp;omega)<|zg (Aa (Aa (Aa D I)<|w4 y.1)<|w4 y.2)<|zg w<|zg h ?_);refine GP v9 p f o d o1 L u v n j lo m q W l M A P a B t K hW h0 k (i+1) _ _ (by omega) (by simp[F]) (GC s i<|zW S) (by rw[Ih _ _ _ _<|by omega];exact z) N ?_;rw[G2 _ _ _ _ (by omega),C,JI,AD];have e:(Am:Int)^i*(Hp (r.getD i 0) (v.getD i 0) c-r.getD i 0)-(Am:Int)^i*c=(Am:Int)^i*v.getD i 0-(Am:Int)^i*(18446744073709551616*Ni (r.getD i 0) (v.getD i 0) c):=by
   rw[<-yo, <-yo];congr 1;omega
  omega
theorem kN(v9:Int)(l:List Int)(f:Nat)(k:Int)(e:Nat)(o1 y:List Int)(p:Nat)(v:List Int)(n j:Nat)(lo:List Int)(m:Nat)(i h:List Int)
  (C:v.length=n) (s:n<=9000) (A:n+1<=m) (w:lo.length=j) (t:j<e) (u:j<h.length) (x:Av Am v)
  (M:i.length=m) (z:Av Am i) (E:zf Am (i.drop<|n+1)=0)
  (o:∀(q:Int) (r:List Int),r.length=m->Av Am r->(0<=q/\q<18446744073709551616)->zf Am r<zf Am v->zf Am r=zf Am i-q*zf Am v->Ends IY (L4 v9 l f k e (zc .i64<|(j:Int)-1) (h.set j q)<|lo++r) Q)
  (q:Int) (B:zx q=true) (D:zf Am i<(q+1)*zf Am v) (O:q*zf Am v<zf Am i+zf Am v):
  Ends IY (L7 v9 l f k e j o1 y j (n+1) p v n q 0 0 n 0 h<|lo++i) Q:=by
 have L:=zW B;have H:=Az (b:=Am) (by decide) z;have F:=Az (b:=Am) (by decide) x;rw[zK,zN]at D;refine Cc v9 l f k e o1 y p v n j lo m q (zf Am i) h C s A w t u x B (fun r a b c d=>o q r a b L (by omega) d) (fun r a b c d=>?_) n 0 i 0 0 (by omega) M z E (by decide) (by decide) (by simp[zf]);have R:=PB (b:=Am) (by decide) b (n:=n+1) (by omega) c;have N:1<=q:=by
  rcases yz 0 q with g|g
  ·exact g
  ·have:q=0:=by omega
   subst this;rw[y7]at d;omega
 have J:zc .u64 (q-1)=q-1:=wu _ (by omega) (by omega);refine GP v9 l f k e o1 y p v n j lo m q (zf Am i-q*zf Am v) h C s A w t u x (by omega) (fun K G b' P I=>?_) n 0 r 0 (by omega) a b c (by decide) (by rw[d];simp[zf]);rw[J];refine o (q-1) K G b' (by omega) (by omega) ?_;rw[I,ym,zN];omega
theorem vY(q x:Int):PU q x*18446744073709551616+HJ q x=q*x/\0<=HJ q x/\HJ q x<18446744073709551616:=by
 unfold PU HJ;generalize q*x=P;omega
theorem Co(v9:Int)(p:List Int)(h:Nat)(n:Int)(d:Nat)(o1 L:List Int)(s:Nat)(v:List Int)(k j:Nat)(lo:List Int)(m:Nat)(e i:List Int)
  (R:v.length=k+2) (D:k+2<=9000) (Z:k+3<=m) (t:lo.length=j) (E:j<d) (F:j<i.length) (A:Av Am v)
  (hr:e.length=m) (C:Av Am e) (O:zf Am (e.drop<|k+3)=0) (K:1<=v.getD (k+1) 0)
  (x:∀(q:Int) (r:List Int),r.length=m->Av Am r->(0<=q/\q<18446744073709551616)->zf Am r<zf Am v->zf Am r=zf Am e-q*zf Am v->Ends IY (L4 v9 p h n d (zc .i64<|(j:Int)-1) (i.set j q)<|lo++r) Q):
  ∀(f:Nat) (q r o:Int),0<=q->q<f->q<18446744073709551616->zx r=true->(o=0\/o=1)->q*v.getD (k+1) 0+(r+18446744073709551616*o)=e.getD (k+2) 0*18446744073709551616+e.getD (k+1) 0->zf Am e<(q+1)*zf Am v->
   Ends IY (L5 v9 p h n d j o1 L j (k+3) s v ((k+2:Nat):Int) q r o i<|lo++e) Q
 |0,q,r,o,h0,hf,_,_,_,_,_=>by omega
 |f+1,q,r,o,h0,hf,X,l,ho,he,T=>by
  have Y:zx q=true:=Cz h0 X;have H:=AR A k;have u:=AR A<|k+1;have V:=AR C k;have P:=zW H;have gv1:=zW u;have gu2:=zW V;have gr:=zW l;have hP:=AN (b:=Am) (by decide) k;have hW:=gC Am e k (by omega) O;have hV:=fI Am v k R;have W:=Az (b:=Am) (by decide)<|AL C k;have y:=Bl (b:=Am) (by decide)<|AL C k;have G:=Az (b:=Am) (by decide)<|AL A k;have w:=Bl (b:=Am) (by decide)<|AL A k;rw[zS,yg<|by omega]at y w;have exit:q*v.getD k 0<=(r+18446744073709551616*o)*18446744073709551616+e.getD k 0->Ends IY (L7 v9 p h n d j o1 L j (k+3) s v ((k+2:Nat):Int) q 0 0 ((k+2:Nat):Int) 0 i<|lo++e) Q:=by
   intro N;refine kN v9 p h n d o1 L s v (k+2) j lo m e i R D Z t E F A hr C O x q Y T ?_;rw[hW,hV];exact Sf hP ⟨G,w⟩ W ⟨h0,X⟩ K P.1 he N
  have e1:zc .i64 (((k+2:Nat):Int)-2)=(k:Int):=by rw[wr _ (by omega)<|by omega];omega
  have e2:zc .i64 (((k+2:Nat):Int)-1)=((k+1:Nat):Int):=by rw[wr _ (by omega)<|by omega];omega
  obtain⟨w1,w2,w3⟩:=vY q<|v.getD k 0;have S:decide (zk k j<(lo++e).length)=true:=lw t (by omega);refine z7 (DU ..)<|yq (fun c=>?_)<|fun c=>?_
  ·have c:o=0:=by simpa using c
   subst c;rw[e1,e2,zm,zm,gw t];refine zg (by simp;omega)<|zg (Aa Y H) ?_;have I:r*18446744073709551616+e.getD k 0<q*v.getD k 0->Ends IY (L5 v9 p h n d j o1 L j (k+3) s v ((k+2:Nat):Int) (zc .u64<|q-1) (Hp r (v.getD (k+1) 0) 0) (Ni r (v.getD (k+1) 0) 0) i<|lo++e) Q:=by
    intro N;obtain⟨a1,a2,a3⟩:=JO l u (c:=0) (by decide);have hq1:1<=q:=by
     rcases yz 0 q with g|g
     ·exact g
     ·have:q=0:=by omega
      subst this;rw[y7]at N;omega
    rw[wu (q-1) (by omega)<|by omega];refine Co v9 p h n d o1 L s v k j lo m e i R D Z t E F A hr C O K x f (q-1) _ _ (by omega) (by omega) (by omega) a1 (by omega) ?_ ?_
    ·rw[ym,zN,a3];omega
    ·have U:q*v.getD (k+1) 0+r=e.getD (k+2) 0*18446744073709551616+e.getD (k+1) 0:=by omega
     have:=Sy (B:=Am) (u0:=e.getD (k+2) 0) (u1:=e.getD (k+1) 0) (u2:=e.getD k 0) hP G y h0 (v1:=v.getD (k+1) 0) (v2:=v.getD k 0) (r:=r) U N;rw[<-hW, <-hV]at this;rw[show q-1+1=q by omega];exact this
   refine yq (fun M=>exit ?_) (fun M=>yq (fun z=>zg (by simp;omega)<|zg S<|yq (fun J=>exit ?_)<|fun J=>zg (by simp;omega)<|zg (Aa (Aa (Aa l u) rfl) rfl)<|I ?_) (fun z=>zg (by simp;omega)<|zg (Aa (Aa (Aa l u) rfl) rfl)<|I ?_))
   ·have M:=w6 M;omega
   ·have z:PU q (v.getD k 0)=r:=by simpa using z
    have J:=w6 J;omega
   ·have z:PU q (v.getD k 0)=r:=by simpa using z
    have J:=w7 J;omega
   ·have M:=w7 M;have z:PU q (v.getD k 0)≠r:=by simpa using z
    omega
  ·have c:o≠0:=by simpa using c
   refine exit ?_;have a:=zz (show v.getD k 0<=18446744073709551615 by omega) h0;omega
theorem BP(s:Int)(v:List Int)(k e:Nat)(E:v.length=k+2)(hla:e<=9000)(Y:k+2<=e)(p:Av Am v)(A:1<=v.getD (k+1) 0)(W:Int)
  (hq:∀u f:List Int,u.length=e+1->Av Am u->Av Am f->zf Am u<zf Am v->f.length=e-(k+2)+1->W=zf Am u+zf Am v*zf Am f->Ends IY (L6 s (e+1) ((k+2:Nat):Int) (e-(k+2)+1) ((k+2:Nat):Int) 0 f u) Q):
  ∀(t:Nat) (u f:List Int),t+f.length=e-(k+2)+1->u.length=e+1->Av Am u->Av Am f->zf Am (u.drop t)<zf Am v->W=zf Am u+zf Am v*((Am:Int)^t*zf Am f)->
   Ends IY (L4 s v (e+1) ((k+2:Nat):Int) (e-(k+2)+1) ((t:Int)-1) (zo t 0++f) u) Q
 |0,u,f,hl,hu,N,C,B,T=>by
  refine z7 (Cf ..) (Ends.ff (by simp) ?_);exact hq u f hu N C B (by omega) (by rw[T,yy,zN])
 |j+1,u,f,hl,hu,N,C,B,T=>by
  obtain⟨lo,r,rfl,g⟩:∃lo r:List Int,u=lo++r/\lo.length=j:=⟨u.take j,u.drop j,(List.take_append_drop j u).symm,by rw[zS];omega⟩;have J:Av Am lo:=fun d h=>N d<|yw.2<|.inl h
  have a:Av Am r:=fun d h=>N d<|yw.2<|.inr h
  have F:r.length=e+1-j:=by rw[List.length_append]at hu;omega
  have m:∀z:List Int,(lo++z).drop j=z:=fun z=>by rw[<-g];exact List.drop_left
  have X:r=r.getD 0 0::r.drop 1:=by
   have:=Cm (l:=r) (i:=0) (by omega);rw[List.drop_zero]at this;exact this
  have hd1:(lo++r).drop (j+1)=r.drop 1:=by rw[Nat.add_comm j 1,Nat.add_comm 1 j, <-List.drop_drop,m]
  rw[hd1]at B;have g0:=Oa (b:=Am) (by decide) a 0;have V:zf Am r=r.getD 0 0+18446744073709551616*zf Am (r.drop 1):=by
   conv=>lhs;rw[X]
   rfl
  have M:=Bl (b:=Am) (by decide) p;rw[E]at M;have g0:0<=r.getD 0 0/\r.getD 0 0<18446744073709551616:=g0;have Z:zf Am r<18446744073709551616*zf Am v:=by rw[V];omega
  have O:zf Am (r.drop<|k+3)=0:=by
   refine Iu (b:=Am) (by decide) a (by omega) ?_;have ep:(Am:Int)^(k+3)=(Am:Int)^(k+2)*18446744073709551616:=zX ..;rw[ep];omega
  have H:=AR a<|k+2;have n:=AR a<|k+1;have uu2:=AR a k;have o:=AR p<|k+1;have gu0:=zW H;have R:=zW n;have gu2:=zW uu2;have gv1:=zW o;have U:=zW<|AR p k;have hP:=AN (b:=Am) (by decide) k;have hW:=gC Am r k (by omega) O;have hV:=fI Am v k E;have hu':=Az (b:=Am) (by decide)<|AL a k;have w:=Bl (b:=Am) (by decide)<|AL a k;have S:=Az (b:=Am) (by decide)<|AL p k;rw[zS,yg<|by omega]at w;have hle:r.getD (k+2) 0<=v.getD (k+1) 0:=by
   have a1:=Ck Am (r.drop 1) (k+1) (by rw[List.length_drop];omega);have a2:(r.drop 1).drop (k+1)=r.getD (k+2) 0::r.drop (k+3):=by
    rw[List.drop_drop,show 1+(k+1)=k+2 by omega];exact Cm (by omega)
   have a3:zf Am (r.getD (k+2) 0::r.drop (k+3))=r.getD (k+2) 0:=by
    show r.getD (k+2) 0+(Am:Int)*zf Am (r.drop<|k+3)=_;rw[O];omega
   rw[a2,a3]at a1;have P:zf Am v=zf Am (v.take<|k+1)+(Am:Int)^(k+1)*v.getD (k+1) 0:=by
    rw[<-AD,zO<|by omega]
   have L:=Bl (b:=Am) (by decide)<|AL p<|k+1;rw[zS,yg<|by omega]at L;have c1:=Az (b:=Am) (by decide)<|AL (Eb a 1)<|k+1;have c2:(Am:Int)^(k+1)*r.getD (k+2) 0<(Am:Int)^(k+1)*(v.getD (k+1) 0+1):=by
    rw[zr,Int.mul_one];omega
   have:=Int.lt_of_mul_lt_mul_left c2 (zw<|AN (by decide)<|k+1);omega
  have y:∀(q:Int) (D:List Int),D.length=e+1-j->Av Am D->(0<=q/\q<18446744073709551616)->zf Am D<zf Am v->zf Am D=zf Am r-q*zf Am v->Ends IY (L4 s v (e+1) ((k+2:Nat):Int) (e-(k+2)+1) (zc .i64<|(j:Int)-1) ((zo (j+1) 0++f).set j q)<|lo++D) Q:=by
   intro q D h1 h2 h3 h4 h5;have es:(zo (j+1) (0:Int)++f).set j q=zo j 0++(q::f):=by
    rw[ya,zu];exact C9 _ _ _ _ (by simp)
   rw[es,wr ((j:Int)-1) (by omega)<|by omega];refine BP s v k e E hla Y p A W hq j (lo++D) (q::f) (by simp;omega) (by simp;omega) (EE J h2) (fun d h=>?_) (by rw[m];exact h4) ?_
   ·rcases List.mem_cons.1 h with rfl|h
    ·exact h3
    ·exact C d h
   ·rw[T,CH,CH,g,h5,JI];show zf Am lo+(Am:Int)^j*zf Am r+zf Am v*((Am:Int)^j*(18446744073709551616*zf Am f))=zf Am lo+(Am:Int)^j*(zf Am r-q*zf Am v)+zf Am v*((Am:Int)^j*(q+18446744073709551616*zf Am f));have x1:zf Am v*((Am:Int)^j*q)=(Am:Int)^j*(q*zf Am v):=by
     rw[yn,zq (zf Am v) q]
    rw[yo,zr ((Am:Int)^j) q,zr<|zf Am v,x1];omega
  have ez:zk 0 j=j:=Nat.zero_add j;have e0:(((j+1:Nat):Int)-1)=(j:Int):=by omega
  have e1:zc .i64 (zc .i64 ((j:Int)+((k+2:Nat):Int))+1)=((j+(k+3):Nat):Int):=by
   rw[wr ((j:Int)+((k+2:Nat):Int)) (by omega) (by omega),wr _ (by omega)<|by omega];omega
  have e2:zc .i64 (((k+2:Nat):Int)-1)=((k+1:Nat):Int):=by rw[wr _ (by omega)<|by omega];omega
  have e3:zM (j+(k+3)) j=k+3:=by show j+(k+3)-j=_;omega
  have K:decide (zk (k+2) j<(lo++r).length)=true:=lw g (by omega);have I:decide (zk (k+1) j<(lo++r).length)=true:=lw g (by omega);rw[e0];refine z7 (Cf ..) (zg (by simp) ?_);rw[E,e1,e2,zm,zm,zm,zm,ez,e3,gw g,gw g];have P:(decide ((0:Int)<=((k+2:Nat):Int))&&decide (((k+2:Nat):Int)<((k+3:Nat):Int)))=true:=by simp;omega
  have L:(decide ((0:Int)<=((k+1:Nat):Int))&&decide (((k+1:Nat):Int)<((k+2:Nat):Int)))=true:=by simp;omega
  have b3:(decide ((0:Int)<=((k+1:Nat):Int))&&decide (((k+1:Nat):Int)<((k+3:Nat):Int)))=true:=by simp;omega
  have G:j<(zo (j+1) (0:Int)++f).length:=by simp;omega
  refine zg (by simp;omega)<|zg P<|zg K<|zg L<|yq (fun c=>?_)<|fun c=>?_
  ·have c:=w6 c;obtain⟨a1,a2,a3⟩:=JO n o (c:=0) (by decide);refine zg b3<|zg I<|zg L<|zg (Aa (Aa (Aa n o) rfl) rfl) ?_;refine Co s v (e+1) _ _ _ _ _ v k j lo (e+1-j) r _ E (by omega) (by omega) g (by omega) G p F a O A y 18446744073709551616 _ _ _ (by decide) (by decide) (by decide) a1 (by omega) ?_ ?_
   ·rw[a3];omega
   ·exact Z
  ·have c:=w7 c;obtain⟨d1,d2,d3,d4,d5⟩:=xQ (r:=r.getD (k+2) 0) (x:=r.getD (k+1) 0) (d:=v.getD (k+1) 0) (by omega) (by omega) R;refine zg P (zg K<|zg b3<|zg I<|zg L<|zg (Aa (Aa (Aa H n) o)<|w4<|by omega) ?_);refine Co s v (e+1) _ _ _ _ _ v k j lo (e+1-j) r _ E (by omega) (by omega) g (by omega) G p F a O A y 18446744073709551616 _ _ _ d2 d3 d3 (Cz d4<|by omega) (.inl rfl) ?_ ?_
   ·rw[<-d1];omega
   ·rw[hW,hV];exact LA hP (by decide) d2 S U.1 w gu2.2 d1 d5
end T212
theorem SG{a b:Int}{s:Nat}(d:0<=a)(c:0<=b)(h:b<2^s)(e:a*2^s+b<18446744073709551616):Yj .u64 b (a*2^s)=a*2^s+b:=by
 have:=VB d c h e;rw[<-this];show zc .u64 (((yu 64 b|||yu 64 (a*2^s)).toNat:Nat):Int)=zc .u64 (((yu 64 (a*2^s)|||yu 64 b).toNat:Nat):Int);rw[BitVec.or_comm]
theorem Vm{s:Nat}(a:s<=63):(18446744073709551616:Int)=2^s*2^(64-s):=by rw[<-Int.pow_add,show s+(64-s)=64 by omega];rfl
namespace T212
variable {Q:PV->Ob->Prop}
theorem Iw(s:Nat)(R:s<=63)(a n m:Nat)(Y:n<=a)(J:a<=9000)(u j:List Int)(hu:u.length=a+1)(E:Av Am u)(O:zf Am (u.drop n)=0)(hm:j.length=m)(I:m<=9000)(t:Av Am j)
  (T:∀(w:List Int) ob,Av Am w->zf Am w=zf Am u/2^s->Q (.tup [.dat CZ<|At j,.dat CZ<|At w]) ob):
  ∀(k i:Nat) (p:List Int),i+k=n->p.length=i->Av Am p->zf Am p+(Am:Int)^i*(zf Am (u.drop i)/2^s)=zf Am u/2^s->
   Ends IY (L6 s (a+1) n m n i j<|p++u.drop i) Q
 |0,i,p,M,e,g,C=>by
  have M:i=n:=by omega
  subst M;have Z:(p++u.drop i).take i=p:=by rw[<-e];exact List.take_left
  have H:j.take m=j:=zO (by omega);rw[O,Int.zero_ediv,yt,yh]at C;refine z7 (Fj ..) (Ends.ff (by simp) ?_);rw[zm,Z,H];refine zg (by simp;omega) (zg (Aa (by simp;omega)<|D4 (by omega) t)<|zg (Aa (by simp;omega)<|D4 (by omega) g)<|Ends.leaf<|T p _ g C)
 |k+1,i,p,M,e,g,C=>by
  have G:=Cm (l:=u) (i:=i) (by omega);have U:=Cm (l:=u) (i:=i+1) (by omega);have S:=zW<|AR E i;have gy:=zW<|AR E<|i+1;have g1:(p++u.drop i).getD i 0=u.getD i 0:=by rw[G];exact Dn _ _ _ _ e
  have s1:∀z,(p++u.drop i).set i z=p++z::u.drop (i+1):=fun z=>by rw[G];exact C9 _ _ _ _ e
  have s2:∀z x,(p++z::u.drop (i+1)).set i x=(p++[x])++u.drop (i+1):=fun z x=>by rw[C9 _ _ _ _ e,zu];rfl
  have g2:∀z,(p++z::u.drop (i+1)).getD i 0=z:=fun z=>Dn _ _ _ _ e
  have g3:∀z,(p++z::u.drop (i+1)).getD (i+1) 0=u.getD (i+1) 0:=fun z=>by
   rw[U,show p++z::u.getD (i+1) 0::u.drop (i+1+1)=(p++[z])++u.getD (i+1) 0::u.drop (i+1+1)by rw[zu];rfl];exact Dn _ _ _ _ (by simp[e])
  have r:∀z,(p++z::u.drop (i+1)).length=a+1:=fun z=>by simp;omega
  have o:(p++u.drop i).length=a+1:=by simp;omega
  have W:zc .i64 ((i:Int)+1)=((i+1:Nat):Int):=by rw[wr _ (by omega)<|by omega];omega
  have V:zc .i64 ((64:Int)-(s:Int))=((64-s:Nat):Int):=by rw[wr _ (by omega)<|by omega];omega
  have em:yr s 64=s:=by omega
  have N:yr (64-s) 64=64-s:=by omega
  have B:=Vm R;have q:(0:Int)<2^s:=ye (by decide);have f:(0:Int)<2^(64-s):=ye (by decide);have L:yp (u.getD i 0) ((2:Int)^s)=u.getD i 0/2^s:=yj _<|zw q;have a0:0<=u.getD i 0/2^s:=yv S.1<|zw q;have a1:u.getD i 0/2^s<2^(64-s):=zZ q (by rw[zq, <-B];exact S.2);have P:=yf (u.getD (i+1) 0) (show(2:Int)^s≠0 by omega);have m1:=yi (u.getD (i+1) 0) q;have p0:0<=(u.getD (i+1) 0 % 2^s)*2^(64-s):=zR P<|zw f;have p1:(u.getD (i+1) 0 % 2^s)*2^(64-s)<=18446744073709551616-2^(64-s):=by
   have:=zl (show u.getD (i+1) 0 % 2^s<=2^s-1 by omega)<|zw f;rw[ym,zN, <-B]at this;exact this
  have h:0<=u.getD i 0/2^s+(u.getD (i+1) 0 % 2^s)*2^(64-s)/\u.getD i 0/2^s+(u.getD (i+1) 0 % 2^s)*2^(64-s)<18446744073709551616:=by omega
  have K:zc .u64 (u.getD (i+1) 0*2^(64-s))=(u.getD (i+1) 0 % 2^s)*2^(64-s):=by
   rw[JT];exact(Tz (b:=18446744073709551616) (c:=2^(64-s)) (d:=2^s) (k:=0) f q (by rw[B,zq]) ⟨Int.le_refl _,f⟩ gy).1
  have F:Yj .u64 (u.getD i 0/2^s) ((u.getD (i+1) 0 % 2^s)*2^(64-s))=u.getD i 0/2^s+(u.getD (i+1) 0 % 2^s)*2^(64-s):=by
   rw[SG P a0 a1 (by omega),Int.add_comm]
  have next:∀z,z=u.getD i 0/2^s+(u.getD (i+1) 0 % 2^s)*2^(64-s)->Ends IY (L6 s (a+1) n m n ((i+1:Nat):Int) j<|(p++[z])++u.drop (i+1)) Q:=by
   intro z v;refine Iw s R a n m Y J u j hu E O hm I t T k (i+1) (p++[z]) (by omega) (by simp[e]) (DG g<|by rw[v];exact Cz h.1 h.2) ?_;rw[<-C,ED,e,JI,z8, <-zr];congr 2;have:=Zq (b:=18446744073709551616) (c:=2^s) (d:=2^(64-s)) (x:=u.getD i 0) (y:=u.getD (i+1) 0) (X:=zf Am<|u.drop<|i+1+1) q B;rw[v,G,U];exact this.symm
  have A:(decide ((0:Int)<=(i:Int))&&decide ((i:Int)<((a+1:Nat):Int)))=true:=by simp;omega
  have b2:(decide ((0:Int)<=((i+1:Nat):Int))&&decide (((i+1:Nat):Int)<((a+1:Nat):Int)))=true:=by simp;omega
  refine z7 (Fj ..) (zg (by simp;omega) ?_);rw[W,V,zm,zm,zm,zm,em,N,g1,L,s1,g2,g3,s2,K,F,r,o];refine zg A (zg (w4<|by omega)<|zg (by simp)<|zg A<|zg (w4<|by omega)<|yq (fun c=>zg (by simp;omega)<|zg A<|zg (w4<|by omega)<|zg b2<|zg (w4<|by omega)<|zg (by simp)<|zg A<|zg (w4<|by omega)<|next _ rfl)<|fun c=>?_);have c:=w7 c;have D:s=0:=by omega
  subst D;rw[show ∀z:Int,p++z::u.drop (i+1)=(p++[z])++u.drop (i+1)from fun z=>by rw[zu];rfl];refine next _ ?_;rw[yy,Int.emod_one,y7,yh]
theorem Qh{X:AW}{F:Int->List Int->Tr}(w:List Int)(s:Nat)(n:s<=63)(A:Av Am w)
  (Dh:∀(i:Nat) (o:List Int),i<w.length->o.length=w.length+1->Ends X (F ((i+1:Nat):Int)<|if 0<s then(o.set i<|Yj .u64 (o.getD i 0)<|zc .u64<|w.getD i 0*2^s).set (i+1) (yp (w.getD i 0)<|2^(64-s))else o.set i<|Yj .u64 (o.getD i 0)<|zc .u64<|w.getD i 0*2^s) Q->Ends X (F i o) Q)
  (e:∀o:List Int,o.length=w.length+1->Av Am o->zf Am o=2^s*zf Am w->Ends X (F w.length o) Q):
  ∀(k i:Nat) (p:List Int) (c:Int),i+k=w.length->p.length=i->Av Am p->(0<=c/\c<2^s)->zf Am p+(Am:Int)^i*c=2^s*zf Am (w.take i)->Ends X (F i (p++c::zo k 0)) Q
 |0,i,p,c,v,a,f,h,j=>by
  have v:i=w.length:=by omega
  subst v;have H:(2:Int)^s<=18446744073709551616:=by
   have:=Vm n;have B:(1:Int)<=2^(64-s):=ye (by decide);have G:=zz B (show(0:Int)<=2^s from zw<|ye<|by decide);omega
  rw[List.take_length]at j;refine e _ (by simp[a]) (DG f<|Cz h.1<|by omega) ?_;rw[<-j];show zf Am (p++[c])=_;rw[ED,a]
 |k+1,i,p,c,v,a,f,h,j=>by
  have q:=zW<|AR A i;have D:=Vm n;have r:(0:Int)<2^s:=ye (by decide);have g:(0:Int)<2^(64-s):=ye (by decide);obtain⟨s1,s2,s3,s4,s5,s6⟩:=Tz (b:=18446744073709551616) (c:=2^s) (d:=2^(64-s)) (x:=w.getD i 0) (k:=c) r g D h q;have u:yp (w.getD i 0) ((2:Int)^(64-s))=w.getD i 0/2^(64-s):=yj _<|zw g;have E:(p++c::zo (k+1) 0).getD i 0=c:=Dn _ _ _ _ a;have st:∀z:Int,(p++c::zo (k+1) 0).set i z=p++z::zo (k+1) 0:=fun z=>C9 _ _ _ _ a
  have t:∀z y:Int,(p++z::zo (k+1) 0).set (i+1) y=(p++[z])++y::zo k 0:=fun z y=>by
   rw[show p++z::zo (k+1) (0:Int)=(p++[z])++0::zo k 0 by rw[zu];rfl];exact C9 _ _ _ _ (by simp[a])
  have m:Yj .u64 c ((w.getD i 0 % 2^(64-s))*2^s)=(w.getD i 0 % 2^(64-s))*2^s+c:=SG (yf _<|by omega) h.1 h.2 s2;have go:=Qh w s n A Dh e k (i+1) (p++[(w.getD i 0 % 2^(64-s))*2^s+c]) (w.getD i 0/2^(64-s)) (by omega) (by simp[a]) (DG f<|Cz (by omega) s2) ⟨s4,s5⟩ (by
   rw[ED,a,JI,AD,zr<|2^s, <-j,z8,z8, <-zr,yn<|2^s, <-zr];congr 2;rw[zq<|2^s];omega)
  refine Dh i _ (by omega) (by simp;omega) ?_;rw[JT,s1,u,E,m,st,t];by_cases h0:0<s
  ·rw[wd h0];exact go
  ·have l:s=0:=by omega
   subst l;have C:w.getD i 0/2^(64-0)=0:=Int.ediv_eq_zero_of_lt q.1 q.2;rw[C]at go;rw[wc h0,show ∀z:Int,p++z::zo (k+1) (0:Int)=(p++[z])++0::zo k 0 from fun z=>by rw[zu];rfl];exact go
end T212
end Go.Pe
