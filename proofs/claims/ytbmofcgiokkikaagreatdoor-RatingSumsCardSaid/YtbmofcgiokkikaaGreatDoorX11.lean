import Derived.Test.YtbmofcgiokkikaaGreatDoorX10
/- A part of a proof; no law is stated here. -/
noncomputable section
open Go.IntKind renaming wrap -> zc, u64 -> zg, u8 -> yo, i64 -> qe
open Go.Sp renaming val -> zd, u64 -> zx, A8 -> yk, first -> qp
open Go.Pe.Ends renaming tt -> ze, Ai -> yg, ite -> ym, ff -> qq
open Int renaming toNat_natCast -> zf, mul_le_mul_of_nonneg_right -> zh, mul_assoc -> zj, mul_comm -> zk, le_of_lt -> zn, mul_le_mul_of_nonneg_left -> zo, mul_add -> zr, add_mul -> zz, one_mul -> z6, lt_of_mul_lt_mul_left -> ya, mul_nonneg -> ye, mul_left_comm -> yh, pow_pos -> yi, pow_succ -> yj, mul_ediv_add_emod -> yp, ediv_lt_of_lt_mul -> yq, add_assoc -> yt, mul_sub -> yv, emod_nonneg -> yw, add_zero -> yy, tmod -> yz, emod_lt_of_pos -> y7, fdiv_eq_ediv_of_nonneg -> y9, mul_lt_mul_of_pos_left -> qc, sub_mul -> qf, le_refl -> qg, tdiv -> qh, fdiv -> qi, mul_zero -> qj, lt_or_le -> qk, ediv_eq_zero_of_lt -> qm, ediv_nonneg -> qn, pow_zero -> qt, zero_mul -> qu
open Go.Pe.Sh renaming list -> zi, str -> zl, int -> zq, bool -> zw, T -> qv
open List renaming replicate -> zm, getD_eq_getElem?_getD -> zu, take_of_length_le -> zy, append_assoc -> z7, getElem?_eq_getElem -> yd, length_take -> yf, map -> yu, drop_eq_getElem_cons -> qd, mem_append -> qo
open UInt8 renaming toNat -> zp
open Nat renaming add -> zt, sub -> z8, min_eq_left -> yn, add_sub_cancel -> y8
open Option renaming getD -> yb
open Go.Pe.PV renaming agg -> yc
open Bool renaming and_eq_true -> yr
open Min renaming min -> yx
open BitVec renaming ofInt -> ql
variable {Q:Go.Pe.PV->Go.Pe.Ob->Prop}
namespace Go.Pe
open Sp
open Go.Det
section
open List Int Prod
namespace T202
def T(l:List Int):Tr:=tree O7 false 9 202<|Ag ([zi i64]) l
def L1(v5:List Int)(b a:Int):Tr:=re ((T []))<|Aw 15 [(5,.dat (zi i64) v5),(6,.dat i64 b),(7,.dat i64 a)] [] 0
theorem Aj(l:List Int):T l=L1 l ((length l:Int)) 0:=by kernel_rfl
theorem Ak(v5:List Int)(b a:Int):stepT O7 (L1 v5 b a)=.di (a<b) (.ck (decide (0<=a)&&decide (a<(length v5:Int)))<|.ite (getD v5 (toNat a) 0 !=0) (.leaf (.dat i64<|getD v5 (toNat a) 0) [])<|L1 v5 b<|zc .i64<|a+1) (.leaf (.dat i64 (0:Int)) []):=by kernel_rfl
end T202
namespace T203
def T(b:Bool)(e:Int):Tr:=tree O7 false 9 203<|Ag ([zw,zq qe]) (b,e)
theorem Aj(b:Bool)(e:Int):T b e=.ite b (.leaf (.dat i64 e) []) (.leaf (.dat i64 (0:Int)) []):=by kernel_rfl
end T203
namespace T163
def T(a:Z):Tr:=tree Nr false 9 163<|Ag ([zl]) a
def L1(v5 b:Z)(a:Bool):Tr:=re ((T []).L.L.L.L.L)<|Aw 76 [(5,.dat zl v5),(6,.dat zl b),(7,.dat zw a),(8,.bl true)] [] 0
def L2(v5 c:Z)(a b:Bool):Tr:=re ((T []).L.L.L.L.R)<|Aw 76 [(5,.dat zl v5),(6,.dat zl c),(7,.dat zw a),(8,.dat zw b)] [] 0
def L3(v5 b:Z)(a:Bool):Tr:=re ((T []).L.L.L.R)<|Aw 76 [(5,.dat zl v5),(6,.dat zl b),(7,.dat zw a),(8,.bl false)] [] 0
theorem Aj(a:Z):T a=let b:=AD<|A6 a;let b':=Sp.AV<|A6 a;let c:=Bw<|A6 a;.ck (Tn a [(45:UInt8)]) (.ck (AdG (A6 a) [(47:UInt8)])<|.cd (length b<=1000000)<|.ite (AX b) (.ite (!Sp.preB a) (L1 b b' c)<|L2 b b' c<|!AD (A6 a)==[(48:UInt8)])<|L3 b b' c):=by kernel_rfl
def L4(v5 c:Z)(a b:Bool):Tr:=re ((stepT Nr<|L1 [] [] false).L.L.L.L)<|Aw 76 [(5,.dat zl v5),(6,.dat zl c),(7,.dat zw a),(8,.dat zw b)] [] 0
def L5(v5 b:Z)(a:Bool):Tr:=re ((stepT Nr<|L1 [] [] false).L.L.L.R)<|Aw 76 [(5,.dat zl v5),(6,.dat zl b),(7,.dat zw a),(8,.bl false)] [] 0
def L6(v5 b:Z)(a:Bool):Tr:=re ((stepT Nr<|L1 [] [] false).R)<|Aw 76 [(5,.dat zl v5),(6,.dat zl b),(7,.dat zw a),(8,.bl true)] [] 0
theorem Ak(v5 a:Z)(b:Bool):stepT Nr (L1 v5 a b)=.ite b (.cd (length a<=1000000)<|.ite (AX a) (.ite (!a==[(48:UInt8)]) (L4 v5 a b<|!a==[(49:UInt8)])<|L5 v5 a b)<|L5 v5 a b) (L6 v5 a b):=by kernel_rfl
theorem Az(v5 a:Z)(b c:Bool):stepT Nr (L2 v5 a b c)=.ite b (.ite c (.cd (length a<=1000000)<|.ite (AX a) (.ite (!a==[(48:UInt8)]) (L4 v5 a b<|!a==[(49:UInt8)])<|L5 v5 a b)<|L5 v5 a b)<|L5 v5 a b) (L4 v5 a b c):=by kernel_rfl
theorem Bq(v5 b:Z)(a:Bool):stepT Nr (L3 v5 b a)=.ite a (L5 v5 b a) (L5 v5 b a):=by kernel_rfl
def L7(v5 b:Z)(a:Bool)(v9:Int):Tr:=re ((stepT Nr<|L4 [] [] false false).L.L.L.L)<|Aw 76 [(5,.dat zl v5),(6,.dat zl b),(7,.dat zw a),(9,.dat i64 v9)] [] 0
theorem Ck(v5 a:Z)(c b:Bool):stepT Nr (L4 v5 a c b)=let d:=decide (2<=2)&&true&&decide (2<=1000000);.ck true (.di ((length v5:Int)>600) (.ck true<|.ck d<|L7 v5 a c<|qp [Cv (!b) 1,Cv true 4])<|.ck true<|.ck d<|L7 v5 a c<|qp [Cv (!b) 1,Cv (decide ((length a:Int)>600)) 4]):=by kernel_rfl
theorem EF(v5 a:Z)(b:Bool):stepT Nr (L5 v5 a b)=.ck true (.di ((length v5:Int)>600) (.ck true<|.ck true<|L7 v5 a b<|qp [Cv true 1,Cv true 4])<|.ck true<|.ck (decide (2<=2)&&true&&decide (2<=1000000))<|L7 v5 a b<|qp [Cv true 1,Cv (decide ((length a:Int)>600)) 4]):=by kernel_rfl
theorem E2(v5 a:Z)(b:Bool):stepT Nr (L6 v5 a b)=.ck true (.di ((length v5:Int)>600) (.ck true<|.ck true<|L7 v5 a b<|qp [Cv false 1,Cv true 4])<|.ck true<|.ck (decide (2<=2)&&true&&decide (2<=1000000))<|L7 v5 a b<|qp [Cv false 1,Cv (decide ((length a:Int)>600)) 4]):=by kernel_rfl
def L8(v5 b:Z)(a:Bool):Tr:=re ((stepT Nr<|L7 [] [] false 0).R)<|Aw 76 [(5,.dat zl v5),(6,.dat zl b),(7,.dat zw a)] [] 0
theorem DW(v5 b:Z)(a:Bool)(v9:Int):stepT Nr (L7 v5 b a v9)=.ite (v9 !=0) (.leaf (.dat i64 v9) []) (L8 v5 b a):=by kernel_rfl
def L9(a:Bool):Tr:=re ((stepT Nr<|L8 [] [] false).L.L.L.L.L.L)<|Aw 76 [(10,.dat zw a)] [] 0
def L10:Tr:=re ((stepT Nr<|L8 [] [] false).R)<|Aw 76 [(10,.bl false)] [] 0
theorem HH(v5 a:Z)(b:Bool):stepT Nr (L8 v5 a b)=let c:=(N8 (DF v5,DH v5) (DF a,DH a),Oe (DF v5,DH v5) (DF a,DH a));.ite b (.ck (D4 v5)<|.ck (D4 a)<|.ck (Bd (DF v5,DH v5)&&Bd (DF a,DH a))<|.ck true<|.ck (Bd c&&Bd (1,BL 1))<|L9<|fI c (1,BL 1) !=0) L10:=by kernel_rfl
theorem kR(a:Bool):stepT Nr (L9 a)=.ck true (.leaf (.dat i64<|Cv a 1) []):=by kernel_rfl
theorem Uf:stepT Nr L10=.ck true (.leaf (.dat i64<|Cv false 1) []):=by kernel_rfl
end T163
namespace T160
def T(s:Z):Tr:=tree R2 false 9 160<|Ag ([zl]) s
def L1(v0:Z)(v3:Bool)(o1 a:Int):Tr:=re ((T []).L.L.L.L.L.L)<|Aw 41 [(0,.dat zl v0),(2,.ptr 0 0),(3,.dat zw v3),(4,.ptr 1 0)] [(1,.box [.dat i64 o1,.nil]),(0,.box [.dat i64 a,.nil])] 2
def L2(v0:Z)(o1 a:Int):Tr:=re ((T []).R.L.L.L.L)<|Aw 41 [(0,.dat zl v0),(2,.ptr 0 0),(3,.bl false),(4,.ptr 1 0)] [(1,.box [.dat i64 o1,.nil]),(0,.box [.dat i64 a,.nil])] 2
theorem Aj(s:Z):T s=let a:=take 1 s==[(45:UInt8)];let b':=decide ((length s:Int)>=1);let c:=decide (1<=length s)&&decide (length s<=length s);let b:=decide (1<=length s);let d:=take (z8 (length s) 1)<|drop 1 s;.ite b' (.ck b<|.ite b' (.ck b<|.ite a (.ck c<|L1 d a 0 0)<|L1 s a 0 0)<|L1 s a 0 0) (.ite b' (.ck b<|.ite a (.ck c<|L2 d 0 0)<|L2 s 0 0)<|L2 s 0 0):=by kernel_rfl
def L3(v0:Z)(v3:Bool)(o1 g:Int)(v5:Z)(h:Int)(a:Nat)(b d:Int)(f:List Int)(c:Int)(e:Int):Tr:=re ((stepT R2<|L1 v0 v3 o1 g).L.L.L.L.L.L.L.R)<|Aw 77 [(5,.dat zl v5),(6,.dat i64 h),(47,.sl 2 1 0 a none),(48,.dat i64 b),(49,.dat i64 d)] [(2,.arr false 5 (zq yo) f),(1,.box [.dat i64 c,.nil]),(0,.box [.dat i64 e,.nil])] 3
theorem Ak(v0:Z)(v3:Bool)(o1 c:Int):stepT R2 (L1 v0 v3 o1 c)=let d:=(length v0:Int);let a:=take (toNat<|Fa 18 d) v0;let b':=take (z8 (length a) 1)<|drop 1 a;let e:=(↑(length a):Int);let g:=decide (1<=length a)&&decide (length a<=length a);let h:=(↑(zp<|getD a 0 (0:UInt8)):Int);let f:=decide (0<e);.di (d>0) (.ck (decide (0<=Fa 18 d)&&decide (0<=toNat (Fa 18 d))&&decide (toNat (Fa 18 d)<=length v0))<|.ite f (.di (e<19) (.ck f<|.ite (h==45) (.ck g<|.di ((↑(length b'):Int)<1) .fail<|L3 v0 v3 o1 c a 0 (length b') ((↑(length b'):Int)) 0 (yu (fun b=>(↑(zp b):Int)) b') o1 c)<|.ck f<|.ite (h==43) (.ck g<|.di ((↑(length b'):Int)<1) .fail<|L3 v0 v3 o1 c a 0 (length b') ((↑(length b'):Int)) 0 (yu (fun b=>(↑(zp b):Int)) b') o1 c)<|L3 v0 v3 o1 c a 0 (length a) e 0 (yu (fun b=>(↑(zp b):Int)) a) o1 c)<|.ck false .fail)<|.ck false .fail) (.ite v3 (.ck (Sp.Dy (o1,[]))<|.leaf (yc [.dat i64<|E0 (o1,[]),.dat wU<|E1 (o1,[])]) [])<|.leaf (yc [.dat i64 o1,.nil]) []):=by kernel_rfl
def L4(v0:Z)(o1 g:Int)(v5:Z)(h:Int)(a:Nat)(b d:Int)(f:List Int)(c:Int)(e:Int):Tr:=re ((stepT R2<|L2 v0 o1 g).L.L.L.L.L.L.L.R)<|Aw 77 [(5,.dat zl v5),(6,.dat i64 h),(47,.sl 2 1 0 a none),(48,.dat i64 b),(49,.dat i64 d)] [(2,.arr false 5 (zq yo) f),(1,.box [.dat i64 c,.nil]),(0,.box [.dat i64 e,.nil])] 3
theorem Az(v0:Z)(o1 c:Int):stepT R2 (L2 v0 o1 c)=let d:=(length v0:Int);let a:=take (toNat<|Fa 18 d) v0;let b':=take (z8 (length a) 1)<|drop 1 a;let e:=(↑(length a):Int);let g:=decide (1<=length a)&&decide (length a<=length a);let h:=(↑(zp<|getD a 0 (0:UInt8)):Int);let f:=decide (0<e);.di (d>0) (.ck (decide (0<=Fa 18 d)&&decide (0<=toNat (Fa 18 d))&&decide (toNat (Fa 18 d)<=length v0))<|.ite f (.di (e<19) (.ck f<|.ite (h==45) (.ck g<|.di ((↑(length b'):Int)<1) .fail<|L4 v0 o1 c a 0 (length b') ((↑(length b'):Int)) 0 (yu (fun b=>(↑(zp b):Int)) b') o1 c)<|.ck f<|.ite (h==43) (.ck g<|.di ((↑(length b'):Int)<1) .fail<|L4 v0 o1 c a 0 (length b') ((↑(length b'):Int)) 0 (yu (fun b=>(↑(zp b):Int)) b') o1 c)<|L4 v0 o1 c a 0 (length a) e 0 (yu (fun b=>(↑(zp b):Int)) a) o1 c)<|.ck false .fail)<|.ck false .fail) (.leaf (yc [.dat i64 o1,.nil]) []):=by kernel_rfl
def L5(v0:Z)(v3:Bool)(o1:Int)(a:List Int)(b:Int):Tr:=re ((stepT R2<|L3 [] false 0 0 [] 0 0 0 0 [] 0 0).R.L.L.L.L.L.L.L.L)<|Aw 41 [(0,.dat zl v0),(2,.ptr 0 0),(3,.dat zw v3),(4,.ptr 1 0)] [(1,.box [.dat i64 o1,.dat wU a]),(0,.box [.dat i64 b,.nil])] 2
theorem Bq(v0:Z)(v3:Bool)(o1 n:Int)(v5:Z)(d:Int)(b:Nat)(f a:Int)(h:List Int)(c:Int)(e:Int):stepT R2 (L3 v0 v3 o1 n v5 d b f a h c e)=let b':=Fa 18 (length v0:Int);let i:=(zc .i64<|0-d,BL<|zc .i64<|0-d);let m:=getD h (toNat a) 0-48;let j:=(WO (10,BL 10) b',VQ (10,BL 10) b');let k:=decide (0<=Fa 18 (length v0:Int))&&true&&decide (toNat b'<=length v0)&&decide (length v0<=length v0);let l:=take (z8 (length v0)<|toNat b')<|drop (toNat b') v0;let o:=Bd (10,BL 10)&&nQ (Sp.vI (10,BL 10)) b';let g:=(Fx (c,[]) j,Fy (c,[]) j);let h':=Bd (c,[])&&Bd j;.di (a<f) (.ck (decide (0<=a)&&decide (a<(↑b:Int)))<|.cd (toNat a<length h)<|.di (zc .u8 m>9) .fail<|L3 v0 v3 o1 n v5 (zc .i64<|zc .i64 (d*10)+zc .i64 (zc .u8 m)) b f (zc .i64<|a+1) h c e) (.cd (0<(length v5:Int))<|.ite ((↑(zp<|getD v5 0 (0:UInt8)):Int)==45) (.ck true<|.ck o<|.ck h'<|.ck true<|.ck (Bd g&&Bd i)<|.ck k<|L5 l v3 (KO g i) (KR g i) e)<|.ck true<|.ck o<|.ck h'<|.ck true<|.ck (Bd g&&Bd (d,BL d))<|.ck k<|L5 l v3 (KO g (d,BL d)) (KR g (d,BL d)) e):=by kernel_rfl
def L7(v0:Z)(v3:Bool)(o1:Int)(b:List Int)(i:Int)(v5:Z)(j:Int)(c:Nat)(d f:Int)(h:List Int)(e:Int)(a:List Int)(g:Int):Tr:=re ((stepT R2<|L5 v0 v3 o1 b i).L.L.L.L.L.L.L.R)<|Aw 77 [(5,.dat zl v5),(6,.dat i64 j),(47,.sl 2 1 0 c none),(48,.dat i64 d),(49,.dat i64 f)] [(2,.arr false 5 (zq yo) h),(1,.box [.dat i64 e,.dat wU a]),(0,.box [.dat i64 g,.nil])] 3
theorem EF(v0:Z)(v3:Bool)(o1:Int)(a:List Int)(d:Int):stepT R2 (L5 v0 v3 o1 a d)=let e:=(length v0:Int);let c:=take (toNat<|Fa 18 e) v0;let b':=take (z8 (length c) 1)<|drop 1 c;let f:=(↑(length c):Int);let h:=decide (1<=length c)&&decide (length c<=length c);let i:=(↑(zp<|getD c 0 (0:UInt8)):Int);let g:=decide (0<f);.di (e>0) (.ck (decide (0<=Fa 18 e)&&decide (0<=toNat (Fa 18 e))&&decide (toNat (Fa 18 e)<=length v0))<|.ite g (.di (f<19) (.ck g<|.ite (i==45) (.ck h<|.di ((↑(length b'):Int)<1) .fail<|L7 v0 v3 o1 a d c 0 (length b') ((↑(length b'):Int)) 0 (yu (fun b=>(↑(zp b):Int)) b') o1 a d)<|.ck g<|.ite (i==43) (.ck h<|.di ((↑(length b'):Int)<1) .fail<|L7 v0 v3 o1 a d c 0 (length b') ((↑(length b'):Int)) 0 (yu (fun b=>(↑(zp b):Int)) b') o1 a d)<|L7 v0 v3 o1 a d c 0 (length c) f 0 (yu (fun b=>(↑(zp b):Int)) c) o1 a d)<|.ck false .fail)<|.ck false .fail) (.ite v3 (.ck (Sp.Dy (o1,a))<|.leaf (yc [.dat i64<|E0 (o1,a),.dat wU<|E1 (o1,a)]) [])<|.leaf (yc [.dat i64 o1,.dat wU a]) []):=by kernel_rfl
theorem DW(v0:Z)(v3:Bool)(o1:Int)(g:List Int)(p:Int)(v5:Z)(e:Int)(c:Nat)(h b:Int)(j:List Int)(d:Int)(a:List Int)(f:Int):stepT R2 (L7 v0 v3 o1 g p v5 e c h b j d a f)=let i:=Fa 18 (length v0:Int);let k:=(zc .i64<|0-e,BL<|zc .i64<|0-e);let o:=getD j (toNat b) 0-48;let l:=(WO (10,BL 10) i,VQ (10,BL 10) i);let m:=decide (0<=Fa 18 (length v0:Int))&&true&&decide (toNat i<=length v0)&&decide (length v0<=length v0);let n:=take (z8 (length v0)<|toNat i)<|drop (toNat i) v0;let q:=Bd (10,BL 10)&&nQ (Sp.vI (10,BL 10)) i;let b':=(Fx (d,a) l,Fy (d,a) l);let h':=Bd (d,a)&&Bd l;.di (b<h) (.ck (decide (0<=b)&&decide (b<(↑c:Int)))<|.cd (toNat b<length j)<|.di (zc .u8 o>9) .fail<|L7 v0 v3 o1 g p v5 (zc .i64<|zc .i64 (e*10)+zc .i64 (zc .u8 o)) c h (zc .i64<|b+1) j d a f) (.cd (0<(length v5:Int))<|.ite ((↑(zp<|getD v5 0 (0:UInt8)):Int)==45) (.ck true<|.ck q<|.ck h'<|.ck true<|.ck (Bd b'&&Bd k)<|.ck m<|L5 n v3 (KO b' k) (KR b' k) f)<|.ck true<|.ck q<|.ck h'<|.ck true<|.ck (Bd b'&&Bd (e,BL e))<|.ck m<|L5 n v3 (KO b' (e,BL e)) (KR b' (e,BL e)) f):=by kernel_rfl
end T160
namespace T236
def T(s t:Z):Tr:=tree cW false 9 236<|Ag ([zl,zl]) (s,t)
def L1(s t v0:Z)(v4:Int)(a:List Bool):Tr:=re ((T s t).R.R.L.L.R)<|Aw 21 [(0,.dat zl v0),(2,.ptr 0 0),(4,.dat i64 v4)] [(0,.arr false 293 zw a)] 1
def L2(s t v0:Z)(v4:Int)(a:List Bool):Tr:=re ((T s t).R.R.R)<|Aw 21 [(0,.dat zl v0),(2,.ptr 0 0),(4,.dat i64 v4)] [(0,.arr false 293 zw a)] 1
theorem Aj(s t:Z):T s t=let a:=decide (0<(length t:Int));let b':Tr:=.leaf (.dat zl s) [];.ite (s==[]) b' (.ite (t==[]) b'<|.ite ((length t:Int)==1) (.ck a<|.di ((↑(zp<|getD t 0 (0:UInt8)):Int)<128) (.ck a<|.ck a<|.ck false<|.ck false b')<|L1 s t t 0 Sp.AbP)<|L2 s t t 0 Sp.AbP):=by kernel_rfl
def L4(s t v0:Z)(v4:Int)(c:List Bool)(b:Z)(o1:List Bool)(a:List Bool):Tr:=re ((stepT cW<|L2 s t v0 v4 c).R.L.L.L.L)<|Aw 22 [(0,.dat zl b),(1,.ptr 1 0)] [(1,.arr false 293 zw o1),(0,.arr false 293 zw a)] 2
theorem Az(s t v0:Z)(v4:Int)(a:List Bool):stepT cW (L2 s t v0 v4 a)=let b:=(↑(zp<|getD v0 (toNat v4) (0:UInt8)):Int);let b':=decide (length a=256);let c:=decide (v4<(length v0:Int));.ite c (.ck (decide (0<=v4)&&c)<|.di (b>=128) (.ck b'<|.ck b'<|.cd (256=256)<|.ck true<|.ck false<|.ck false<|.leaf (.dat zl s) [])<|.ck (decide ((0:qv (zq yo))<=b)&&decide (b<(↑256:Int)))<|.cd (toNat b<length a)<|L2 s t v0 (zc .i64<|v4+1)<|set a (toNat b) true) (.ck b'<|.ck b'<|.cd (256=256)<|.ck true<|L4 s t v0 v4 a s ((Sp.AbO a))<|(Sp.AbO a)):=by kernel_rfl
def L7(s t v0:Z)(v4:Int)(f:List Bool)(e:Z)(o1:List Bool)(d:List Bool)(a:Z)(c:List Bool)(b:List Bool):Tr:=re ((stepT cW<|L4 s t v0 v4 f e o1 d).L.L.L.L.L)<|Aw 16 [(0,.dat zl a),(1,.ptr 1 0)] [(1,.arr false 293 zw c),(0,.arr false 293 zw b)] 2
def L8(s t v0:Z)(v4:Int)(f:List Bool)(e:Z)(o1:List Bool)(d:List Bool)(a:Z)(c:List Bool)(b:List Bool):Tr:=re ((stepT cW<|L4 s t v0 v4 f e o1 d).R)<|Aw 16 [(0,.dat zl a),(1,.ptr 1 0)] [(1,.arr false 293 zw c),(0,.arr false 293 zw b)] 2
theorem Ck(s t v0:Z)(v4:Int)(d:List Bool)(a:Z)(o1:List Bool)(b:List Bool):stepT cW (L4 s t v0 v4 d a o1 b)=let b':=(↑(length a):Int);let e:=zc .i64<|b'-1;let f:=decide (0<=zc .i64 (b'-1));let c:=(↑(zp<|getD a (toNat e) (0:UInt8)):Int);.di (b'>0) (.ck (f&&decide (zc .i64 (b'-1)<b'))<|.ck (decide ((0:qv (zq yo))<=c)&&decide (c<(↑256:Int)))<|.cd (toNat c<length o1)<|.ite (!getD o1 (toNat c) false) (L7 s t v0 v4 d a o1 b a o1 b)<|.ck (f&&decide (0<=toNat e)&&decide (toNat e<=length a))<|L4 s t v0 v4 d (take (toNat e) a) o1 b) (L8 s t v0 v4 d a o1 b a o1 b):=by kernel_rfl
theorem DW(s t v0:Z)(v4:Int)(g:List Bool)(e:Z)(o1:List Bool)(d:List Bool)(a:Z)(b:List Bool)(c:List Bool):stepT cW (L7 s t v0 v4 g e o1 d a b c)=let f:=(↑(zp<|getD a 0 (0:UInt8)):Int);let b':Tr:=.leaf (.dat zl a) [];.di ((↑(length a):Int)>0) (.cd (0<(↑(length a):Int))<|.ck (decide ((0:qv (zq yo))<=f)&&decide (f<(↑256:Int)))<|.cd (toNat f<length b)<|.ite (!getD b (toNat f) false) b'<|.ck (decide (1<=length a)&&decide (length a<=length a))<|L7 s t v0 v4 g e o1 d (take (z8 (length a) 1)<|drop 1 a) b c) b':=by kernel_rfl
theorem HH(s t v0:Z)(v4:Int)(g:List Bool)(e:Z)(o1:List Bool)(d:List Bool)(a:Z)(b:List Bool)(c:List Bool):stepT cW (L8 s t v0 v4 g e o1 d a b c)=let f:=(↑(zp<|getD a 0 (0:UInt8)):Int);let b':Tr:=.leaf (.dat zl a) [];.di ((↑(length a):Int)>0) (.cd (0<(↑(length a):Int))<|.ck (decide ((0:qv (zq yo))<=f)&&decide (f<(↑256:Int)))<|.cd (toNat f<length b)<|.ite (!getD b (toNat f) false) b'<|.ck (decide (1<=length a)&&decide (length a<=length a))<|L8 s t v0 v4 g e o1 d (take (z8 (length a) 1)<|drop 1 a) b c) b':=by kernel_rfl
end T236
namespace T201
def T(s:Z):Tr:=tree XH1 false 9 201<|Ag ([zl]) s
theorem Aj(s:Z):T s=.ite (!s==[]) (.ck (Sp.Abh s [(48:UInt8),49,50,51,52,53,54,55,56,57])<|.ite (Sp.Rw s==[]) (.cd (0<(length s:Int))<|.ite ((↑(zp<|getD s 0 (0:UInt8)):Int) !=48) (.leaf (.bl true) [])<|.leaf (.dat zw<|s==[(48:UInt8)]) [])<|.leaf (.bl false) []) (.leaf (.bl false) []):=by kernel_rfl
end T201
namespace T200
def T(s t:Z):Tr:=tree O7 false 9 200<|Ag ([zl,zl]) (s,t)
theorem Aj(s t:Z):T s t=let a:=(length t:Int);let b':Tr:=.leaf (.tup [.dat zl s,.bl false]) [];let b:=decide (toNat a<=length s);.di ((length s:Int)>=a) (.ck (decide (0<=a)&&decide (0<=toNat a)&&b)<|.ite (!take (toNat a) s==t) b'<|.ck (decide (0<=a)&&true&&b&&decide (length s<=length s))<|.leaf (.tup [.dat zl<|take (z8 (length s)<|toNat a)<|drop (toNat a) s,.bl true]) []) b':=by kernel_rfl
end T200
namespace T159
def T(s t:Z):Tr:=tree XH2 false 9 159<|Ag ([zl,zl]) (s,t)
theorem Aj(s t:Z):T s t=let b':=(↑(zp<|getD t 0 (0:UInt8)):Int);let a:=(length t:Int);let b:Tr:=.leaf (.tup [.dat zl s,.dat zl [],.bl false]) [];let f:=decide (length s<=length s);let g:=BE [zq yo];let d:=zc .i64<|Sp.QA s b'+a;let e:=zc .i64<|(-1)+a;let h':=zc .i64<|0+a;let c:=Sp.QA s b';let h:Tr:=.ite true (.cd (0<=length s)<|.ck (decide (0<=zc .i64 (0+a))&&true&&decide (toNat h'<=length s)&&f)<|.leaf (.tup [.dat zl<|take 0 s,.dat zl<|take (z8 (length s)<|toNat h')<|drop (toNat h') s,.bl true]) []) b;.ite (a==0) h (.ite (t==s) h<|.ite (a==1) (.cd (0<a)<|.ck (decide ((0:qv g)<=b')&&decide (b'<(256:qv g)))<|.di (Sp.QA s b'>=0) (.ck (decide (0<=Sp.QA s b')&&decide (0<=toNat c)&&decide (toNat c<=length s))<|.ck (decide (0<=zc .i64 (Sp.QA s b'+a))&&true&&decide (toNat d<=length s)&&f)<|.leaf (.tup [.dat zl<|take (toNat c) s,.dat zl<|take (z8 (length s)<|toNat d)<|drop (toNat d) s,.bl true]) []) b)<|.cd (a>=(length s:Int))<|.ite false (.ck (false&&decide (0<=length s))<|.ck (decide (0<=zc .i64 ((-1)+a))&&true&&decide (toNat e<=length s)&&f)<|.leaf (.tup [.dat zl<|take 0 s,.dat zl<|take (z8 (length s)<|toNat e)<|drop (toNat e) s,.bl true]) []) b):=by kernel_rfl
end T159
namespace T190
def T(w:List Int):Tr:=tree tY false 9 190<|Ag ([zi i64]) w
def L1(v0:List Int):Tr:=re ((T []))<|Aw 21 [(0,.dat (zi i64) v0)] [] 0
theorem Aj(w:List Int):T w=L1 w:=by kernel_rfl
theorem Ak(v0:List Int):stepT tY (L1 v0)=let b':=(length v0:Int);let b:Tr:=.leaf (.dat (zi i64) v0) [];let a:=zc .i64<|b'-1;let c:=decide (0<=zc .i64 (b'-1));.di (b'>0) (.ck (c&&decide (zc .i64 (b'-1)<b'))<|.ite (getD v0 (toNat a) 0==0) (.ck (c&&decide (0<=toNat a)&&decide (toNat a<=length v0))<|L1<|take (toNat a) v0) b) b:=by kernel_rfl
end T190
namespace T149
def T(n:Bool)(w:List Int):Tr:=tree hO false 9 149<|Ag ([zw,zi i64]) (n,w)
theorem Aj(n:Bool)(w:List Int):T n w=.cd (length w<=20000) (.ite n (.leaf (yc [.dat zw<|decide ((↑(length<|AA w):Int)>0),.dat (zi i64)<|AA w]) [])<|.leaf (yc [.bl false,.dat (zi i64)<|AA w]) []):=by kernel_rfl
end T149
namespace T151
def T(a b:List Int):Tr:=tree tY false 9 151<|Ag ([zi i64,zi i64]) (a,b)
def L1(v0 v1:List Int)(v5:Int):Tr:=re ((T [] []).R)<|Aw 41 [(0,.dat (zi i64) v0),(1,.dat (zi i64) v1),(5,.dat i64 v5)] [] 0
theorem Aj(a b:List Int):T a b=let c:=(length a:Int);.ite (c !=(length b:Int)) (.di (c<(length b:Int)) (.leaf (.dat i64 (-1:Int)) [])<|.leaf (.dat i64 (1:Int)) []) (L1 a b<|zc .i64<|c-1):=by kernel_rfl
theorem Ak(v0 v1:List Int)(v5:Int):stepT tY (L1 v0 v1 v5)=let a:=decide (0<=v5)&&decide (v5<(length v0:Int));let b':=decide (0<=v5)&&decide (v5<(length v1:Int));.di (v5>=0) (.ck a<|.ck b'<|.di (getD v0 (toNat v5) 0<getD v1 (toNat v5) 0) (.leaf (.dat i64 (-1:Int)) [])<|.ck a<|.ck b'<|.di (getD v0 (toNat v5) 0>getD v1 (toNat v5) 0) (.leaf (.dat i64 (1:Int)) [])<|L1 v0 v1<|zc .i64<|v5-1) (.leaf (.dat i64 (0:Int)) []):=by kernel_rfl
end T151
namespace T153
def T(a b:List Int):Tr:=tree hO false 9 153<|Ag ([zi i64,zi i64]) (a,b)
def L1(v0 v1:List Int)(a:Nat)(c:Int)(b:List Int):Tr:=re ((T [] []).L)<|Aw 72 [(0,.dat (zi i64) v0),(1,.dat (zi i64) v1),(5,.sl 0 1 0 a none),(6,.dat i64 c)] [(0,.arr false 3 i64 b)] 1
theorem Aj(a b:List Int):T a b=let c:=(length a:Int)+(length b:Int);let b':=zc .i64 c;.ck (decide (0<=zc .i64 c)&&decide (zc .i64 c=zc .i64 c)&&decide (8*toNat b'<=281474976710656)&&decide (zc .i64 c<9223372036854775808)) (L1 a b (toNat b') 0<|replicate (toNat b') 0):=by kernel_rfl
def L2(v0 v1:List Int)(a:Nat)(e c d:Int)(b:List Int):Tr:=re ((stepT hO<|L1 [] [] 0 0 []).L)<|Aw 72 [(0,.dat (zi i64) v0),(1,.dat (zi i64) v1),(5,.sl 0 1 0 a none),(6,.dat i64 e),(7,.dat i64 c),(8,.dat i64 d)] [(0,.arr false 3 i64 b)] 1
theorem Ak(v0 v1:List Int)(a:Nat)(c:Int)(b:List Int):stepT hO (L1 v0 v1 a c b)=.di (c<(length v0:Int)) (L2 v0 v1 a c 0 0 b) (.ck (decide (0+a<=length b)&&true&&decide (length (take a b)<=20000))<|.leaf (.dat (zi i64)<|AA<|take a b) []):=by kernel_rfl
theorem Az(v0 v1:List Int)(a:Nat)(b h c:Int)(d:List Int):stepT hO (L2 v0 v1 a b h c d)=let i:=decide (0<=zc .i64 (b+c))&&decide (zc .i64 (b+c)<(↑a:Int));let e:=zc .i64<|b+c;let f:=(length v1:Int);let l:=zc .i64<|zc .i64 (getD d (toNat e) 0+zc .i64 (getD v0 (toNat b) 0*getD v1 (toNat c) 0))+h;let b':=b+f;let j:=decide (toNat e<length d);let k:=decide (0<=zc .i64 b')&&decide (zc .i64 b'<(↑a:Int));let g:=zc .i64 b';let h':=decide (toNat g<length d);.di (c<f) (.ck i<|.ck j<|.ck (decide (0<=b)&&decide (b<(length v0:Int)))<|.ck (decide (0<=c)&&decide (c<f))<|.ck true<|.ck i<|.ck j<|.ck true<|L2 v0 v1 a b (zc .i64<|qh l 1000000000) (zc .i64<|c+1)<|set d (toNat e)<|yz l 1000000000) (.ck k<|.ck h'<|.ck k<|.ck h'<|L1 v0 v1 a (zc .i64<|b+1)<|set d (toNat g)<|zc .i64<|getD d (toNat g) 0+h):=by kernel_rfl
end T153
namespace T189
def T(a:List Int)(d:Int):Tr:=tree hO false 9 189<|Ag ([zi i64,zq qe]) (a,d)
def L1(v0:List Int)(v1:Int)(a:Nat)(c b:Int)(d:List Int):Tr:=re ((T [] 0).L)<|Aw 39 [(0,.dat (zi i64) v0),(1,.dat i64 v1),(6,.sl 0 1 0 a none),(7,.dat i64 c),(8,.dat i64 b)] [(0,.arr false 3 i64 d)] 1
theorem Aj(a:List Int)(d:Int):T a d=let b:=(length a:Int);.ck (decide (0<=b)&&decide (b=b)&&decide (8*toNat b<=281474976710656)&&decide (b<9223372036854775808)) (L1 a d (toNat b) 0 (zc .i64<|b-1)<|replicate (toNat b) 0):=by kernel_rfl
theorem Ak(v0:List Int)(v1:Int)(a:Nat)(d b:Int)(c:List Int):stepT hO (L1 v0 v1 a d b c)=let e:=zc .i64<|zc .i64 (d*1000000000)+getD v0 (toNat b) 0;.di (b>=0) (.ck (decide (0<=b)&&decide (b<(length v0:Int)))<|.cd (v1≠0)<|.ck (decide (0<=b)&&decide (b<(↑a:Int)))<|.cd (toNat b<length c)<|.cd (v1≠0)<|L1 v0 v1 a (yz e v1) (zc .i64<|b-1)<|set c (toNat b)<|zc .i64<|qh e v1) (.ck (decide (0+a<=length c)&&true&&decide (length (take a c)<=20000))<|.leaf (.tup [.dat (zi i64)<|AA<|take a c,.dat i64 d]) []):=by kernel_rfl
end T189
namespace T147
def T(a b:List Int):Tr:=tree ND false 9 147<|Ag ([zi i64,zi i64]) (a,b)
def L1(v0:List Int)(c:Nat)(v9:List Int)(b:Int)(a:Nat)(o1 d:List Int):Tr:=re ((T [] []).L.R.R.L.L.L.L.L)<|Aw 206 [(0,.dat (zi i64) v0),(8,.sl 0 1 0 c none),(9,.dat (zi i64) v9),(10,.dat i64 b),(11,.sl 1 1 0 a none)] [(1,.arr false 3 i64 o1),(0,.arr true 3 i64 d)] 2
theorem Aj(a b:List Int):T a b=let c:=(length b:Int);let f:=getD b (toNat<|zc .i64<|c-1) 0+1;let d:=qh 1000000000<|zc .i64 f;let b':=Ao a*Ao [zc .i64 d];let e:=BW<|Ao b*Ao [zc .i64 d];.ck (Ba a&&Ba b) (.di (Cp (Ao a) (Ao b)<0) (.leaf (.tup [.nil,.dat (zi i64) a]) [])<|.ite (c==1) (.cd (0<c)<|.ck (KK a&&decide (0<getD b 0 0)&&decide (getD b 0 0<1000000000))<|.ck (decide (1<=1)&&true&&decide (1<=20000))<|.leaf (.tup [.dat (zi i64)<|BW<|Ao a/getD b 0 0,.dat (zi i64)<|AA [Ao a % getD b 0 0]]) [])<|.ck (decide (0<=zc .i64 (c-1))&&decide (zc .i64 (c-1)<c))<|.cd (zc .i64 f≠0)<|.ck (decide (1<=1)&&true&&(Sp.hR b&&Sp.hR [zc .i64 d]))<|.ck (decide (1<=1)&&true&&(Sp.hR a&&Sp.hR [zc .i64 d]))<|.cd ((3*(0+length (BW b'))+2000)*8<=562949953421312)<|L1 a 1 e ((↑(length e):Int)) (zt 0<|length<|BW b') ([]++BW b')<|[zc .i64 d]):=by kernel_rfl
def L2(d:Nat)(v9:List Int)(e:Int)(a b:Nat)(c:Int)(g o1 f:List Int):Tr:=re ((stepT ND<|L1 [] 0 [] 0 0 [] []).R.L)<|Aw 206 [(8,.sl 0 1 0 d none),(9,.dat (zi i64) v9),(10,.dat i64 e),(11,.sl 1 1 0 a none),(12,.sl 2 1 0 b none),(13,.dat i64 c)] [(2,.arr false 3 i64 g),(1,.arr false 3 i64 o1),(0,.arr true 3 i64 f)] 3
theorem Ak(v0:List Int)(c:Nat)(v9:List Int)(b:Int)(a:Nat)(o1 e:List Int):stepT ND (L1 v0 c v9 b a o1 e)=let d:=(↑a:Int)-b;let b':=zc .i64 d;.di ((↑a:Int)<zc .i64 ((length v0:Int)+1)) (.ck (decide (a=length o1)&&decide ((3*(a+1)+2000)*8<=562949953421312))<|L1 v0 c v9 b (zt a 1) (o1++[0]) e) (.ck (decide (0<=zc .i64 d)&&decide (zc .i64 d=zc .i64 d)&&decide (8*toNat b'<=281474976710656)&&decide (zc .i64 d<9223372036854775808))<|L2 c v9 b a (toNat b') (zc .i64<|zc .i64 d-1) (replicate (toNat b') 0) o1 e):=by kernel_rfl
def L3(g:Nat)(v9:List Int)(k:Int)(b c:Nat)(f:Int)(m o1 l:List Int)(h:Nat)(v1:List Int)(v2 n:Int)(d:Int)(a:Int)(i:List Int)(e:List Int)(j:List Int):Tr:=re ((stepT ND<|L2 g v9 k b c f m o1 l).L.L.L.L.L.L.L.L.L)<|Aw 77 [(0,.sl 1 1 0 h none),(1,.dat (zi i64) v1),(2,.dat i64 v2),(7,.dat i64 n),(9,.dat i64 d),(10,.dat i64 a)] [(2,.arr false 3 i64 i),(1,.arr false 3 i64 e),(0,.arr true 3 i64 j)] 3
theorem Az(g:Nat)(v9:List Int)(d:Int)(a c:Nat)(b:Int)(h o1 f:List Int):stepT ND (L2 g v9 d a c b h o1 f)=let e:=(length v9:Int);let k:=take (toNat d) o1;let j:=toNat<|zc .i64<|e-1;let i:=zc .i64 (b+e)-1;let l:=decide (0<=zc .i64 (e-1))&&decide (zc .i64 (e-1)<e);let m:=zc .i64<|b+e;let b':=zc .i64<|zc .i64 (getD o1 (toNat m) 0*1000000000)+getD o1 (toNat<|zc .i64 i) 0;let h':=decide (getD v9 j 0≠0);.di (b>=0) (.ck (decide (0<=zc .i64 (b+e))&&decide (zc .i64 (b+e)<(↑a:Int)))<|.cd (toNat m<length o1)<|.ck (decide (0<=zc .i64 i)&&decide (zc .i64 i<(↑a:Int)))<|.cd (toNat (zc .i64 i)<length o1)<|.ck l<|.ck h'<|.ck l<|.ck h'<|L3 g v9 d a c b h o1 f a v9 b e (zc .i64<|qh b'<|getD v9 j 0) (yz b'<|getD v9 j 0) h o1 f) (.ck (decide (0<=d)&&true&&decide (0<=toNat d)&&decide (toNat d<=yb none a)&&decide (yb none a<=yb none a)&&true)<|.cd (0<(↑g:Int))<|.cd (0<length f)<|.ck (decide (0+toNat d<=length o1)&&true&&decide (length k<=20000))<|.ck (KK (AA k)&&decide (0<getD f 0 0)&&decide (getD f 0 0<1000000000))<|.ck (decide (0+c<=length h)&&true&&decide (length (take c h)<=20000))<|.leaf (.tup [.dat (zi i64)<|AA<|take c h,.dat (zi i64)<|BW<|Ao (AA k)/getD f 0 0]) []):=by kernel_rfl
def L4(d:Nat)(v9:List Int)(f:Int)(a b:Nat)(c e h g:Int)(j o1 i:List Int):Tr:=re ((stepT ND<|L3 0 [] 0 0 0 0 [] [] [] 0 [] 0 0 0 0 [] [] []).L.L.L)<|Aw 206 [(8,.sl 0 1 0 d none),(9,.dat (zi i64) v9),(10,.dat i64 f),(11,.sl 1 1 0 a none),(12,.sl 2 1 0 b none),(13,.dat i64 c),(14,.dat i64 e),(15,.dat i64 h),(16,.dat i64 g)] [(2,.arr false 3 i64 j),(1,.arr false 3 i64 o1),(0,.arr true 3 i64 i)] 3
theorem Bq(g:Nat)(v9:List Int)(k:Int)(b a:Nat)(f:Int)(q o1 o:List Int)(l:Nat)(v1:List Int)(v2 h:Int)(e:Int)(d:Int)(i:List Int)(c:List Int)(j:List Int):stepT ND (L3 g v9 k b a f q o1 o l v1 v2 h e d i c j)=let b':=zc .i64 (v2+h)-2;let p:=d+getD v1 (toNat<|zc .i64<|h-1) 0;let m:=zc .i64<|e-1;let n:Tr:=.ck (decide (0<=zc .i64 (h-1))&&decide (zc .i64 (h-1)<(length v1:Int)))<|.di (zc .i64 p>=1000000000) (L4 g v9 k b a f m 0 0 i c j)<|L3 g v9 k b a f q o1 o l v1 v2 h m (zc .i64 p) i c j;.di (e>=1000000000) n (.ck (decide (0<=zc .i64 (h-2))&&decide (zc .i64 (h-2)<(length v1:Int)))<|.ck (decide (0<=zc .i64 b')&&decide (zc .i64 b'<(↑l:Int)))<|.cd (toNat (zc .i64 b')<length c)<|.di (zc .i64 (e*getD v1 (toNat<|zc .i64<|h-2) 0)>zc .i64 (zc .i64 (d*1000000000)+getD c (toNat<|zc .i64 b') 0)) n<|L4 g v9 k b a f e 0 0 i c j):=by kernel_rfl
def L5(d:Nat)(v9:List Int)(g:Int)(a b:Nat)(c e f v20:Int)(i o1 h:List Int):Tr:=re ((stepT ND<|L4 0 [] 0 0 0 0 0 0 0 [] [] []).R.L.L.L.L.L.L.L)<|Aw 206 [(8,.sl 0 1 0 d none),(9,.dat (zi i64) v9),(10,.dat i64 g),(11,.sl 1 1 0 a none),(12,.sl 2 1 0 b none),(13,.dat i64 c),(14,.dat i64 e),(19,.dat i64 f),(20,.dat i64 v20)] [(2,.arr false 3 i64 i),(1,.arr false 3 i64 o1),(0,.arr true 3 i64 h)] 3
theorem Ck(g:Nat)(v9:List Int)(d:Int)(b c:Nat)(a f h e:Int)(i o1 j:List Int):stepT ND (L4 g v9 d b c a f h e i o1 j)=let o:=decide (0<=zc .i64 (e+a))&&decide (zc .i64 (e+a)<(↑b:Int));let n:=decide (0<=zc .i64 (a+d))&&decide (zc .i64 (a+d)<(↑b:Int));let q:=zc .i64<|zc .i64 (f*getD v9 (toNat e) 0)+h;let l:=zc .i64<|e+a;let k:=zc .i64<|a+d;let s:=zc .i64<|e+1;let m:=set o1 (toNat k)<|zc .i64<|getD o1 (toNat k) 0-h;let b':=getD o1 (toNat l) 0-yz q 1000000000;let h':=decide (toNat l<length o1);let r:=decide (toNat k<length o1);let p:=qh q 1000000000;.di (e<d) (.ck (decide (0<=e)&&decide (e<(length v9:Int)))<|.ck o<|.ck h'<|.ck true<|.ck true<|.di (zc .i64 b'<0) (.ck o<|.ck h'<|L4 g v9 d b c a f (zc .i64<|zc .i64 p+1) s i (set o1 (toNat l)<|zc .i64<|zc .i64 b'+1000000000) j)<|.ck o<|.ck h'<|L4 g v9 d b c a f (zc .i64 p) s i (set o1 (toNat l)<|zc .i64 b') j) (.ck n<|.ck r<|.ck n<|.ck r<|.ck n<|.cd (toNat k<length m)<|.di (getD m (toNat k) 0<0) (L5 g v9 d b c a (zc .i64<|f-1) 0 0 i m j)<|.ck (decide (0<=a)&&decide (a<(↑c:Int)))<|.cd (toNat a<length i)<|L2 g v9 d b c (zc .i64<|a-1) (set i (toNat a) f) m j):=by kernel_rfl
theorem EF(e:Nat)(v9:List Int)(c:Int)(b d:Nat)(a f g v20:Int)(h o1 k:List Int):stepT ND (L5 e v9 c b d a f g v20 h o1 k)=let b':=decide (0<=zc .i64 (v20+a))&&decide (zc .i64 (v20+a)<(↑b:Int));let n:=decide (0<=zc .i64 (a+c))&&decide (zc .i64 (a+c)<(↑b:Int));let j:=zc .i64<|v20+a;let i:=zc .i64<|a+c;let m:=zc .i64<|zc .i64 (getD o1 (toNat j) 0+getD v9 (toNat v20) 0)+g;let l:=decide (toNat j<length o1);let o:=decide (toNat i<length o1);.di (v20<c) (.ck b'<|.ck l<|.ck (decide (0<=v20)&&decide (v20<(length v9:Int)))<|.ck true<|.ck b'<|.ck l<|.ck true<|L5 e v9 c b d a f (zc .i64<|qh m 1000000000) (zc .i64<|v20+1) h (set o1 (toNat j)<|yz m 1000000000) k) (.ck n<|.ck o<|.ck n<|.ck o<|.ck (decide (0<=a)&&decide (a<(↑d:Int)))<|.cd (toNat a<length h)<|L2 e v9 c b d (zc .i64<|a-1) (set h (toNat a) f) (set o1 (toNat i)<|zc .i64<|getD o1 (toNat i) 0+g) k):=by kernel_rfl
end T147
namespace T141
def T(a b:List Int):Tr:=tree XG3 false 9 141<|Ag ([zi i64,zi i64]) (a,b)
def L1(v0 v1:List Int):Tr:=re ((T [] []))<|Aw 19 [(0,.dat (zi i64) v0),(1,.dat (zi i64) v1)] [] 0
theorem Aj(a b:List Int):T a b=L1 a b:=by kernel_rfl
theorem Ak(v0 v1:List Int):stepT XG3 (L1 v0 v1)=.di ((length v1:Int)>0) (.ck (Ba v0&&Ba v1&&decide (length v0<=9000)&&decide (length v1<=9000)&&decide (0<Ao v1))<|L1 v1<|BW<|Ao v0 % Ao v1) (.leaf (.dat (zi i64) v0) []):=by kernel_rfl
end T141
namespace T142
def T(s:Z):Tr:=tree tY false 9 142<|Ag ([zl]) s
def L1(v0:Z)(v3 v4:Int):Tr:=re ((T []))<|Aw 20 [(0,.dat zl v0),(3,.dat i64 v3),(4,.dat i64 v4)] [] 0
theorem Aj(s:Z):T s=L1 s 0 0:=by kernel_rfl
theorem Ak(v0:Z)(v3 v4:Int):stepT tY (L1 v0 v3 v4)=let a:=decide (v4<(length v0:Int));.ite a (.ck (decide (0<=v4)&&a)<|L1 v0 (zc .i64<|zc .i64 (zc .i64 (10*v3)+zc .i64 (↑(zp<|getD v0 (toNat v4) (0:UInt8)):Int))-48)<|zc .i64<|v4+1) (.leaf (.dat i64 v3) []):=by kernel_rfl
end T142
namespace T138
def T(s:Z):Tr:=tree iB false 9 138<|Ag ([zl]) s
def L1(v0:Z)(v3:Bool):Tr:=re ((T []).L.L.L.L)<|Aw 40 [(0,.dat zl v0),(2,.ptr 0 0),(3,.dat zw v3),(4,.nil)] [(0,.box [.bl false,.nil])] 1
def L2(v0:Z):Tr:=re ((T []).R)<|Aw 40 [(0,.dat zl v0),(2,.ptr 0 0),(3,.bl false),(4,.nil)] [(0,.box [.bl false,.nil])] 1
theorem Aj(s:Z):T s=let a:=(↑(zp<|getD s 0 (0:UInt8)):Int)==45;.di ((length s:Int)>0) (.cd (0<(length s:Int))<|.ite a (.ck (decide (1<=length s)&&decide (length s<=length s))<|L1 (take (z8 (length s) 1)<|drop 1 s) a)<|L1 s a) (L2 s):=by kernel_rfl
def L3(v0:Z)(v3:Bool)(a:Nat)(o1:List Int):Tr:=re ((stepT iB<|L1 [] false).L.L.L.L.L)<|Aw 40 [(0,.dat zl v0),(2,.ptr 0 0),(3,.dat zw v3),(4,.sl 1 1 0 a none)] [(1,.arr false 3 i64 o1),(0,.box [.bl false,.nil])] 2
theorem Ak(v0:Z)(v3:Bool):stepT iB (L1 v0 v3)=let b':=aa 8;let b:=(length v0:Int);let a:=zc .i64<|b-9;let c:=decide (0<=zc .i64 (b-9));let d:=take (z8 (length v0)<|toNat a)<|drop (toNat a) v0;let e:=decide (toNat a<=length v0);.di (b>9) (.ck (c&&true&&e&&decide (length v0<=length v0))<|.ck (Ee d)<|.ck b'<|.ck (c&&decide (0<=toNat a)&&e)<|L3 (take (toNat a) v0) v3 1<|[B2 d]) (.ck (Ee v0)<|.ck b'<|.ck (decide (0+1<=1)&&true&&decide (1<=20000))<|.leaf (yc [.dat zw<|CQ v3 [B2 v0],.dat (zi i64)<|AA [B2 v0]]) []):=by kernel_rfl
def L4(v0:Z)(a:Nat)(o1:List Int):Tr:=re ((stepT iB<|L2 []).L.L.L.L.L)<|Aw 40 [(0,.dat zl v0),(2,.ptr 0 0),(3,.bl false),(4,.sl 1 1 0 a none)] [(1,.arr false 3 i64 o1),(0,.box [.bl false,.nil])] 2
theorem Az(v0:Z):stepT iB (L2 v0)=let b':=aa 8;let b:=(length v0:Int);let a:=zc .i64<|b-9;let c:=decide (0<=zc .i64 (b-9));let d:=take (z8 (length v0)<|toNat a)<|drop (toNat a) v0;let e:=decide (toNat a<=length v0);.di (b>9) (.ck (c&&true&&e&&decide (length v0<=length v0))<|.ck (Ee d)<|.ck b'<|.ck (c&&decide (0<=toNat a)&&e)<|L4 (take (toNat a) v0) 1<|[B2 d]) (.ck (Ee v0)<|.ck b'<|.ck (decide (0+1<=1)&&true&&decide (1<=20000))<|.leaf (yc [.dat zw<|CQ false [B2 v0],.dat (zi i64)<|AA [B2 v0]]) []):=by kernel_rfl
theorem Bq(v0:Z)(v3:Bool)(a:Nat)(o1:List Int):stepT iB (L3 v0 v3 a o1)=let b':=ac a (length o1) 8;let c:=take (zt a 1)<|o1++[B2 v0];let d:=(length v0:Int);let b:=zc .i64<|d-9;let f:=decide (0<=zc .i64 (d-9));let e:=take (z8 (length v0)<|toNat b)<|drop (toNat b) v0;let g:=decide (toNat b<=length v0);.di (d>9) (.ck (f&&true&&g&&decide (length v0<=length v0))<|.ck (Ee e)<|.ck b'<|.ck (f&&decide (0<=toNat b)&&g)<|L3 (take (toNat b) v0) v3 (zt a 1)<|o1++[B2 e]) (.ck (Ee v0)<|.ck b'<|.ck (decide (0+zt a 1<=length (o1++[B2 v0]))&&true&&decide (length c<=20000))<|.leaf (yc [.dat zw<|CQ v3 c,.dat (zi i64)<|AA c]) []):=by kernel_rfl
theorem Ck(v0:Z)(a:Nat)(o1:List Int):stepT iB (L4 v0 a o1)=let b':=ac a (length o1) 8;let c:=take (zt a 1)<|o1++[B2 v0];let d:=(length v0:Int);let b:=zc .i64<|d-9;let f:=decide (0<=zc .i64 (d-9));let e:=take (z8 (length v0)<|toNat b)<|drop (toNat b) v0;let g:=decide (toNat b<=length v0);.di (d>9) (.ck (f&&true&&g&&decide (length v0<=length v0))<|.ck (Ee e)<|.ck b'<|.ck (f&&decide (0<=toNat b)&&g)<|L4 (take (toNat b) v0) (zt a 1)<|o1++[B2 e]) (.ck (Ee v0)<|.ck b'<|.ck (decide (0+zt a 1<=length (o1++[B2 v0]))&&true&&decide (length c<=20000))<|.leaf (yc [.dat zw<|CQ false c,.dat (zi i64)<|AA c]) []):=by kernel_rfl
end T138
namespace T68n
def T(n:Int):Tr:=tree XF0 false 9 68<|Ag ([zq qe]) n
theorem Aj(n:Int):T n=.leaf (yc [.dat i64 n,.nil]) []:=by kernel_rfl
end T68n
namespace T184
def T(a b:AM):Tr:=tree XF1 false 9 184<|Ag ([A3,A3]) (a,b)
def L1(e:Bool)(b c:List Int)(f o1 d:Int)(a:List Int):Tr:=re ((T (0,[]) (0,[])).L.L.R.L.L.L)<|Aw 84 [(3,.ptr 0 0),(4,.ptr 1 0),(5,.ptr 2 0),(8,.dat zw e),(12,.dat (zi<|zq zg) b),(13,.dat (zi<|zq zg) c)] [(2,.box [.dat i64 f,.nil]),(1,.box [.dat i64 o1,.nil]),(0,.box [.dat i64 d,.dat wU a])] 3
theorem Aj(a b:AM):T a b=let b':=BF<|Ah<|Sp.vI a;let c:=BF<|Ah<|Sp.vI b;let e:=qh (fst a)<|fst b;let d:Tr:=.ck (Sp.Dy a)<|.ck (Sp.Dy b)<|.ck (TY b' c)<|L1 (decide (Sp.vI a<0)) (BF<|Av b'/Av c) (BF<|Av b' % Av c) 0 0 (fst b)<|snd b;.ite (!decide (0<length (snd a))) (.ite (!decide (0<length (snd b))) (.ite (fst a !=(-9223372036854775808)) (.cd (fst b≠0)<|.cd (fst b≠0)<|.di (yz (fst a) (fst b)<0) (.leaf (.tup [yc [.dat i64<|zc .i64<|zc .i64 e-1,.nil],yc [.dat i64<|zc .i64<|yz (fst a) (fst b)+fst b,.nil]]) [])<|.leaf (.tup [yc [.dat i64<|zc .i64 e,.nil],yc [.dat i64<|yz (fst a)<|fst b,.nil]]) []) d) d) d:=by kernel_rfl
def L2(d:Int)(c:List Int)(g:Int)(b:List Int)(f o1 e:Int)(a:List Int):Tr:=re ((stepT XF1<|L1 false [] [] 0 0 0 []).L.L)<|Aw 84 [(3,.ptr 0 0),(4,.ptr 1 0),(5,.ptr 2 0),(14,.ptr 3 0),(15,.ptr 4 0)] [(4,.box [.dat i64 d,.dat wU c]),(3,.box [.dat i64 g,.dat wU b]),(2,.box [.dat i64 f,.nil]),(1,.box [.dat i64 o1,.nil]),(0,.box [.dat i64 e,.dat wU a])] 5
theorem Ak(d:Bool)(c b:List Int)(g o1 f:Int)(a:List Int):stepT XF1 (L1 d c b g o1 f a)=let e:=Sp.sg d<|Av b;let b':=Sp.sg d<|Av c;.ck (Cz c) (.ck (Cz b)<|L2 (C9 e) (C8 e) (C9 b') (C8 b') g o1 f a):=by kernel_rfl
theorem Az(d:Int)(a:List Int)(e:Int)(b:List Int)(g o1 f:Int)(c:List Int):stepT XF1 (L2 d a e b g o1 f c)=.ck (Sp.Dy (d,a)) (.di (IK (d,a)<0) (.ck true<|.ck (Bd (e,b)&&Bd (1,BL 1))<|.ck (Bd (d,a)&&Bd (f,c))<|.leaf (.tup [yc [.dat i64<|ZB (e,b) (1,BL 1),.dat wU<|ZJ (e,b) (1,BL 1)],yc [.dat i64<|KO (d,a) (f,c),.dat wU<|KR (d,a) (f,c)]]) [])<|.leaf (.tup [yc [.dat i64 e,.dat wU b],yc [.dat i64 d,.dat wU a]]) []):=by kernel_rfl
end T184
namespace T171
def T(a b:AM):Tr:=tree XF2 false 9 171<|Ag ([A3,A3]) (a,b)
def L1(d o1:Int)(a:List Int)(c:Int)(b:List Int):Tr:=re ((T (0,[]) (0,[])).L.L)<|Aw 23 [(2,.ptr 0 0),(3,.ptr 1 0),(4,.ptr 2 0)] [(2,.box [.dat i64 d,.nil]),(1,.box [.dat i64 o1,.dat wU a]),(0,.box [.dat i64 c,.dat wU b])] 3
theorem Aj(a b:AM):T a b=.ck (Sp.Dy a) (.ck (Sp.Dy b)<|L1 0 (Ru b) (QD b) (Ru a)<|QD a):=by kernel_rfl
theorem Ak(d o1:Int)(a:List Int)(c:Int)(b:List Int):stepT XF2 (L1 d o1 a c b)=.ck (Sp.Dy (o1,a)) (.ite (IK (o1,a) !=0) (.ck (Bd (c,b)&&Bd (o1,a)&&decide (0<Sp.vI (o1,a)))<|L1 d (tU (c,b) (o1,a)) (mC (c,b) (o1,a)) o1 a)<|.leaf (yc [.dat i64 c,.dat wU b]) []):=by kernel_rfl
end T171
namespace T199
def T(a:AM)(k:Int):Tr:=tree XF3 false 9 199<|Ag ([A3,zq qe]) (a,k)
def L1(v1 d:Int)(b:List Int)(o1 c:Int)(a:List Int):Tr:=re ((T (0,[]) 0).L)<|Aw 23 [(1,.dat i64 v1),(2,.ptr 0 0),(4,.ptr 1 0),(5,.ptr 2 0)] [(2,.box [.dat i64 d,.dat wU b]),(1,.box [.dat i64 o1,.nil]),(0,.box [.dat i64 c,.dat wU a])] 3
theorem Aj(a:AM)(k:Int):T a k=.ck true (L1 k 1 (BL 1) 0 (fst a)<|snd a):=by kernel_rfl
theorem Ak(v1 d:Int)(b:List Int)(o1 c:Int)(a:List Int):stepT XF3 (L1 v1 d b o1 c a)=let e:=qi v1<|2^1;let b':=Bd (c,a)&&Bd (c,a);let g:=Fx (d,b) (c,a);let f:=Fy (d,b) (c,a);let h:=Fx (c,a) (c,a);let i:=Fy (c,a) (c,a);.di (v1>0) (.ite (Iv qe v1 1==1) (.ck (Bd (d,b)&&Bd (c,a))<|.di (v1>1) (.ck b'<|.ck true<|L1 e g f o1 h i)<|.ck true<|L1 e g f o1 c a)<|.di (v1>1) (.ck b'<|.ck true<|L1 e d b o1 h i)<|.ck true<|L1 e d b o1 c a) (.leaf (yc [.dat i64 d,.dat wU b]) []):=by kernel_rfl
end T199
namespace T210
def T(a b:List Int):Tr:=tree Kw false 9 210<|Ag ([zi<|zq zg,zi<|zq zg]) (a,b)
def L1(v0 v1:List Int)(a:Nat)(c b:Int)(d:List Int):Tr:=re ((T [] []).L.R.L.L)<|Aw 137 [(0,.dat (zi<|zq zg) v0),(1,.dat (zi<|zq zg) v1),(6,.sl 0 1 0 a none),(7,.dat (zq zg) c),(8,.dat i64 b)] [(0,.arr false 217 (zq zg) d)] 1
def L2(a b:List Int)(v1:Int)(d:Nat)(f:List Int)(e c:Int)(g:List Int):Tr:=re ((T a b).L.R.R.L.L.L)<|Aw 40 [(1,.dat i64 v1),(5,.sl 0 1 0 d none),(12,.dat (zi<|zq zg) f),(13,.dat i64 e),(14,.dat i64 c)] [(0,.arr false 217 (zq zg) g)] 1
theorem Aj(a b:List Int):T a b=let c:=(length b:Int);let b':=(length a:Int);let d:=zc .i64<|c+1;let e:=getD b (toNat<|zc .i64<|c-1) 0;.ck (Cz a&&Cz b) (.di (Cp (Av a) (Av b)<0) (.leaf (.tup [.nil,.dat (zi<|zq zg) a]) [])<|.ite (c==1) (.ck (decide (0<=b')&&decide (b'=b')&&decide (8*toNat b'<=281474976710656)&&decide (b'<9223372036854775808))<|L1 a b (toNat b') 0 (zc .i64<|b'-1)<|replicate (toNat b') 0)<|.ck (decide (0<=zc .i64 (c-1))&&decide (zc .i64 (c-1)<c))<|.ck (zx e)<|.ck (decide (0<=zc .i64 (c+1))&&decide (zc .i64 (c+1)=zc .i64 (c+1))&&decide (8*toNat d<=281474976710656)&&decide (zc .i64 (c+1)<9223372036854775808))<|L2 a b (Sp.lz e) (toNat d) b c 0<|replicate (toNat d) 0):=by kernel_rfl
theorem Ak(v0 v1:List Int)(a:Nat)(c b:Int)(d:List Int):stepT Kw (L1 v0 v1 a c b d)=let e:=getD v0 (toNat b) 0;let b':=zi<|zq zg;.di (b>=0) (.ck (decide (0<=b)&&decide (b<(length v0:Int)))<|.cd (0<(length v1:Int))<|.ck (zx c&&zx e&&zx (getD v1 0 0)&&decide (c<getD v1 0 0))<|.ck (decide (0<=b)&&decide (b<(↑a:Int)))<|.cd (toNat b<length d)<|L1 v0 v1 a (Sp.dr c e<|getD v1 0 0) (zc .i64<|b-1)<|set d (toNat b)<|Sp.dq c e<|getD v1 0 0) (.ck (decide (0+a<=length d)&&true&&De (take a d))<|.ck (decide (1<=1)&&true&&De [c])<|.leaf (.tup [.dat b'<|AA<|take a d,.dat b'<|AA [c]]) []):=by kernel_rfl
def L3(a b:List Int)(v1:Int)(l:Nat)(h:List Int)(i j:Int)(m:List Int)(g:Int)(c:Nat)(f:List Int)(d:Int)(e:Int)(o1:List Int)(k:List Int):Tr:=re ((stepT Kw<|L2 a b v1 l h i j m).R.L.L)<|Aw 40 [(1,.dat i64 g),(5,.sl 1 1 0 c none),(12,.dat (zi<|zq zg) f),(13,.dat i64 d),(14,.dat i64 e)] [(1,.arr false 217 (zq zg) o1),(0,.arr true 217 (zq zg) k)] 2
theorem Az(a b:List Int)(v1:Int)(d:Nat)(e:List Int)(f c:Int)(g:List Int):stepT Kw (L2 a b v1 d e f c g)=let j:=set g (toNat c)<|dX zg (getD g (toNat c) 0)<|zc .u64<|getD e (toNat c) 0*2^yx (toNat v1) 64;let b':=(length a:Int)+1;let h:=zc .i64<|c+1;let k:=decide (0<=c)&&decide (c<(↑d:Int));let l:=decide (toNat c<length g);let i:=zc .i64 b';.di (c<f) (.ck (decide (0<=c)&&decide (c<(length e:Int)))<|.ck k<|.ck l<|.cd (0<=v1)<|.ck k<|.ck l<|.di (v1>0) (.cd (0<=zc .i64 (64-v1))<|.ck (decide (0<=zc .i64 (c+1))&&decide (zc .i64 (c+1)<(↑d:Int)))<|.cd (toNat h<length j)<|L2 a b v1 d e f h<|set j (toNat h)<|qi (getD e (toNat c) 0)<|2^yx (toNat<|zc .i64<|64-v1) 64)<|L2 a b v1 d e f h j) (.ck (decide (0+d<=length g)&&true&&De (take d g))<|.ck (decide (0<=zc .i64 b')&&decide (zc .i64 b'=zc .i64 b')&&decide (8*toNat i<=281474976710656)&&decide (zc .i64 b'<9223372036854775808))<|L3 a b v1 d e f c g (Sp.lz<|getD b (toNat<|zc .i64<|(length b:Int)-1) 0) (toNat i) a ((length a:Int)) 0 (replicate (toNat i) 0) g):=by kernel_rfl
def L4(v9:Int)(c:List Int)(b:Nat)(d:Int)(a:Nat)(e:Int)(o1 f:List Int):Tr:=re ((stepT Kw<|L3 [] [] 0 0 [] 0 0 [] 0 0 [] 0 0 [] []).R.L)<|Aw 137 [(9,.dat i64 v9),(10,.dat (zi<|zq zg) c),(11,.sl 0 1 0 b none),(12,.dat i64 d),(13,.sl 1 1 0 a none),(14,.dat i64 e)] [(1,.arr false 217 (zq zg) o1),(0,.arr false 217 (zq zg) f)] 2
theorem Bq(a b:List Int)(v1:Int)(h:Nat)(k:List Int)(i j:Int)(n:List Int)(f:Int)(d:Nat)(e:List Int)(g:Int)(c:Int)(o1:List Int)(l:List Int):stepT Kw (L3 a b v1 h k i j n f d e g c o1 l)=let b':=set o1 (toNat c)<|dX zg (getD o1 (toNat c) 0)<|zc .u64<|getD e (toNat c) 0*2^yx (toNat f) 64;let o:=zc .i64<|c+1;let r:=decide (0<=c)&&decide (c<(↑d:Int));let s:=decide (toNat c<length o1);let h':=AA<|take h n;let q:=(↑(length h'):Int);let m:=zc .i64 ((length a:Int)-q)+1;let p:=zc .i64 m;.di (c<g) (.ck (decide (0<=c)&&decide (c<(↑(length e):Int)))<|.ck r<|.ck s<|.cd (0<=f)<|.ck r<|.ck s<|.di (f>0) (.cd (0<=zc .i64 (64-f))<|.ck (decide (0<=zc .i64 (c+1))&&decide (zc .i64 (c+1)<(↑d:Int)))<|.cd (toNat o<length b')<|L3 a b v1 h k i j n f d e g o (set b' (toNat o)<|qi (getD e (toNat c) 0)<|2^yx (toNat<|zc .i64<|64-f) 64) l)<|L3 a b v1 h k i j n f d e g o b' l) (.ck (decide (0<=zc .i64 m)&&decide (zc .i64 m=zc .i64 m)&&decide (8*toNat p<=281474976710656)&&decide (zc .i64 m<9223372036854775808))<|L4 (Sp.lz<|getD b (toNat<|zc .i64<|(length b:Int)-1) 0) h' d q (toNat p) (zc .i64<|(length a:Int)-q) (replicate (toNat p) 0) o1):=by kernel_rfl
def L5(v9:Int)(j:List Int)(b:Nat)(e:Int)(a:Nat)(g:Int)(o1 m:List Int)(c i f:Nat)(v1:List Int)(v5 n l k:Int)(d:List Int)(h:List Int):Tr:=re ((stepT Kw<|L4 v9 j b e a g o1 m).L.L.L.L.L.L.L.L.L.L)<|Aw 186 [(0,.sl 0 1 c i<|Option.some f),(1,.dat (zi<|zq zg) v1),(5,.dat i64 v5),(6,.dat (zq zg) n),(7,.dat (zq zg) l),(8,.dat (zq zg) k)] [(1,.arr false 217 (zq zg) d),(0,.arr false 217 (zq zg) h)] 2
def L6(v9:Int)(b:Nat)(e:Int)(a:Nat)(d c:Int)(o1 f:List Int):Tr:=re ((stepT Kw<|L4 0 [] 0 0 0 0 [] []).R)<|Aw 137 [(9,.dat i64 v9),(11,.sl 0 1 0 b none),(12,.dat i64 e),(13,.sl 1 1 0 a none),(96,.dat i64 d),(97,.dat i64 c)] [(1,.arr false 217 (zq zg) o1),(0,.arr false 217 (zq zg) f)] 2
theorem Ck(v9:Int)(c:List Int)(a:Nat)(e:Int)(d:Nat)(b:Int)(o1 f:List Int):stepT Kw (L4 v9 c a e d b o1 f)=let g:=(length c:Int);let i:=zt 0<|toNat b;let o:=z8 (yb none a)<|toNat b;let p':=zc .i64 (b+e)+1;let k:=toNat<|zc .i64<|g-1;let n:=zc .i64 p';let h':=zt (toNat g) i;let l':=decide (zt (toNat g) i<length f);let n':=decide (0<=zc .i64 (g-1));let b':=z8 (toNat n)<|toNat b;let l:=n'&&decide (zc .i64 (g-1)<g);let h:=getD f (zt k i) 0;let j:=getD c k 0;let o':=decide (zt k i<length f);let m:=getD f h' 0;let q:=n'&&decide (zc .i64 (g-1)<(↑b':Int));let p:=decide (0<=g)&&decide (g<(↑b':Int));.di (b>=0) (.ck (decide (0<=b)&&decide (0<=zc .i64 p')&&true&&decide (toNat b<=toNat n)&&decide (toNat n<=yb none a)&&decide (yb none a<=yb none a)&&true)<|.ck p<|.ck l'<|.ck l<|.di (getD f h' 0>=getD c k 0) (.ck q<|.ck o'<|.ck l<|.ck (zx h&&zx j&&decide ((0:qv (BE [u64]))<=0)&&decide (0<=(1:qv (BE [u64]))))<|L5 v9 c a e d b o1 f i b' o c g 18446744073709551615 (IF h j 0) (PL h j 0) o1 f)<|.ck p<|.ck l'<|.ck q<|.ck o'<|.ck l<|.ck (zx m&&zx h&&zx j&&decide (getD f h' 0<getD c k 0))<|L5 v9 c a e d b o1 f i b' o c g (Sp.dq m h j) (Sp.dr m h j) 0 o1 f) (L6 v9 a e d e 0 o1 f):=by kernel_rfl
def L7(v9:Int)(n:List Int)(e:Nat)(k:Int)(d:Nat)(g:Int)(o1 o:List Int)(i h f:Nat)(v1:List Int)(v5 p l:Int)(b:Int)(c a:Int)(j:List Int)(m:List Int):Tr:=re ((stepT Kw<|L5 v9 n e k d g o1 o 0 0 0 [] 0 0 0 0 [] []).L.L.L.L)<|Aw 186 [(0,.sl 0 1 i h<|Option.some f),(1,.dat (zi<|zq zg) v1),(5,.dat i64 v5),(6,.dat (zq zg) p),(11,.dat (zq zg) l),(12,.dat (zq zg) b),(104,.dat i64 c),(105,.dat i64 a)] [(1,.arr false 217 (zq zg) j),(0,.arr false 217 (zq zg) m)] 2
theorem EF(v9:Int)(k:List Int)(c:Nat)(j:Int)(a:Nat)(g:Int)(o1 o:List Int)(b e f:Nat)(v1:List Int)(v5 h l s:Int)(i:List Int)(d:List Int):stepT Kw (L5 v9 k c j a g o1 o b e f v1 v5 h l s i d)=let b':=toNat<|zc .i64<|v5-2;let p:=L7 v9 k c j a g o1 o b e f v1 v5 h 0 0 v5 0 i d;let n:=getD v1 (toNat<|zc .i64<|v5-1) 0;let q:=decide (0<=zc .i64 (v5-2));let r:Tr:=.ck (decide (0<=zc .i64 (v5-1))&&decide (zc .i64 (v5-1)<(length v1:Int)))<|.ck (zx l&&zx n&&decide ((0:qv (BE [u64]))<=0)&&decide (0<=(1:qv (BE [u64]))))<|L5 v9 k c j a g o1 o b e f v1 v5 (zc .u64<|h-1) (IF l n 0) (PL l n 0) i d;let m:=getD v1 b' 0;.ite (s==0) (.ck (q&&decide (zc .i64 (v5-2)<(length v1:Int)))<|.ck (zx h&&zx m)<|.di (Sb h m<l) p<|.ite (Sb h m==l) (.ck (q&&decide (zc .i64 (v5-2)<(↑e:Int)))<|.cd (zt b' b<length d)<|.di (IT h m<=getD d (zt b' b) 0) p r) r) p:=by kernel_rfl
theorem E2(v9:Int)(b:Nat)(d:Int)(c:Nat)(e a:Int)(o1 f:List Int):stepT Kw (L6 v9 b d c e a o1 f)=let g:=set f (toNat a)<|qi (getD f (toNat a) 0)<|2^yx (toNat v9) 64;let b':=decide (0<=a)&&decide (a<(↑b:Int));let h:=zc .i64<|a+1;let i:=decide (zc .i64 (a+1)<(↑b:Int));let k:=decide (toNat a<length f);let h':=zi<|zq zg;let j:=L6 v9 b d c e h o1 g;let l:=decide (toNat a<length g);.di (a<e) (.ck b'<|.ck k<|.cd (0<=v9)<|.ck b'<|.ck k<|.di (v9>0) (.ite i (.ck b'<|.ck l<|.ck (decide (0<=zc .i64 (a+1))&&i)<|.cd (toNat h<length g)<|.cd (0<=zc .i64 (64-v9))<|.ck b'<|.ck l<|L6 v9 b d c e h o1<|set g (toNat a)<|dX zg (getD g (toNat a) 0)<|zc .u64<|getD g (toNat h) 0*2^yx (toNat<|zc .i64<|64-v9) 64) j) j) (.ck (decide (0<=d)&&true&&decide (0<=toNat d)&&decide (toNat d<=yb none b)&&decide (yb none b<=yb none b)&&true)<|.ck (decide (0+c<=length o1)&&true&&De (take c o1))<|.ck (decide (0+toNat d<=length f)&&true&&De (take (toNat d) f))<|.leaf (.tup [.dat h'<|AA<|take c o1,.dat h'<|AA<|take (toNat d) f]) []):=by kernel_rfl
def L8(v9:Int)(m:List Int)(d:Nat)(k:Int)(a:Nat)(f:Int)(o1 n:List Int)(h g e:Nat)(v1:List Int)(v5 o j b c:Int)(i:List Int)(l:List Int):Tr:=re ((stepT Kw<|L7 v9 m d k a f o1 n 0 0 0 [] 0 0 0 0 0 0 [] []).R.L.L.L.L.L.R)<|Aw 186 [(0,.sl 0 1 h g<|Option.some e),(1,.dat (zi<|zq zg) v1),(5,.dat i64 v5),(6,.dat (zq zg) o),(17,.dat (zq zg) j),(156,.dat i64 b),(157,.dat i64 c)] [(1,.arr false 217 (zq zg) i),(0,.arr false 217 (zq zg) l)] 2
theorem DW(v9:Int)(m:List Int)(h:Nat)(l:Int)(e:Nat)(d:Int)(o1 u:List Int)(f i n:Nat)(v1:List Int)(v5 o c:Int)(b:Int)(j a:Int)(k:List Int)(g:List Int):stepT Kw (L7 v9 m h l e d o1 u f i n v1 v5 o c b j a k g)=let b':=zt (toNat v5) f;let p:=getD v1 (toNat a) 0;let y:=decide (zt (toNat a) f<length g);let z:=decide (zt (toNat v5) f<length g);let h':=decide (0<=a)&&decide (a<(↑i:Int));let q:=(0:qv (BE [u64]));let r:=(1:qv (BE [u64]));let w:=decide (0<=v5)&&decide (v5<(↑i:Int));let n':=zt (toNat a) f;let t:=IT o p;let v:=getD g n' 0;let s:=getD g b' 0;let x:=set g b'<|Vg s b c;let l':=IF t b 0;.di (a<j) (.ck (decide (0<=a)&&decide (a<(length v1:Int)))<|.ck (zx o&&zx p)<|.ck (zx t&&zx b&&decide (q<=0)&&decide (0<=r))<|.ck h'<|.ck y<|.ck (zx v&&zx l'&&decide (q<=c)&&decide (c<=r))<|.ck h'<|.ck y<|L7 v9 m h l e d o1 u f i n v1 v5 o (RF v l' c) (zc .u64<|Sb o p+PL t b 0) j (zc .i64<|a+1) k<|set g n'<|Vg v l' c) (.ck w<|.ck z<|.ck (zx s&&zx b&&decide (q<=c)&&decide (c<=r))<|.ck w<|.ck z<|.ite (RF s b c==0) (.ck (decide (0<=d)&&decide (d<(↑e:Int)))<|.cd (toNat d<length k)<|L4 v9 m h l e (zc .i64<|d-1) (set k (toNat d) o) x)<|L8 v9 m h l e d o1 u f i n v1 v5 o 0 v5 0 k x):=by kernel_rfl
theorem HH(v9:Int)(l:List Int)(h:Nat)(k:Int)(d:Nat)(b:Int)(o1 s:List Int)(e i m:Nat)(v1:List Int)(v5 o f g a:Int)(j:List Int)(c:List Int):stepT Kw (L8 v9 l h k d b o1 s e i m v1 v5 o f g a j c)=let b':=decide (zt (toNat a) e<length c);let p:=getD v1 (toNat a) 0;let q:=decide (zt (toNat v5) e<length c);let t:=decide (0<=a)&&decide (a<(↑i:Int));let r:=decide (0<=v5)&&decide (v5<(↑i:Int));let u:=zt (toNat a) e;let h':=zt (toNat v5) e;let n:=getD c u 0;.di (a<g) (.ck t<|.ck b'<|.ck (decide (0<=a)&&decide (a<(length v1:Int)))<|.ck (zx n&&zx p&&decide ((0:qv (BE [u64]))<=f)&&decide (f<=(1:qv (BE [u64]))))<|.ck t<|.ck b'<|L8 v9 l h k d b o1 s e i m v1 v5 o (PL n p f) g (zc .i64<|a+1) j<|set c u<|IF n p f) (.ck r<|.ck q<|.ck r<|.ck q<|.ck (decide (0<=b)&&decide (b<(↑d:Int)))<|.cd (toNat b<length j)<|L4 v9 l h k d (zc .i64<|b-1) (set j (toNat b)<|zc .u64<|o-1)<|set c h'<|zc .u64<|getD c h' 0+f):=by kernel_rfl
end T210
end
namespace T210
theorem dqr{r x d:Int}(a:0<d)(hr:0<=r/\r<d)(b:0<=x/\x<18446744073709551616):Sp.dq r x d*d+Sp.dr r x d=r*18446744073709551616+x/\0<=Sp.dq r x d/\Sp.dq r x d<18446744073709551616/\0<=Sp.dr r x d/\Sp.dr r x d<d:=by
 unfold Sp.dq Sp.dr;have h:=yp (r*18446744073709551616+x) d;rw[zk]at h;refine⟨h,qn ae ae,yq a ae,yw _ ae,y7 _ a⟩
theorem Ar(a:List Int)(d:Int)(j:AB Ap a)(f:0<d/\d<18446744073709551616)(n:a.length<=20000)(g:∀q r ob,AB Ap q->(0<=r/\r<d)->Av a=Av q*d+r->Q (.tup [.dat DG<|AA q,.dat DG<|AA [r]]) ob):∀(i:Nat) (q:List Int) (r:Int),i+q.length=a.length->AB Ap q->(0<=r/\r<d)->zd Ap (a.drop i)=zd Ap q*d+r->
  Ends Kw (L1 a [d] a.length r ((i:Int)-1)<|zm i 0++q) Q
 |0,q,r,l,b,hr,e=>by
  have m:((zm 0 0++q).take a.length)=q:=by
   rw[List.replicate_zero,List.nil_append];exact zy ae
  refine yg (Ak ..) (qq (by simp) ?_);rw[m];refine ze (Ab (by simp;omega)<|ER ae b) (ze (Ab rfl (ER (by simp)<|fun x c=>by rw[List.mem_singleton]at c;subst c;exact⟨hr.1,by show x<18446744073709551616;omega⟩))<|Ends.leaf<|g q r _ b hr e)
 |i+1,q,r,l,b,hr,e=>by
  have k:(((i+1:Nat):Int)-1)=(i:Int):=ae
  have h:=A0 j i;obtain⟨v,p,u,o,t⟩:=dqr f.1 hr<|yk h;have s:a.drop i=a.getD i 0::a.drop (i+1):=by
   rw[zu,yd ae];exact qd ae
  have es:∀x,(zm (i+1) (0:Int)++q).set i x=zm i 0++(x::q):=by
   intro x;rw[List.replicate_succ',z7];exact DQ _ _ _ _ (by simp)
  rw[k];refine yg (Ak ..) (ze (by simp) ?_);rw[zf,es,wr ((i:Int)-1) ae ae];refine ze (by simp;omega) (ze (by simp) (ze ?_ (ze (by simp;omega)<|ze (by simp;omega) ?_)))
  ·exact Ab (Ab (Ab (C3 hr.1 ae) h)<|C3 (by show 0<=d;omega) f.2)<|w4 hr.2
  ·refine Ar a d j f n g i _ _ (by simp;omega) (fun x c=>?_) ⟨o,t⟩ ?_
   ·rcases List.mem_cons.1 c with rfl|c
    ·exact⟨p,u⟩
    ·exact b x c
   ·rw[s];show a.getD i 0+(18446744073709551616:Int)*zd Ap (a.drop<|i+1)=(Sp.dq r (a.getD i 0) d+(18446744073709551616:Int)*zd Ap q)*d+Sp.dr r (a.getD i 0) d;rw[e,zz,zr,zj];omega
end T210
end Go.Pe
namespace Go.Sp
theorem VL{B P u0 u1 u2 a v1 v2 v' q r:Int}(c:0<P)(d:0<=v')(l:a<P)(f:0<=q)(i:q*v1+r=u0*B+u1)(h:r*B+u2<q*v2):
  ((u0*B+u1)*B+u2)*P+a<q*((v1*B+v2)*P+v'):=by
 have e:q*(v1*B+v2)=q*v1*B+q*v2:=by rw[zr,zj]
 have g:(u0*B+u1)*B=q*v1*B+r*B:=by rw[<-i,zz]
 have b:(u0*B+u1)*B+u2+1<=q*(v1*B+v2):=by rw[e,g];omega
 have j:=zh b<|zn c;have k:0<=q*v':=ye f d;rw[zr q, <-zj];rw[zz,z6]at j;omega
theorem Xa{B P u0 u1 u2 c v1 v2 v' q r:Int}(a:0<P)(j:0<=v'/\v'<P)(n:0<=c)(l:0<=q/\q<B)(b:1<=v1)(d:0<=v2)(i:q*v1+r=u0*B+u1)(h:q*v2<=r*B+u2):
  q*((v1*B+v2)*P+v')<((u0*B+u1)*B+u2)*P+c+((v1*B+v2)*P+v'):=by
 have e:q*(v1*B+v2)=q*v1*B+q*v2:=by rw[zr,zj]
 have m:(u0*B+u1)*B=q*v1*B+r*B:=by rw[<-i,zz]
 have f:q*(v1*B+v2)<=(u0*B+u1)*B+u2:=by rw[e,m];omega
 have p:=zh f<|zn a;have g:q*v'<=(B-1)*P:=Int.le_trans (zo (zn j.2) l.1) (zh ae<|zn a);have k:B<=v1*B+v2:=by
  have:=zh b (show 0<=B by omega);omega
 have o:=zh k<|zn a;rw[qf,z6]at g;rw[zr q, <-zj];omega
theorem Iw(b:Int):∀(l:List Int) (i:Nat) (x:Int),i<l.length->val b (l.set i x)=val b l+b^i*(x-l.getD i 0)
 |[],i,x,h=>by simp at h
 |d::l,0,x,_=>by
  show x+b*val b l=d+b*val b l+b^0*(x-d);rw[qt,z6];omega
 |d::l,i+1,x,h=>by
  have:=Iw b l i x (by simpa using h);show d+b*val b (l.set i x)=d+b*val b l+b^(i+1)*(x-l.getD i 0);rw[this,zr,yj,zk (b^i) b,zj,yt]
theorem HF{b:Int}{l:List Int}(h:AB b l)(i:Nat){x:Int}(c:0<=x/\x<b):AB b (l.set i x):=by
 intro d a;rcases List.mem_or_eq_of_mem_set a with a|rfl
 ·exact h d a
 ·exact c
theorem FI{b:Int}{l r:List Int}(c:AB b l)(e:AB b r):AB b (l++r):=by
 intro d a;rcases qo.1 a with a|a
 ·exact c d a
 ·exact e d a
theorem Li{b:Int}(c:0<b){l:List Int}(h:AB b l)(i:Nat):0<=l.getD i 0/\l.getD i 0<b:=by
 rcases Nat.lt_or_ge i l.length with a|a
 ·have:l.getD i 0∈l:=by rw[zu,yd a];exact List.getElem_mem a
  exact h _ this
 ·rw[zu,List.getElem?_eq_none a];exact⟨qg _,c⟩
theorem CB{l:List Int}{i:Nat}(h:i<l.length):l.drop i=l.getD i 0::l.drop (i+1):=by
 rw[zu,yd h];exact qd h
theorem HB(p r:List Int)(i j:Nat)(h:p.length=j):(p++r).getD (i+j) 0=r.getD i 0:=by
 subst h;rw[zu,zu,List.getElem?_append_right ae,y8]
theorem T2(p r:List Int)(i j:Nat)(x:Int)(h:p.length=j):(p++r).set (i+j) x=p++r.set i x:=by
 subst h;rw[List.set_append_right _ _ ae,y8]
theorem yN(b:Int)(r:List Int)(k:Nat)(c:k+3<=r.length)(f:val b (r.drop<|k+3)=0):
  val b r=((r.getD (k+2) 0*b+r.getD (k+1) 0)*b+r.getD k 0)*b^k+val b (r.take k):=by
 have a:b^(k+1)=b^k*b:=yj ..;have d:b^(k+2)=b^k*b*b:=by rw[<-a];exact yj ..
 rw[CA b r (k+3) c,f,AK,AK,AK,a,d,qj,yy];generalize b^k=P;generalize r.getD (k+2) 0=x;generalize r.getD (k+1) 0=y;generalize r.getD k 0=z;have g:P*b*b*x=x*b*b*P:=by rw[zk (P*b*b) x,zk P b,zj b P b,zk P b, <-zj, <-zj]
 have i:P*b*y=y*b*P:=by rw[zk (P*b) y,zk P b,zj]
 have h:P*z=z*P:=zk _ _;have e:((x*b+y)*b+z)*P=x*b*b*P+y*b*P+z*P:=by rw[zz,zz,zz]
 rw[e];omega
theorem yK(b:Int)(v:List Int)(k:Nat)(e:v.length=k+2):
  val b v=(v.getD (k+1) 0*b+v.getD k 0)*b^k+val b (v.take k):=by
 have h0:val b (v.drop<|k+2)=0:=by rw[List.drop_eq_nil_of_le ae];rfl
 have c:b^(k+1)=b^k*b:=yj ..;rw[CA b v (k+2) ae,h0,AK,AK,c,qj,yy];generalize b^k=P;generalize v.getD (k+1) 0=y;generalize v.getD k 0=z;have d:P*b*y=y*b*P:=by rw[zk (P*b) y,zk P b,zj]
 have a:P*z=z*P:=zk _ _;rw[d,a,zz];omega
theorem mH{b:Int}(f:2<=b){v:List Int}(c:AB b v)(e:nz v){k:Nat}(d:b^k<=val b v)(g:val b v<b^(k+1)):v.length=k+1:=by
 have hp:=AU (show 0<b by omega) k;have a:v≠[]:=by rintro rfl;simp[val]at d;omega
 have a1:=BC ae c;have a2:=DE ae c e a;rcases Nat.lt_trichotomy v.length (k+1)with h|h|h
 ·have:=AP (show 1<=b by omega) (show v.length<=k by omega);omega
 ·exact h
 ·have:=AP (show 1<=b by omega) (show k+1<=v.length-1 by omega);omega
theorem Km{b:Int}(e:2<=b){r:List Int}(a:AB b r){n:Nat}(c:n<=r.length)(h:val b r<b^n):val b (r.drop n)=0:=by
 have h0:=AJ (show 0<=b by omega)<|Fg a n;have d:=AJ (show 0<=b by omega)<|AT a n;rw[CA b r n c]at h;have hp:=AU (show 0<b by omega) n;rcases qk 0 (val b<|r.drop n)with g|g
 ·have:=zo (show 1<=val b (r.drop n)by omega) (show 0<=b^n by omega);omega
 ·omega
theorem SY{b:Int}(d:2<=b){r:List Int}(c:AB b r){n:Nat}(a:n<=r.length)(h:val b (r.drop n)=0):val b r<b^n:=by
 have:=BC (show 0<b by omega)<|AT c n;rw[yf,yn a]at this;rw[CA b r n a,h];omega
theorem mU{b c d x y X:Int}(l:0<c)(h:b=c*d):(x+b*(y+b*X))/c=(x/c+(y % c)*d)+b*((y+b*X)/c):=by
 subst h;have a:(x+c*d*(y+c*d*X))/c=x/c+d*(y+c*d*X):=by
  rw[zj c d,Int.add_mul_ediv_left _ _ ae]
 have j:(y+c*d*X)/c=y/c+d*X:=by
  rw[zj c d,Int.add_mul_ediv_left _ _ ae]
 have e:=yp y c;rw[a,j];have f:d*(y+c*d*X)=d*(c*(y/c)+y % c+c*d*X):=by rw[e]
 rw[f,zr,zr,zr<|c*d];have k:d*(c*(y/c))=c*d*(y/c):=by rw[<-zj,zk d c]
 have g:d*(y % c)=(y % c)*d:=zk _ _;have i:d*(c*d*X)=c*d*(d*X):=by rw[<-zj,zk d<|c*d,zj]
 rw[k,g,i];omega
theorem Vp{b c d x k:Int}(n:0<c)(f:0<d)(h:b=c*d)(j:0<=k/\k<c)(a:0<=x/\x<b):
  (x*c) % b=(x % d)*c/\(x % d)*c+k<b/\0<=(x % d)*c/\0<=x/d/\x/d<c/\(x % d)*c+b*(x/d)=x*c:=by
 subst h;have i:=yp x d;have g:=yw x (show d≠0 by omega);have l:=y7 x f;have q0:0<=x/d:=qn a.1 ae;have q1:x/d<c:=yq f (by have:=a.2;omega);have p0:0<=(x % d)*c:=ye g ae;have o:(x % d)*c<=(d-1)*c:=zh ae ae;have m:(d-1)*c=c*d-c:=by rw[qf,z6,zk]
 have e:(x % d)*c+c*d*(x/d)=x*c:=by
  conv=>rhs;rw[<-i]
  rw[zz,zj c d,zk c<|d*(x/d)];omega
 refine⟨?_,by omega,p0,q0,q1,e⟩;rw[<-e,Int.add_mul_emod_self_left];exact Int.emod_eq_of_lt p0 ae
theorem N6{B P u0 u1 u2 c v1 v2 v' q r:Int}(b:0<P)(l:0<B)(n:0<=q)(g:0<=v')(a:0<=v2)(p:c<P)(j:u2<B)(m:q*v1+r=u0*B+u1)(h:r<v1):
  ((u0*B+u1)*B+u2)*P+c<(q+1)*((v1*B+v2)*P+v'):=by
 have d:u0*B+u1+1<=(q+1)*v1:=by rw[zz,z6];omega
 have k:=zh d<|zn l;have f:(u0*B+u1)*B+u2+1<=(q+1)*v1*B:=by
  rw[zz,z6]at k;omega
 have i:=zh f<|zn b;rw[zz,z6]at i;have s:0<=(q+1)*(v2*P):=ye ae<|ye a<|zn b;have o:0<=(q+1)*v':=ye ae g;have e:(q+1)*((v1*B+v2)*P+v')=(q+1)*v1*B*P+(q+1)*(v2*P)+(q+1)*v':=by
  rw[zz<|v1*B,zr,zr];congr 2;rw[zj,zj,zj]
 rw[e];omega
end Go.Sp
namespace Go.Pe
open Sp
open Go.Det
theorem V1{q x y c b:Int}(d:zx q=true)(e:zx x=true)(j:zx y=true)(f:zx c=true)(i:0<=b/\b<=1):
  zx (IT q x)=true/\zx (IF (IT q x) c 0)=true/\zc .u64 (Sb q x+PL (IT q x) c 0)=(q*x+c)/18446744073709551616/\zx ((q*x+c)/18446744073709551616)=true/\
  zx (Vg y (IF (IT q x) c 0) b)=true/\(0<=RF y (IF (IT q x) c 0) b/\RF y (IF (IT q x) c 0) b<=1)/\
  c+b+(Vg y (IF (IT q x) c 0) b-y)=18446744073709551616*((q*x+c)/18446744073709551616+RF y (IF (IT q x) c 0) b)-q*x:=by
 have d:=yk d;have e:=yk e;have f:=yk f;have h0:0<=q*x:=ye d.1 e.1;have k:q*x<=18446744073709551615*18446744073709551615:=by
  have a:=zo (show x<=18446744073709551615 by omega) d.1;have b:=zh (show q<=18446744073709551615 by omega) (show(0:Int)<=18446744073709551615 by omega);omega
 have g:zx (IF (IT q x) c 0)=true:=by unfold IF;exact C3 ae ae
 obtain⟨s1,s2,s3⟩:=Sp.HQ j g i;refine⟨?_,g,?_,?_,s1,s2,?_⟩
 ·unfold IT;exact C3 ae ae
 ·unfold IT Sb PL;rw[MH];generalize q*x=P at*;omega
 ·generalize q*x=P at*;exact C3 ae ae
 ·generalize RF y (IF (IT q x) c 0) b=h at*;generalize Vg y (IF (IT q x) c 0) b=l at*;unfold IF IT at s3;generalize q*x=P at*;omega
namespace T210
theorem gw{lo r:List Int}{j:Nat}(h:lo.length=j)(i:Nat):(lo++r).getD (zt i j) 0=r.getD i 0:=HB lo r i j h
theorem sw{lo r:List Int}{j:Nat}(h:lo.length=j)(i:Nat)(x:Int):(lo++r).set (zt i j) x=lo++r.set i x:=T2 lo r i j x h
theorem lw{lo r:List Int}{j i:Nat}(h:lo.length=j)(a:i<r.length):decide (zt i j<(lo++r).length)=true:=by
 refine w4 ?_;show i+j<_;rw[List.length_append];omega
theorem Kc(r:List Int)(i n:Nat)(x:Int)(h:i<n):(r.set i x).drop n=r.drop n:=by
 rw[List.drop_set,wd h]
theorem CJ(v9:Int)(o:List Int)(f:Nat)(l:Int)(a:Nat)(o1 H:List Int)(p:Nat)(v:List Int)(n j:Nat)(lo:List Int)(m:Nat)(q W:Int)(h:List Int)
  (hn:v.length=n) (J:n<=9000) (Y:n+1<=m) (d:lo.length=j) (F:j<a) (w:j<h.length) (L:AB Ap v) (C:zx q=true)
  (h0:∀r:List Int,r.length=m->AB Ap r->zd Ap (r.drop<|n+1)=0->zd Ap r=W-q*zd Ap v->Ends Kw (L4 v9 o f l a (zc .i64<|(j:Int)-1) (h.set j q)<|lo++r) Q)
  (K:∀r:List Int,r.length=m->AB Ap r->zd Ap (r.drop<|n+1)=0->zd Ap r=W-q*zd Ap v+(Ap:Int)^(n+1)->Ends Kw (L8 v9 o f l a j o1 H j (n+1) p v n q 0 n 0 h<|lo++r) Q):
  ∀(k i:Nat) (r:List Int) (b c:Int),i+k=n->r.length=m->AB Ap r->zd Ap (r.drop<|n+1)=0->zx c=true->(0<=b/\b<=1)->zd Ap r=W-q*zd Ap (v.take i)+(Ap:Int)^i*(c+b)->
   Ends Kw (L7 v9 o f l a j o1 H j (n+1) p v n q b c n i h<|lo++r) Q
 |0,i,r,b,c,D,hr,u,E,A,s,G=>by
  have D:i=n:=ae
  subst D;have y:=A0 u i;obtain⟨s1,s2,s3⟩:=Sp.HQ y A s;have g:decide (zt i j<(lo++r).length)=true:=lw d ae;have t1:(decide ((0:Int)<=(i:Int))&&decide ((i:Int)<((i+1:Nat):Int)))=true:=by simp;omega
  have I:v.take i=v:=zy ae;have z:∀x:Int,0<=x/\x<18446744073709551616->(r.set i x).length=m/\AB Ap (r.set i x)/\zd Ap ((r.set i x).drop<|i+1)=0:=fun x R=>
   ⟨by simp[hr],HF u i R,by rw[Kc _ _ _ _ ae];exact E⟩
  obtain⟨M,B,O⟩:=z _<|yk s1;have ev:zd Ap (r.set i<|Vg (r.getD i 0) c b)=W-q*zd Ap v+(Ap:Int)^(i+1)*RF (r.getD i 0) c b:=by
   rw[Iw _ _ _ _ ae,G,I,LA,yt, <-zr];congr 2;omega
  refine yg (DW ..) (qq (by simp) ?_);rw[zf,zf,gw d,sw d];refine ze t1<|ze g<|ze (Ab (Ab (Ab y A)<|w4 s.1)<|w4 s.2)<|ze t1<|ze g<|ym (fun t=>?_)<|fun t=>?_
  ·have t:RF (r.getD i 0) c b=0:=by simpa using t
   refine ze (by simp;omega)<|ze (w4 w)<|h0 _ M B O ?_;rw[ev,t,qj,yy]
  ·have t:RF (r.getD i 0) c b≠0:=by simpa using t
   refine K _ M B O ?_;rw[ev,show RF (r.getD i 0) c b=1 by omega,Int.mul_one]
 |k+1,i,r,b,c,D,hr,u,E,A,s,G=>by
  have N:=A0 L i;have y:=A0 u i;obtain⟨X,U,T,S,V,P,Z⟩:=V1 C N y A s;have g:decide (zt i j<(lo++r).length)=true:=lw d ae;have t1:(decide ((0:Int)<=(i:Int))&&decide ((i:Int)<((n+1:Nat):Int)))=true:=by simp;omega
  have B:=wn (i:=i) ae;refine yg (DW ..) (ze (by simp;omega) ?_);rw[zf,gw d,sw d,T,B];refine ze (by simp;omega)<|ze (Ab C N)<|ze (Ab (Ab (Ab X A) rfl) rfl)<|ze t1<|ze g<|ze (Ab (Ab (Ab y U)<|w4 s.1)<|w4 s.2)<|ze t1<|ze g ?_;refine CJ v9 o f l a o1 H p v n j lo m q W h hn J Y d F w L C h0 K k (i+1) _ _ _ ae (by simp[hr]) (HF u i<|yk V) (by rw[Kc _ _ _ _ ae];exact E) S P ?_;rw[Iw _ _ _ _ ae,G,LA,AK,zr q,yh q];have e:(Ap:Int)^i*(c+b)+(Ap:Int)^i*(Vg (r.getD i 0) (IF (IT q<|v.getD i 0) c 0) b-r.getD i 0)=(Ap:Int)^i*(18446744073709551616*((q*v.getD i 0+c)/18446744073709551616+RF (r.getD i 0) (IF (IT q<|v.getD i 0) c 0) b))-(Ap:Int)^i*(q*v.getD i 0):=by
   rw[<-zr, <-yv,Z]
  omega
theorem F9(v9:Int)(p:List Int)(h:Nat)(o:Int)(d:Nat)(o1 J:List Int)(s:Nat)(v:List Int)(n j:Nat)(lo:List Int)(m:Nat)(q W:Int)(l:List Int)
  (R:v.length=n) (E:n<=9000) (O:n+1<=m) (a:lo.length=j) (D:j<d) (u:j<l.length) (I:AB Ap v)
  (hW:0<=W+zd Ap v)
  (h0:∀r:List Int,r.length=m->AB Ap r->zd Ap (r.drop<|n+1)=0->zd Ap r=W+zd Ap v->Ends Kw (L4 v9 p h o d (zc .i64<|(j:Int)-1) (l.set j<|zc .u64<|q-1)<|lo++r) Q):
  ∀(k i:Nat) (r:List Int) (c:Int),i+k=n->r.length=m->AB Ap r->zd Ap (r.drop<|n+1)=0->(0<=c/\c<=1)->zd Ap r=W+(Ap:Int)^(n+1)+zd Ap (v.take i)-(Ap:Int)^i*c->
   Ends Kw (L8 v9 p h o d j o1 J j (n+1) s v n q c n i l<|lo++r) Q
 |0,i,r,c,C,hr,t,y,w,z=>by
  have C:i=n:=ae
  subst C;have A:=yk<|A0 t i;have f:decide (zt i j<(lo++r).length)=true:=lw a ae;have t1:(decide ((0:Int)<=(i:Int))&&decide ((i:Int)<((i+1:Nat):Int)))=true:=by simp;omega
  have B:v.take i=v:=zy ae;have N:0<=(r.getD i 0+c) % 18446744073709551616/\(r.getD i 0+c) % 18446744073709551616<18446744073709551616:=ae
  have K:(r.set i<|(r.getD i 0+c) % 18446744073709551616).length=m:=by simp[hr]
  have x:AB Ap (r.set i<|(r.getD i 0+c) % 18446744073709551616):=HF t i N;have H:zd Ap ((r.set i<|(r.getD i 0+c) % 18446744073709551616).drop<|i+1)=0:=by rw[Kc _ _ _ _ ae];exact y
  have G:=SY (b:=Ap) af x (n:=i+1) ae H;refine yg (HH ..) (qq (by simp) ?_);rw[zf,zf,gw a,sw a,MH<|r.getD i 0+c];refine ze t1 (ze f<|ze t1<|ze f<|ze (by simp;omega)<|ze (w4 u)<|h0 _ K x H ?_);have hp:=AU (b:=Ap) af i;rw[Iw _ _ _ _ ae,z,B]at G ⊢;rcases show(r.getD i 0+c) % 18446744073709551616=r.getD i 0+c\/(r.getD i 0+c) % 18446744073709551616=r.getD i 0+c-18446744073709551616 by omega with g|g
  ·exfalso;rw[g,show r.getD i 0+c-r.getD i 0=c by omega]at G;omega
  ·have P:(Ap:Int)^(i+1)=(Ap:Int)^i*18446744073709551616:=yj ..;rw[g,show r.getD i 0+c-18446744073709551616-r.getD i 0=c-18446744073709551616 by omega,yv,P];omega
 |k+1,i,r,c,C,hr,t,y,w,z=>by
  have F:=A0 I i;have A:=A0 t i;obtain⟨M,L,S⟩:=MQ A F w;have f:decide (zt i j<(lo++r).length)=true:=lw a ae;have t1:(decide ((0:Int)<=(i:Int))&&decide ((i:Int)<((n+1:Nat):Int)))=true:=by simp;omega
  have x:=wn (i:=i) ae;refine yg (HH ..) (ze (by simp;omega) ?_);rw[zf,gw a,sw a,x];refine ze t1 (ze f (ze (by simp;omega)<|ze (Ab (Ab (Ab A F)<|w4 w.1)<|w4 w.2)<|ze t1<|ze f ?_));refine F9 v9 p h o d o1 J s v n j lo m q W l R E O a D u I hW h0 k (i+1) _ _ ae (by simp[hr]) (HF t i<|yk M) (by rw[Kc _ _ _ _ ae];exact y) L ?_;rw[Iw _ _ _ _ ae,z,LA,AK];have e:(Ap:Int)^i*(IF (r.getD i 0) (v.getD i 0) c-r.getD i 0)-(Ap:Int)^i*c=(Ap:Int)^i*v.getD i 0-(Ap:Int)^i*(18446744073709551616*PL (r.getD i 0) (v.getD i 0) c):=by
   rw[<-yv, <-yv];congr 1;omega
  omega
theorem vE(v9:Int)(l:List Int)(f:Nat)(k:Int)(e:Nat)(o1 y:List Int)(p:Nat)(v:List Int)(n j:Nat)(lo:List Int)(m:Nat)(i h:List Int)
  (C:v.length=n) (w:n<=9000) (B:n+1<=m) (s:lo.length=j) (t:j<e) (u:j<h.length) (x:AB Ap v)
  (hr:i.length=m) (A:AB Ap i) (G:zd Ap (i.drop<|n+1)=0)
  (o:∀(q:Int) (r:List Int),r.length=m->AB Ap r->(0<=q/\q<18446744073709551616)->zd Ap r<zd Ap v->zd Ap r=zd Ap i-q*zd Ap v->Ends Kw (L4 v9 l f k e (zc .i64<|(j:Int)-1) (h.set j q)<|lo++r) Q)
  (q:Int) (z:zx q=true) (D:zd Ap i<(q+1)*zd Ap v) (P:q*zd Ap v<zd Ap i+zd Ap v):
  Ends Kw (L7 v9 l f k e j o1 y j (n+1) p v n q 0 0 n 0 h<|lo++i) Q:=by
 have M:=yk z;have I:=AJ (b:=Ap) af A;have L:=AJ (b:=Ap) af x;rw[zz,z6]at D;refine CJ v9 l f k e o1 y p v n j lo m q (zd Ap i) h C w B s t u x z (fun r a b c d=>o q r a b M ae d) (fun r a b c d=>?_) n 0 i 0 0 ae hr A G af af (by simp[zd]);have N:=SY (b:=Ap) af b (n:=n+1) ae c;have F:1<=q:=by
  rcases qk 0 q with g|g
  ·exact g
  ·have:q=0:=ae
   subst this;rw[qu]at d;omega
 have E:zc .u64 (q-1)=q-1:=wu _ ae ae;refine F9 v9 l f k e o1 y p v n j lo m q (zd Ap i-q*zd Ap v) h C w B s t u x ae (fun H K b' O J=>?_) n 0 r 0 ae a b c af (by rw[d];simp[zd]);rw[E];refine o (q-1) H K b' ae ae ?_;rw[J,qf,z6];omega
theorem AhH(q x:Int):Sb q x*18446744073709551616+IT q x=q*x/\0<=IT q x/\IT q x<18446744073709551616:=by
 unfold Sb IT;generalize q*x=P;omega
theorem CX(v9:Int)(p:List Int)(h:Nat)(n:Int)(d:Nat)(o1 L:List Int)(s:Nat)(v:List Int)(k j:Nat)(lo:List Int)(m:Nat)(e i:List Int)
  (W:v.length=k+2) (M:k+2<=9000) (hm:k+3<=m) (u:lo.length=j) (I:j<d) (J:j<i.length) (A:AB Ap v)
  (hr:e.length=m) (H:AB Ap e) (T:zd Ap (e.drop<|k+3)=0) (F:1<=v.getD (k+1) 0)
  (w:∀(q:Int) (r:List Int),r.length=m->AB Ap r->(0<=q/\q<18446744073709551616)->zd Ap r<zd Ap v->zd Ap r=zd Ap e-q*zd Ap v->Ends Kw (L4 v9 p h n d (zc .i64<|(j:Int)-1) (i.set j q)<|lo++r) Q):
  ∀(f:Nat) (q r o:Int),0<=q->q<f->q<18446744073709551616->zx r=true->(o=0\/o=1)->q*v.getD (k+1) 0+(r+18446744073709551616*o)=e.getD (k+2) 0*18446744073709551616+e.getD (k+1) 0->zd Ap e<(q+1)*zd Ap v->
   Ends Kw (L5 v9 p h n d j o1 L j (k+3) s v ((k+2:Nat):Int) q r o i<|lo++e) Q
 |0,q,r,o,h0,hf,_,_,_,_,_=>by omega
 |f+1,q,r,o,h0,hf,Z,l,ho,he,U=>by
  have uq:zx q=true:=C3 h0 Z;have E:=A0 A k;have t:=A0 A<|k+1;have V:=A0 H k;have S:=yk E;have gv1:=yk t;have gu2:=yk V;have gr:=yk l;have X:=AU (b:=Ap) af k;have hW:=yN Ap e k ae T;have Y:=yK Ap v k W;have R:=AJ (b:=Ap) af<|AT H k;have x:=BC (b:=Ap) af<|AT H k;have G:=AJ (b:=Ap) af<|AT A k;have y:=BC (b:=Ap) af<|AT A k;rw[yf,yn ae]at x y;have exit:q*v.getD k 0<=(r+18446744073709551616*o)*18446744073709551616+e.getD k 0->Ends Kw (L7 v9 p h n d j o1 L j (k+3) s v ((k+2:Nat):Int) q 0 0 ((k+2:Nat):Int) 0 i<|lo++e) Q:=by
   intro N;refine vE v9 p h n d o1 L s v (k+2) j lo m e i W M hm u I J A hr H T w q uq U ?_;rw[hW,Y];exact Xa X ⟨G,y⟩ R ⟨h0,Z⟩ F S.1 he N
  have e1:zc .i64 (((k+2:Nat):Int)-2)=(k:Int):=by rw[wr _ ae ae];omega
  have e2:zc .i64 (((k+2:Nat):Int)-1)=((k+1:Nat):Int):=by rw[wr _ ae ae];omega
  obtain⟨w1,w2,w3⟩:=AhH q<|v.getD k 0;have O:decide (zt k j<(lo++e).length)=true:=lw u ae;refine yg (EF ..)<|ym (fun c=>?_)<|fun c=>?_
  ·have c:o=0:=by simpa using c
   subst c;rw[e1,e2,zf,zf,gw u];refine ze (by simp;omega)<|ze (Ab uq E) ?_;have K:r*18446744073709551616+e.getD k 0<q*v.getD k 0->Ends Kw (L5 v9 p h n d j o1 L j (k+3) s v ((k+2:Nat):Int) (zc .u64<|q-1) (IF r (v.getD (k+1) 0) 0) (PL r (v.getD (k+1) 0) 0) i<|lo++e) Q:=by
    intro N;obtain⟨a1,a2,a3⟩:=MQ l t (c:=0) af;have hq1:1<=q:=by
     rcases qk 0 q with g|g
     ·exact g
     ·have:q=0:=ae
      subst this;rw[qu]at N;omega
    rw[wu (q-1) ae ae];refine CX v9 p h n d o1 L s v k j lo m e i W M hm u I J A hr H T F w f (q-1) _ _ ae ae ae a1 ae ?_ ?_
    ·rw[qf,z6,a3];omega
    ·have P:q*v.getD (k+1) 0+r=e.getD (k+2) 0*18446744073709551616+e.getD (k+1) 0:=ae
     have:=VL (B:=Ap) (u0:=e.getD (k+2) 0) (u1:=e.getD (k+1) 0) (u2:=e.getD k 0) X G x h0 (v1:=v.getD (k+1) 0) (v2:=v.getD k 0) (r:=r) P N;rw[<-hW, <-Y]at this;rw[show q-1+1=q by omega];exact this
   refine ym (fun C=>exit ?_) (fun C=>ym (fun z=>ze (by simp;omega)<|ze O<|ym (fun D=>exit ?_)<|fun D=>ze (by simp;omega)<|ze (Ab (Ab (Ab l t) rfl) rfl)<|K ?_) (fun z=>ze (by simp;omega)<|ze (Ab (Ab (Ab l t) rfl) rfl)<|K ?_))
   ·have C:=w6 C;omega
   ·have z:Sb q (v.getD k 0)=r:=by simpa using z
    have D:=w6 D;omega
   ·have z:Sb q (v.getD k 0)=r:=by simpa using z
    have D:=w7 D;omega
   ·have C:=w7 C;have z:Sb q (v.getD k 0)≠r:=by simpa using z
    omega
  ·have c:o≠0:=by simpa using c
   refine exit ?_;have a:=zo (show v.getD k 0<=18446744073709551615 by omega) h0;omega
theorem Cb(s:Int)(v:List Int)(k f:Nat)(E:v.length=k+2)(Z:f<=9000)(S:k+2<=f)(w:AB Ap v)(D:1<=v.getD (k+1) 0)(U:Int)
  (hq:∀u e:List Int,u.length=f+1->AB Ap u->AB Ap e->zd Ap u<zd Ap v->e.length=f-(k+2)+1->U=zd Ap u+zd Ap v*zd Ap e->Ends Kw (L6 s (f+1) ((k+2:Nat):Int) (f-(k+2)+1) ((k+2:Nat):Int) 0 e u) Q):
  ∀(t:Nat) (u e:List Int),t+e.length=f-(k+2)+1->u.length=f+1->AB Ap u->AB Ap e->zd Ap (u.drop t)<zd Ap v->U=zd Ap u+zd Ap v*((Ap:Int)^t*zd Ap e)->
   Ends Kw (L4 s v (f+1) ((k+2:Nat):Int) (f-(k+2)+1) ((t:Int)-1) (zm t 0++e) u) Q
 |0,u,e,hl,X,O,A,C,T=>by
  refine yg (Ck ..) (qq (by simp) ?_);exact hq u e X O A C ae (by rw[T,qt,z6])
 |j+1,u,e,hl,X,O,A,C,T=>by
  obtain⟨lo,r,rfl,g⟩:∃lo r:List Int,u=lo++r/\lo.length=j:=⟨u.take j,u.drop j,(List.take_append_drop j u).symm,by rw[yf];omega⟩;have J:AB Ap lo:=fun d h=>O d<|qo.2<|.inl h
  have a:AB Ap r:=fun d h=>O d<|qo.2<|.inr h
  have H:r.length=f+1-j:=by rw[List.length_append]at X;omega
  have m:∀z:List Int,(lo++z).drop j=z:=fun z=>by rw[<-g];exact List.drop_left
  have hr0:r=r.getD 0 0::r.drop 1:=by
   have:=CB (l:=r) (i:=0) ae;rw[List.drop_zero]at this;exact this
  have P:(lo++r).drop (j+1)=r.drop 1:=by rw[Nat.add_comm j 1,Nat.add_comm 1 j, <-List.drop_drop,m]
  rw[P]at C;have g0:=Li (b:=Ap) af a 0;have R:zd Ap r=r.getD 0 0+18446744073709551616*zd Ap (r.drop 1):=by
   conv=>lhs;rw[hr0]
   rfl
  have F:=BC (b:=Ap) af w;rw[E]at F;have g0:0<=r.getD 0 0/\r.getD 0 0<18446744073709551616:=g0;have Y:zd Ap r<18446744073709551616*zd Ap v:=by rw[R];omega
  have N:zd Ap (r.drop<|k+3)=0:=by
   refine Km (b:=Ap) af a ae ?_;have ep:(Ap:Int)^(k+3)=(Ap:Int)^(k+2)*18446744073709551616:=yj ..;rw[ep];omega
  have M:=A0 a<|k+2;have o:=A0 a<|k+1;have uu2:=A0 a k;have n:=A0 w<|k+1;have gu0:=yk M;have W:=yk o;have gu2:=yk uu2;have gv1:=yk n;have gv2:=yk<|A0 w k;have hP:=AU (b:=Ap) af k;have hW:=yN Ap r k ae N;have hV:=yK Ap v k E;have hu':=AJ (b:=Ap) af<|AT a k;have y:=BC (b:=Ap) af<|AT a k;have V:=AJ (b:=Ap) af<|AT w k;rw[yf,yn ae]at y;have hle:r.getD (k+2) 0<=v.getD (k+1) 0:=by
   have a1:=CA Ap (r.drop 1) (k+1) (by rw[List.length_drop];omega);have a2:(r.drop 1).drop (k+1)=r.getD (k+2) 0::r.drop (k+3):=by
    rw[List.drop_drop,show 1+(k+1)=k+2 by omega];exact CB ae
   have a3:zd Ap (r.getD (k+2) 0::r.drop (k+3))=r.getD (k+2) 0:=by
    show r.getD (k+2) 0+(Ap:Int)*zd Ap (r.drop<|k+3)=_;rw[N];omega
   rw[a2,a3]at a1;have b1:zd Ap v=zd Ap (v.take<|k+1)+(Ap:Int)^(k+1)*v.getD (k+1) 0:=by
    rw[<-AK,zy ae]
   have I:=BC (b:=Ap) af<|AT w<|k+1;rw[yf,yn ae]at I;have c1:=AJ (b:=Ap) af<|AT (Fg a 1)<|k+1;have c2:(Ap:Int)^(k+1)*r.getD (k+2) 0<(Ap:Int)^(k+1)*(v.getD (k+1) 0+1):=by
    rw[zr,Int.mul_one];omega
   have:=ya c2 (zn<|AU af<|k+1);omega
  have p:∀(q:Int) (B:List Int),B.length=f+1-j->AB Ap B->(0<=q/\q<18446744073709551616)->zd Ap B<zd Ap v->zd Ap B=zd Ap r-q*zd Ap v->Ends Kw (L4 s v (f+1) ((k+2:Nat):Int) (f-(k+2)+1) (zc .i64<|(j:Int)-1) ((zm (j+1) 0++e).set j q)<|lo++B) Q:=by
   intro q B h1 h2 h3 h4 h5;have es:(zm (j+1) (0:Int)++e).set j q=zm j 0++(q::e):=by
    rw[List.replicate_succ',z7];exact DQ _ _ _ _ (by simp)
   rw[es,wr ((j:Int)-1) ae ae];refine Cb s v k f E Z S w D U hq j (lo++B) (q::e) (by simp;omega) (by simp;omega) (FI J h2) (fun d h=>?_) (by rw[m];exact h4) ?_
   ·rcases List.mem_cons.1 h with rfl|h
    ·exact h3
    ·exact A d h
   ·rw[T,Dg,Dg,g,h5,LA];show zd Ap lo+(Ap:Int)^j*zd Ap r+zd Ap v*((Ap:Int)^j*(18446744073709551616*zd Ap e))=zd Ap lo+(Ap:Int)^j*(zd Ap r-q*zd Ap v)+zd Ap v*((Ap:Int)^j*(q+18446744073709551616*zd Ap e));have x1:zd Ap v*((Ap:Int)^j*q)=(Ap:Int)^j*(q*zd Ap v):=by
     rw[yh,zk (zd Ap v) q]
    rw[yv,zr ((Ap:Int)^j) q,zr<|zd Ap v,x1];omega
  have ez:zt 0 j=j:=Nat.zero_add j;have e0:(((j+1:Nat):Int)-1)=(j:Int):=ae
  have e1:zc .i64 (zc .i64 ((j:Int)+((k+2:Nat):Int))+1)=((j+(k+3):Nat):Int):=by
   rw[wr ((j:Int)+((k+2:Nat):Int)) ae ae,wr _ ae ae];omega
  have e2:zc .i64 (((k+2:Nat):Int)-1)=((k+1:Nat):Int):=by rw[wr _ ae ae];omega
  have e3:z8 (j+(k+3)) j=k+3:=by show j+(k+3)-j=_;omega
  have G:decide (zt (k+2) j<(lo++r).length)=true:=lw g ae;have K:decide (zt (k+1) j<(lo++r).length)=true:=lw g ae;rw[e0];refine yg (Ck ..) (ze (by simp) ?_);rw[E,e1,e2,zf,zf,zf,zf,ez,e3,gw g,gw g];have b1:(decide ((0:Int)<=((k+2:Nat):Int))&&decide (((k+2:Nat):Int)<((k+3:Nat):Int)))=true:=by simp;omega
  have I:(decide ((0:Int)<=((k+1:Nat):Int))&&decide (((k+1:Nat):Int)<((k+2:Nat):Int)))=true:=by simp;omega
  have b3:(decide ((0:Int)<=((k+1:Nat):Int))&&decide (((k+1:Nat):Int)<((k+3:Nat):Int)))=true:=by simp;omega
  have L:j<(zm (j+1) (0:Int)++e).length:=by simp;omega
  refine ze (by simp;omega)<|ze b1<|ze G<|ze I<|ym (fun c=>?_)<|fun c=>?_
  ·have c:=w6 c;obtain⟨a1,a2,a3⟩:=MQ o n (c:=0) af;refine ze b3<|ze K<|ze I<|ze (Ab (Ab (Ab o n) rfl) rfl) ?_;refine CX s v (f+1) _ _ _ _ _ v k j lo (f+1-j) r _ E ae ae g ae L w H a N D p 18446744073709551616 _ _ _ af af af a1 ae ?_ ?_
   ·rw[a3];omega
   ·exact Y
  ·have c:=w7 c;obtain⟨d1,d2,d3,d4,d5⟩:=dqr (r:=r.getD (k+2) 0) (x:=r.getD (k+1) 0) (d:=v.getD (k+1) 0) ae ae W;refine ze b1 (ze G<|ze b3<|ze K<|ze I<|ze (Ab (Ab (Ab M o) n)<|w4 ae) ?_);refine CX s v (f+1) _ _ _ _ _ v k j lo (f+1-j) r _ E ae ae g ae L w H a N D p 18446744073709551616 _ _ _ d2 d3 d3 (C3 d4 ae) (.inl rfl) ?_ ?_
   ·rw[<-d1];omega
   ·rw[hW,hV];exact N6 hP af d2 V gv2.1 y gu2.2 d1 d5
end T210
theorem WD{a b:Int}{s:Nat}(d:0<=a)(e:0<=b)(h:b<2^s)(c:a*2^s+b<18446744073709551616):dX .u64 b (a*2^s)=a*2^s+b:=by
 have:=ZF d e h c;rw[<-this];show zc .u64 (((ql 64 b|||ql 64 (a*2^s)).toNat:Nat):Int)=zc .u64 (((ql 64 (a*2^s)|||ql 64 b).toNat:Nat):Int);rw[BitVec.or_comm]
theorem aH{s:Nat}(a:s<=63):(18446744073709551616:Int)=2^s*2^(64-s):=by rw[<-Int.pow_add,show s+(64-s)=64 by omega];rfl
namespace T210
theorem Fs(s:Nat)(T:s<=63)(a n m:Nat)(hn:n<=a)(M:a<=9000)(u h:List Int)(hu:u.length=a+1)(J:AB Ap u)(O:zd Ap (u.drop n)=0)(hm:h.length=m)(E:m<=9000)(q:AB Ap h)
  (R:∀(w:List Int) ob,AB Ap w->zd Ap w=zd Ap u/2^s->Q (.tup [.dat DG<|AA h,.dat DG<|AA w]) ob):
  ∀(k i:Nat) (p:List Int),i+k=n->p.length=i->AB Ap p->zd Ap p+(Ap:Int)^i*(zd Ap (u.drop i)/2^s)=zd Ap u/2^s->
   Ends Kw (L6 s (a+1) n m n i h<|p++u.drop i) Q
 |0,i,p,H,hp,f,v=>by
  have H:i=n:=ae
  subst H;have ht:(p++u.drop i).take i=p:=by rw[<-hp];exact List.take_left
  have K:h.take m=h:=zy ae;rw[O,Int.zero_ediv,qj,yy]at v;refine yg (E2 ..) (qq (by simp) ?_);rw[zf,ht,K];refine ze (by simp;omega) (ze (Ab (by simp;omega)<|ER ae q)<|ze (Ab (by simp;omega)<|ER ae f)<|Ends.leaf<|R p _ f v)
 |k+1,i,p,H,hp,f,v=>by
  have I:=CB (l:=u) (i:=i) ae;have S:=CB (l:=u) (i:=i+1) ae;have N:=yk<|A0 J i;have V:=yk<|A0 J<|i+1;have g1:(p++u.drop i).getD i 0=u.getD i 0:=by rw[I];exact D3 _ _ _ _ hp
  have s1:∀z,(p++u.drop i).set i z=p++z::u.drop (i+1):=fun z=>by rw[I];exact DQ _ _ _ _ hp
  have s2:∀z x,(p++z::u.drop (i+1)).set i x=(p++[x])++u.drop (i+1):=fun z x=>by rw[DQ _ _ _ _ hp,z7];rfl
  have U:∀z,(p++z::u.drop (i+1)).getD i 0=z:=fun z=>D3 _ _ _ _ hp
  have g3:∀z,(p++z::u.drop (i+1)).getD (i+1) 0=u.getD (i+1) 0:=fun z=>by
   rw[S,show p++z::u.getD (i+1) 0::u.drop (i+1+1)=(p++[z])++u.getD (i+1) 0::u.drop (i+1+1)by rw[z7];rfl];exact D3 _ _ _ _ (by simp[hp])
  have r:∀z,(p++z::u.drop (i+1)).length=a+1:=fun z=>by simp;omega
  have j:(p++u.drop i).length=a+1:=by simp;omega
  have e2:=wn (i:=i) ae;have W:zc .i64 ((64:Int)-(s:Int))=((64-s:Nat):Int):=by rw[wr _ ae ae];omega
  have Y:yx s 64=s:=ae
  have L:yx (64-s) 64=64-s:=ae
  have A:=aH T;have o:(0:Int)<2^s:=yi af;have e:(0:Int)<2^(64-s):=yi af;have G:qi (u.getD i 0) ((2:Int)^s)=u.getD i 0/2^s:=y9 _<|zn o;have a0:0<=u.getD i 0/2^s:=qn N.1<|zn o;have a1:u.getD i 0/2^s<2^(64-s):=yq o (by rw[zk, <-A];exact N.2);have P:=yw (u.getD (i+1) 0) (show(2:Int)^s≠0 by omega);have m1:=y7 (u.getD (i+1) 0) o;have p0:0<=(u.getD (i+1) 0 % 2^s)*2^(64-s):=ye P<|zn e;have p1:(u.getD (i+1) 0 % 2^s)*2^(64-s)<=18446744073709551616-2^(64-s):=by
   have:=zh (show u.getD (i+1) 0 % 2^s<=2^s-1 by omega)<|zn e;rw[qf,z6, <-A]at this;exact this
  have g:0<=u.getD i 0/2^s+(u.getD (i+1) 0 % 2^s)*2^(64-s)/\u.getD i 0/2^s+(u.getD (i+1) 0 % 2^s)*2^(64-s)<18446744073709551616:=ae
  have F:zc .u64 (u.getD (i+1) 0*2^(64-s))=(u.getD (i+1) 0 % 2^s)*2^(64-s):=by
   rw[MH];exact(Vp (b:=18446744073709551616) (c:=2^(64-s)) (d:=2^s) (k:=0) e o (by rw[A,zk]) ⟨qg _,e⟩ V).1
  have C:dX .u64 (u.getD i 0/2^s) ((u.getD (i+1) 0 % 2^s)*2^(64-s))=u.getD i 0/2^s+(u.getD (i+1) 0 % 2^s)*2^(64-s):=by
   rw[WD P a0 a1 ae,Int.add_comm]
  have next:∀z,z=u.getD i 0/2^s+(u.getD (i+1) 0 % 2^s)*2^(64-s)->Ends Kw (L6 s (a+1) n m n ((i+1:Nat):Int) h<|(p++[z])++u.drop (i+1)) Q:=by
   intro z t;refine Fs s T a n m hn M u h hu J O hm E q R k (i+1) (p++[z]) ae (by simp[hp]) (Ex f<|by rw[t];exact C3 g.1 g.2) ?_;rw[<-v,Fv,hp,LA,yt, <-zr];congr 2;have:=mU (b:=18446744073709551616) (c:=2^s) (d:=2^(64-s)) (x:=u.getD i 0) (y:=u.getD (i+1) 0) (X:=zd Ap<|u.drop<|i+1+1) o A;rw[t,I,S];exact this.symm
  have B:(decide ((0:Int)<=(i:Int))&&decide ((i:Int)<((a+1:Nat):Int)))=true:=by simp;omega
  have Z:(decide ((0:Int)<=((i+1:Nat):Int))&&decide (((i+1:Nat):Int)<((a+1:Nat):Int)))=true:=by simp;omega
  refine yg (E2 ..) (ze (by simp;omega) ?_);rw[e2,W,zf,zf,zf,zf,Y,L,g1,G,s1,U,g3,s2,F,C,r,j];refine ze B (ze (w4 ae)<|ze (by simp)<|ze B<|ze (w4 ae)<|ym (fun c=>ze (by simp;omega)<|ze B<|ze (w4 ae)<|ze Z<|ze (w4 ae)<|ze (by simp)<|ze B<|ze (w4 ae)<|next _ rfl)<|fun c=>?_);have c:=w7 c;have D:s=0:=ae
  subst D;rw[show ∀z:Int,p++z::u.drop (i+1)=(p++[z])++u.drop (i+1)from fun z=>by rw[z7];rfl];refine next _ ?_;rw[qt,Int.emod_one,qu,yy]
theorem TZ{X:AL}{F:Int->List Int->Tr}(w:List Int)(s:Nat)(u:s<=63)(v:AB Ap w)
  (Eu:∀(i:Nat) (o:List Int),i<w.length->o.length=w.length+1->Ends X (F ((i+1:Nat):Int)<|if 0<s then(o.set i<|dX .u64 (o.getD i 0)<|zc .u64<|w.getD i 0*2^s).set (i+1) (qi (w.getD i 0)<|2^(64-s))else o.set i<|dX .u64 (o.getD i 0)<|zc .u64<|w.getD i 0*2^s) Q->Ends X (F i o) Q)
  (a:∀o:List Int,o.length=w.length+1->AB Ap o->zd Ap o=2^s*zd Ap w->Ends X (F w.length o) Q):
  ∀(k i:Nat) (p:List Int) (c:Int),i+k=w.length->p.length=i->AB Ap p->(0<=c/\c<2^s)->zd Ap p+(Ap:Int)^i*c=2^s*zd Ap (w.take i)->Ends X (F i (p++c::zm k 0)) Q
 |0,i,p,c,q,hp,e,g,h=>by
  have q:i=w.length:=ae
  subst q;have E:(2:Int)^s<=18446744073709551616:=by
   have:=aH u;have A:(1:Int)<=2^(64-s):=yi af;have G:=zo A (show(0:Int)<=2^s from zn<|yi af);omega
  rw[List.take_length]at h;refine a _ (by simp[hp]) (Ex e<|C3 g.1 ae) ?_;rw[<-h];show zd Ap (p++[c])=_;rw[Fv,hp]
 |k+1,i,p,c,q,hp,e,g,h=>by
  have m:=yk<|A0 v i;have C:=aH u;have t:(0:Int)<2^s:=yi af;have f:(0:Int)<2^(64-s):=yi af;obtain⟨s1,s2,s3,s4,s5,s6⟩:=Vp (b:=18446744073709551616) (c:=2^s) (d:=2^(64-s)) (x:=w.getD i 0) (k:=c) t f C g m;have n:qi (w.getD i 0) ((2:Int)^(64-s))=w.getD i 0/2^(64-s):=y9 _<|zn f;have D:(p++c::zm (k+1) 0).getD i 0=c:=D3 _ _ _ _ hp;have st:∀z:Int,(p++c::zm (k+1) 0).set i z=p++z::zm (k+1) 0:=fun z=>DQ _ _ _ _ hp
  have r:∀z y:Int,(p++z::zm (k+1) 0).set (i+1) y=(p++[z])++y::zm k 0:=fun z y=>by
   rw[show p++z::zm (k+1) (0:Int)=(p++[z])++0::zm k 0 by rw[z7];rfl];exact DQ _ _ _ _ (by simp[hp])
  have j:dX .u64 c ((w.getD i 0 % 2^(64-s))*2^s)=(w.getD i 0 % 2^(64-s))*2^s+c:=WD (yw _ ae) g.1 g.2 s2;have go:=TZ w s u v Eu a k (i+1) (p++[(w.getD i 0 % 2^(64-s))*2^s+c]) (w.getD i 0/2^(64-s)) ae (by simp[hp]) (Ex e<|C3 ae s2) ⟨s4,s5⟩ (by
   rw[Fv,hp,LA,AK,zr<|2^s, <-h,yt,yt, <-zr,yh<|2^s, <-zr];congr 2;rw[zk<|2^s];omega)
  refine Eu i _ ae (by simp;omega) ?_;rw[MH,s1,n,D,j,st,r];by_cases h0:0<s
  ·rw[wd h0];exact go
  ·have l:s=0:=ae
   subst l;have B:w.getD i 0/2^(64-0)=0:=qm m.1 m.2;rw[B]at go;rw[wc h0,show ∀z:Int,p++z::zm (k+1) (0:Int)=(p++[z])++0::zm k 0 from fun z=>by rw[z7];rfl];exact go
end T210
theorem Aaw:CE Kw:=
 Aa T176.ok (Aa T217.ok<|Aa T178.ok<|Aa T216.ok<|Aa T218.ok<|Aa tK<|Aa T240.ok Ay)
theorem Lu{w:List Int}(c:AB Ap w)(a:Sp.nz w){k:Nat}(b:w.length=k+1):0<w.getD k 0/\w.getD k 0<18446744073709551616:=by
 have g:=yk<|A0 c k;refine⟨?_,g.2⟩;have e:w.getLast?=some (w.getD k 0):=by
  rw[List.getLast?_eq_getElem?,b,y8,zu,yd ae];rfl
 unfold Sp.nz at a;rw[e]at a;have:w.getD k 0≠0:=fun h=>a (by rw[h])
 omega
namespace T210
set_option maxHeartbeats 1000000 in
theorem ok:Af A4 210 GZ:=by
 refine BD Aaw<|fun(i:List Int×List Int) B=>?_;obtain⟨a,b⟩:=i;have B:(Cz a&&Cz b&&decide (a.length<=9000)&&decide (b.length<=9000)&&decide (0<Av b))=true:=B;rw[yr,yr,yr,yr,w5,w5,w5]at B;obtain⟨⟨⟨⟨na,nb⟩,la9⟩,lb9⟩,n⟩:=B;obtain⟨_,da,za⟩:=FN na;obtain⟨_,db,zb⟩:=FN nb;have n:0<zd Ap b:=n;have J:=AJ (b:=Ap) af da;have hg:∀q r ob,q=BF (Av a/Av b)->r=BF (Av a % Av b)->Ac GZ (a,b) (PV.tup [PV.dat DG q,PV.dat DG r]) ob:=fun q r ob R H=>Ac.of rfl rfl (Prod.ext R H)
 have fin:∀(q r:List Int) ob,AB Ap q->AB Ap r->zd Ap a=zd Ap q*zd Ap b+zd Ap r->zd Ap r<zd Ap b->Ac GZ (a,b) (PV.tup [PV.dat DG<|AA q,PV.dat DG<|AA r]) ob:=by
  intro q r ob dq dr O hr;have hr0:=AJ (b:=Ap) af dr;obtain⟨u1,u2⟩:=(Int.ediv_emod_unique (a:=zd Ap a) (b:=zd Ap b) (r:=zd Ap r) (q:=zd Ap q) n).2 ⟨by rw[zk<|zd Ap b];omega,hr0,hr⟩;refine hg _ _ ob ?_ ?_
  ·rw[LX dq];show BF (zd Ap q)=BF (zd Ap a/zd Ap b);rw[u1]
  ·rw[LX dr];show BF (zd Ap r)=BF (zd Ap a % zd Ap b);rw[u2]
 have p:b≠[]:=by rintro rfl;simp[zd]at n
 have T:b.length≠0:=fun h=>p<|List.length_eq_zero_iff.1 h
 refine Ends.eq (Aj a b) (ze (by rw[na,nb];rfl)<|ym (fun c=>?_)<|fun c=>?_)
 ·have c:=w6 c;have m:zd Ap a<zd Ap b:=by
   unfold Cp at c;have c:(if zd Ap a<zd Ap b then(-1:Int)else if zd Ap a>zd Ap b then 1 else 0)<0:=c;split at c
   ·assumption
   ·split at c<;>omega
  refine Ends.leaf<|Ac.of rfl rfl ?_;show([],a)=(BF<|zd Ap a/zd Ap b,BF<|zd Ap a % zd Ap b);rw[qm J m,Int.emod_eq_of_lt J m];exact Prod.ext rfl (Jf af da za)
 ·have c:=w7 c;have hge:zd Ap b<=zd Ap a:=by
   rcases qk (zd Ap a) (zd Ap b)with g|g
   ·have:Cp (Av a) (Av b)= -1:=wd g;omega
   ·exact g
  have hll:b.length<=a.length:=by
   rcases Nat.lt_or_ge a.length b.length with g|g
   ·have:=E8 (b:=Ap) af da db zb g;omega
   ·exact g
  refine ym (fun A=>?_)<|fun A=>?_
  ·have A:b.length=1:=by
    have:(b.length:Int)=1:=by simpa using A
    omega
   obtain⟨d,rfl⟩:=List.length_eq_one_iff.1 A;have hd:0<d/\d<18446744073709551616:=Lu (k:=0) db zb rfl;have R:zc .i64 ((a.length:Int)-1)=(a.length:Int)-1:=wr _ ae ae;rw[R,zf];refine ze (by simp;omega) ?_;have:=Ar (Q:=Ac GZ (a,[d])) a d da hd ae (fun q r ob dq dr O=>by
    refine fin q [r] ob dq (fun x j=>by rw[List.mem_singleton]at j;subst j;exact⟨dr.1,by show x<18446744073709551616;omega⟩) ?_ ?_
    ·rw[val_one,val_one];exact O
    ·rw[val_one,val_one];exact dr.2) a.length [] 0 (by simp) (fun x j=>by cases j) ⟨qg _,hd.1⟩ (by rw[List.drop_length];simp[zd])
   rw[List.append_nil]at this;exact this
  ·have A:b.length≠1:=by
    have:(b.length:Int)≠1:=by simpa using A
    omega
   obtain⟨k,z⟩:∃k,b.length=k+2:=⟨b.length-2,by omega⟩;obtain⟨y0,y1⟩:=Lu (k:=k+1) db zb z;obtain⟨s,hs,hs63,m,_⟩:=VD y0 y1;have hB:=aH hs63;have f:(0:Int)<2^s:=yi af;have h2d:(0:Int)<2^(64-s):=yi af;have hyd:b.getD (k+1) 0<2^(64-s):=by
    rw[hB,zk<|b.getD (k+1) 0]at m;exact ya m<|zn f
   have hv1:(Ap:Int)^(k+1)<=2^s*zd Ap b:=by
    have a1:=DE (b:=Ap) af db zb p;rw[z,show k+2-1=k+1 by omega]at a1;have a2:=zh (show(1:Int)<=2^s by omega)<|zn n;omega
   have hv2:2^s*zd Ap b<(Ap:Int)^(k+2):=by
    have C:zd Ap b=zd Ap (b.take<|k+1)+(Ap:Int)^(k+1)*b.getD (k+1) 0:=by
     rw[<-AK,zy ae]
    have b2:=BC (b:=Ap) af<|AT db<|k+1;rw[yf,yn ae]at b2;have hp:=AU (b:=Ap) af<|k+1;have b3:zd Ap b<(Ap:Int)^(k+1)*2^(64-s):=by
     have:=zo (show b.getD (k+1) 0+1<=2^(64-s)by omega)<|zn hp;rw[zr,Int.mul_one]at this;omega
    have b4:=qc b3 f;have b5:(2:Int)^s*((Ap:Int)^(k+1)*2^(64-s))=(Ap:Int)^(k+2):=by
     rw[yh, <-hB];exact(yj ..).symm
    rw[b5]at b4;exact b4
   have S:∀o:List Int,AB Ap o->zd Ap o=2^s*zd Ap b->AB Ap (AA o)/\(AA o).length=k+2/\zd Ap (AA o)=2^s*zd Ap b/\1<=(AA o).getD (k+1) 0:=by
    intro o W hv;have v:=Ig W;have y:zd Ap (AA o)=2^s*zd Ap b:=by rw[Kb,hv]
    have G:=mH (b:=Ap) af v (MI o) (k:=k+1) (by rw[y];exact hv1) (by rw[y];exact hv2);have:=(Lu v (MI o) G).1;exact⟨v,G,y,by omega⟩
   have H:zc .i64 (((k+2:Nat):Int)-1)=((k+1:Nat):Int):=by rw[wr _ ae ae];omega
   have e3:zc .i64 (((k+2:Nat):Int)+1)=((k+3:Nat):Int):=by rw[wr _ ae ae];omega
   have e4:zc .i64 ((a.length:Int)+1)=((a.length+1:Nat):Int):=by rw[wr _ ae ae];omega
   have e5:zc .i64 ((a.length:Int)-((k+2:Nat):Int))=((a.length-(k+2):Nat):Int):=by rw[wr _ ae ae];omega
   have e6:zc .i64 (((a.length-(k+2):Nat):Int)+1)=((a.length-(k+2)+1:Nat):Int):=by rw[wr _ ae ae];omega
   have e7:zc .i64 ((64:Int)-(s:Int))=((64-s:Nat):Int):=by rw[wr _ ae ae];omega
   have em:yx s 64=s:=ae
   have M:yx (64-s) 64=64-s:=ae
   rw[z,H,e3,zf,zf,hs];refine ze (by simp;omega) (ze (C3 ae y1)<|ze (by simp;omega) ?_);refine TZ (F:=fun i o=>L2 a b s (k+3) b ((k+2:Nat):Int) i o) b s hs63 db (fun i o B W h=>?_) (fun o hol D Y=>?_) (k+2) 0 [] 0 ae rfl (fun x j=>by cases j) ⟨qg _,f⟩ (by simp[zd])
   ·have ei:=wn (i:=i) ae;have C:(decide ((0:Int)<=(i:Int))&&decide ((i:Int)<((k+3:Nat):Int)))=true:=by simp;omega
    refine yg (Az ..) (ze (by simp;omega) ?_);rw[ei,e7,zf,zf,zf,zf,em,M];refine ze (by simp;omega) (ze C<|ze (w4 ae)<|ze (by simp)<|ze C<|ze (w4 ae)<|ym (fun c=>ze (by simp)<|ze (by simp;omega)<|ze (by simp;omega) ?_)<|fun c=>?_)
    ·have c:=w6 c;rw[wd ae]at h;exact h
    ·have c:=w7 c;rw[wc ae]at h;exact h
   obtain⟨vd,vl,P,v1⟩:=S o D Y;have eo:o.take (k+3)=o:=zy ae;rw[z];refine yg (Az ..) (qq (by simp) ?_);rw[eo,e4,zf,z,H,zf,hs];refine ze (Ab (by simp;omega)<|ER ae D) (ze (by simp;omega) ?_);refine TZ (F:=fun i o'=>L3 a b s (k+3) b ((k+2:Nat):Int) ((k+2:Nat):Int) o s (a.length+1) a a.length i o' o) a s hs63 da (fun i o' B W h=>?_) (fun u U L V=>?_) a.length 0 [] 0 ae rfl (fun x j=>by cases j) ⟨qg _,f⟩ (by simp[zd])
   ·have ei:=wn (i:=i) ae;have C:(decide ((0:Int)<=(i:Int))&&decide ((i:Int)<((a.length+1:Nat):Int)))=true:=by simp;omega
    refine yg (Bq ..) (ze (by simp;omega) ?_);rw[ei,e7,zf,zf,zf,zf,em,M];refine ze (by simp;omega) (ze C<|ze (w4 ae) (ze (by simp) (ze C<|ze (w4 ae)<|ym (fun c=>ze (by simp)<|ze (by simp;omega)<|ze (by simp;omega) ?_)<|fun c=>?_)))
    ·have c:=w6 c;rw[wd ae]at h;exact h
    ·have c:=w7 c;rw[wc ae]at h;exact h
   refine yg (Bq ..) (qq (by simp) ?_);rw[eo,vl,e5,e6,zf,z,H,zf,hs];refine ze (by simp;omega) ?_;have K:=AU (b:=Ap) af<|a.length-(k+2)+1;have start:zd Ap (u.drop<|a.length-(k+2)+1)<zd Ap (AA o):=by
    have a1:=CA Ap u (a.length-(k+2)+1) ae;have a2:=AJ (b:=Ap) af<|AT L<|a.length-(k+2)+1;have a3:=BC (b:=Ap) af da;have a4:=qc a3 f;have a5:(Ap:Int)^a.length=(Ap:Int)^(a.length-(k+2)+1)*(Ap:Int)^(k+1):=by rw[<-Int.pow_add];congr 1;omega
    have a6:=DE (b:=Ap) af db zb p;rw[z,show k+2-1=k+1 by omega]at a6;have a7:=zo a6<|zn f;have a8:=zo a7<|zn K;rw[a5,yh]at a4;rw[P];refine ya (a:=(Ap:Int)^(a.length-(k+2)+1)) ?_<|zn K;omega
   have go:=Cb (Q:=Ac GZ (a,b)) s (AA o) k a.length vl la9 ae vd v1 (2^s*zd Ap a) (fun X N I t E l hql O=>by
    have hz:zd Ap (X.drop<|k+2)=0:=Km (b:=Ap) af t ae (by rw[P]at l;omega);refine Fs s hs63 a.length (k+2) (a.length-(k+2)+1) ae la9 X N I t hz hql ae E (fun w ob hw Z=>?_) (k+2) 0 [] ae rfl (fun x j=>by cases j) (by simp[zd]);have e:zd Ap X=2^s*(zd Ap a-zd Ap N*zd Ap b):=by
     rw[P,zj,zk<|zd Ap b]at O;rw[yv];omega
    have ew:zd Ap w=zd Ap a-zd Ap N*zd Ap b:=by
     rw[Z,e];exact Int.mul_ediv_cancel_left _ ae
    refine fin N w ob E hw ae ?_;rw[P,e]at l;have:=ya l<|zn f;omega) (a.length-(k+2)+1) u [] (by simp) U L (fun x j=>by cases j) start (by rw[V];simp[zd])
   rw[List.append_nil,show((a.length-(k+2)+1:Nat):Int)-1=((a.length-(k+2):Nat):Int)by omega]at go;exact go
end T210
theorem SI:Af A4 210 GZ:=T210.ok
end Go.Pe
