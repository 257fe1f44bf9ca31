import Derived.Test.YtbmofcgiokkikaaGreatDoorX15
/- A part of a proof; no law is stated here. -/
noncomputable section
open Go.Pe.Ends renaming tt -> zc, leaf -> zd, ite -> ze, Ai -> zh, ff -> zj, eq -> zx
open Go.IntKind renaming wrap -> zf, i64 -> zt
open Int renaming toNat_natCast -> zg
open Go.Pe.Sh renaming list -> zi, str -> zm, bool -> z8, int -> yf
open Bool renaming and_eq_true -> zk, false_and -> zw, true_and -> zy, true_or -> z7, and_false -> yc, and_true -> yd, false_or -> ye, not_eq_true' -> yg, and_eq_false_iff -> yi, or_true -> yq
open List renaming mem_cons_self -> zl, length_cons -> zo, mem_of_mem_drop -> zp, all_cons -> zu, all_eq_true -> z6, mem_cons -> yb, length_append -> yk, take_length -> ym, headD_cons -> yo
open Nat renaming zero_le -> zn, add -> yn
open Go.Sp renaming first -> zq, isName -> zr, letter -> zz, Bh -> yh, mark -> yj, Bt -> yp
open Go.Pe.Ac renaming of -> ya
open Iff renaming rfl -> yr
variable {Q:Go.Pe.PV->Go.Pe.Ob->Prop}
namespace Go.Pe
open Sp
open Go.Det
section
open List Int Prod
namespace T110
def T(a:Z)(lo b:Int):Tr:=tree AfU false 9 110<|Ag ([zm,yf zt,yf zt]) (a,lo,b)
theorem Aj(a:Z)(lo b:Int):T a lo b=let e:Tr:=.leaf (.dat i64<|An a) [];let b':=F7 (Sp.rN lo,Sp.rW lo);let d:=F7 (Sp.rN b,Sp.rW b);let c:Tr:=.leaf (.dat i64 (3:Int)) [];.cd (length a<=1000000) (.ite (An a==0) (.ck (Ct lo)<|.ck (CD (Sp.rN lo,Sp.rW lo))<|.ck (A2 a&&Di b')<|.di (EI a b'<0) c<|.ck (Ct b)<|.ck (CD (Sp.rN b,Sp.rW b))<|.ck (A2 a&&Di d)<|.di (EI a d>0) c e) e):=by kernel_rfl
end T110
namespace T47
def T(s:Z)(l:List Z):Tr:=tree zA false 9 47<|Ag ([zm,zi zm]) (s,l)
def L1(v0:Z)(v1:List Z)(v5:Int):Tr:=re ((T [] []).L.R)<|Aw 21 [(0,.dat zm v0),(1,.dat (zi zm) v1),(5,.dat i64 v5)] [] 0
theorem Aj(s:Z)(l:List Z):T s l=.ck true (.ite (!zr s) (.leaf (.dat i64 (8:Int)) [])<|L1 s l 0):=by kernel_rfl
theorem Ak(v0:Z)(v1:List Z)(v5:Int):stepT zA (L1 v0 v1 v5)=let a:=decide (v5<(length v1:Int));.ite a (.ck (decide (0<=v5)&&a)<|.ite (getD v1 (toNat v5) []==v0) (.leaf (.dat i64 (9:Int)) [])<|L1 v0 v1<|zf .i64<|v5+1) (.leaf (.dat i64 (0:Int)) []):=by kernel_rfl
end T47
namespace T48
def T(l:Bm):Tr:=tree RQ false 9 48<|Ag ([Bh]) l
def L1(v4:Int)(e a b:Z)(d c:List AW):Tr:=re ((T ([],([],([],([],[]))))).L.R.L.L.L.L.L.R)<|Aw 101 [(1,.ptr 0 0),(4,.dat i64 v4)] [(0,.box [.dat zm e,.dat zm a,.dat zm b,.dat (zi Ca) d,.dat (zi Ca) c])] 1
theorem Aj(l:Bm):T l=let b:=fst<|snd<|snd<|snd l;let a:=fst<|snd<|snd l;let c:=BQ (fst<|snd l) 1 10000==0;let b':=L1 1 (fst l) (fst<|snd l) a b<|snd<|snd<|snd<|snd l;let d:Tr:=.ck (decide (length b<=1000)&&GQ 1000000 b)<|.ite (BN b !=0) (.leaf (.dat i64<|BN b) []) b';.ck true (.ite (!zr (fst l)) (.leaf (.dat i64 (8:Int)) [])<|.ck (decide (length (fst<|snd l)<=1000000)&&He 1&&He 10000)<|.ite c (.ck (decide (length a<=1000000)&&He 1&&He 10000)<|.ite (BQ a 1 10000==0) d<|.ite (BQ a 1 10000 !=0) (.leaf (.dat i64<|BQ a 1 10000) []) b')<|.ite c d<|.ite (BQ (fst<|snd l) 1 10000 !=0) (.leaf (.dat i64<|BQ (fst<|snd l) 1 10000) []) b'):=by kernel_rfl
def L2(f:Int)(e a b:Z)(d c:List AW):Tr:=re ((stepT RQ<|L1 0 [] [] [] [] []).R.R)<|Aw 101 [(1,.ptr 0 0),(5,.nil),(6,.dat i64 f)] [(0,.box [.dat zm e,.dat zm a,.dat zm b,.dat (zi Ca) d,.dat (zi Ca) c])] 1
theorem Ak(v4:Int)(f c d:Z)(a b:List AW):stepT RQ (L1 v4 f c d a b)=let g:=snd<|getD a (toNat<|zf .i64<|v4-1) ([],[]);let b':=snd<|getD a (toNat v4) ([],[]);let e:=(length a:Int);.di (v4<e) (.ck (decide (0<=v4)&&decide (v4<e))<|.ck (decide (0<=zf .i64 (v4-1))&&decide (zf .i64 (v4-1)<e))<|.ck (A2 b'&&Di g)<|.di (EI b' g<0) (.leaf (.dat i64 (11:Int)) [])<|L1 (zf .i64<|v4+1) f c d a b) (.di ((length b:Int)>16) (.leaf (.dat i64 (5:Int)) [])<|L2 0 f c d a b):=by kernel_rfl
def L3(e:Nat)(g:Int)(o1:List Z)(f a b:Z)(d c:List AW):Tr:=re ((stepT RQ<|L2 0 [] [] [] [] []).L.L.L.L.L.L.L.L.L.L.R.L.L)<|Aw 101 [(1,.ptr 0 0),(5,.sl 1 1 0 e none),(6,.dat i64 g)] [(1,.arr false 9 zm o1),(0,.box [.dat zm f,.dat zm a,.dat zm b,.dat (zi Ca) d,.dat (zi Ca) c])] 2
theorem Az(e:Int)(k c d:Z)(b a:List AW):stepT RQ (L2 e k c d b a)=let b':=getD a (toNat e) ([],[]);let j:=decide (e<(length a:Int));let f:=decide (0<=e)&&j;let h:=decide (length (snd b')<=1000000);let h':=decide (F4 (snd b')<0);let g:Tr:=.ck f<|.ck (aa 16)<|L3 1 (zf .i64<|e+1) ([fst b']) k c d b a;let i:Tr:=.ite (An (snd b') !=0) (.leaf (.dat i64<|An<|snd b') []) g;let l:Tr:=.ite (KI (fst b') [] !=0) (.leaf (.dat i64<|KI (fst b') []) []) g;let m:Tr:=.ite true (.leaf (.dat i64 (3:Int)) []) g;.ite j (.ck f<|.cd (0<=1000)<|.ite (KI (fst b') []==0) (.ck f<|.ck h<|.ite (An (snd b')==0) (.ck f<|.ck h<|.ite h' m i) i)<|.ite (KI (fst b') []==0) (.ck f<|.ck h<|.ite h' m l) l) (.leaf (.dat i64 (0:Int)) []):=by kernel_rfl
theorem Bq(a:Nat)(f:Int)(o1:List Z)(n d e:Z)(c b:List AW):stepT RQ (L3 a f o1 n d e c b)=let b':=getD b (toNat f) ([],[]);let m:=decide (f<(length b:Int));let g:=decide (0<=f)&&m;let h:=decide (length (snd b')<=1000000);let h':=KI (fst b') (take a o1)==0;let l:=decide (F4 (snd b')<0);let i:Tr:=.ck g<|.ck (ac a (length o1) 16)<|L3 (yn a 1) (zf .i64<|f+1) (o1++[fst b']) n d e c b;let k:Tr:=.ite (KI (fst b') (take a o1) !=0) (.leaf (.dat i64<|KI (fst b')<|take a o1) []) i;let j:Tr:=.ite (An (snd b') !=0) (.leaf (.dat i64<|An<|snd b') []) i;let o:Tr:=.ite true (.leaf (.dat i64 (3:Int)) []) i;.ite m (.ck g<|.ck (decide (0+a<=length o1)&&true&&decide (length (take a o1)<=1000))<|.ite h' (.ck g<|.ck h<|.ite (An (snd b')==0) (.ck g<|.ck h<|.ite l o j) j)<|.ite h' (.ck g<|.ck h<|.ite l o k) k) (.leaf (.dat i64 (0:Int)) []):=by kernel_rfl
end T48
namespace T46
def T(s:Bn):Tr:=tree zE false 9 46<|Ag ([Bt]) s
def L1(v4:Int)(e a b d:Z)(c:List EB):Tr:=re ((T ([],([],([],([],[]))))).L.L.L.L.L.L.L.R.R)<|Aw 61 [(1,.ptr 0 0),(4,.dat i64 v4)] [(0,.box [.dat zm e,.dat zm a,.dat zm b,.dat zm d,.dat (zi Te) c])] 1
theorem Aj(s:Bn):T s=let a:=snd<|snd<|snd s;let b:=fst<|snd<|snd s;let d:=BQ (fst s) (-10000) 10000==0;let f:=BQ (fst<|snd s) (-10000) 10000==0;let c:Tr:=.di ((↑(length<|snd a):Int)>16) (.leaf (.dat i64 (5:Int)) [])<|L1 0 (fst s) (fst<|snd s) b (fst a)<|snd a;let b':Tr:=.ck (decide (length (fst a)<=1000000)&&He 0&&He 10000)<|.ite (BQ (fst a) 0 10000 !=0) (.leaf (.dat i64<|BQ (fst a) 0 10000) []) c;let e:Tr:=.ck (decide (length b<=1000000)&&He 0&&He 10000)<|.ite (BQ b 0 10000==0) b'<|.ite (BQ b 0 10000 !=0) (.leaf (.dat i64<|BQ b 0 10000) []) c;.ck (decide (length (fst s)<=1000000)&&He (-10000)&&He 10000) (.ite d (.ck (decide (length (fst<|snd s)<=1000000)&&He (-10000)&&He 10000)<|.ite f e<|.ite f b'<|.ite (BQ (fst<|snd s) (-10000) 10000 !=0) (.leaf (.dat i64<|BQ (fst<|snd s) (-10000) 10000) []) c)<|.ite d e<|.ite d b'<|.ite (BQ (fst s) (-10000) 10000 !=0) (.leaf (.dat i64<|BQ (fst s) (-10000) 10000) []) c):=by kernel_rfl
theorem Ak(v4:Int)(g c d b:Z)(a:List EB):stepT zE (L1 v4 g c d b a)=let b':=getD a (toNat v4) ([],0);let h:=decide (v4<(length a:Int));let f:Tr:=.leaf (.dat i64 (3:Int)) [];let e:=decide (0<=v4)&&h;.ite h (.ck e<|.ck true<|.ite (!zr (fst b')) (.leaf (.dat i64 (8:Int)) [])<|.ck e<|.di (snd b'<0) f<|.ck e<|.di (snd b'>10) f<|L1 (zf .i64<|v4+1) g c d b a) (.leaf (.dat i64 (0:Int)) []):=by kernel_rfl
end T46
namespace T10
def T(c:AF):Tr:=tree Fb false 9 10<|Ag ([Bc]) c
def L1(v3:Int)(c:List Bn)(a:List B3)(b:List Bm):Tr:=re ((T ([],([],[]))).R.R)<|Aw 147 [(1,.ptr 0 0),(3,.dat i64 v3)] [(0,.box [.dat (zi Bt) c,.dat (zi CM) a,.dat (zi Bh) b])] 1
theorem Aj(c:AF):T c=.ite ((↑(length<|fst c):Int)==0) (.leaf (.dat i64 (12:Int)) []) (.di ((↑(length<|fst c):Int)>36) (.leaf (.dat i64 (5:Int)) [])<|L1 0 (fst c) (fst<|snd c)<|snd<|snd c):=by kernel_rfl
def L2(d:Int)(c:List Bn)(a:List B3)(b:List Bm):Tr:=re ((stepT Fb<|L1 0 [] [] []).R.R.R)<|Aw 147 [(1,.ptr 0 0),(5,.nil),(6,.dat i64 d)] [(0,.box [.dat (zi Bt) c,.dat (zi CM) a,.dat (zi Bh) b])] 1
theorem Ak(v3:Int)(c:List Bn)(a:List B3)(b:List Bm):stepT Fb (L1 v3 c a b)=let d:=getD c (toNat v3) ([],[],[],[],[]);let b':=decide (v3<(length c:Int));.ite b' (.ck (decide (0<=v3)&&b')<|.ck (yp d)<|.ite (Ly d !=0) (.leaf (.dat i64<|Ly d) [])<|L1 (zf .i64<|v3+1) c a b) (.ite ((length a:Int)==0) (.leaf (.dat i64 (12:Int)) [])<|.di ((length a:Int)>8) (.leaf (.dat i64 (5:Int)) [])<|L2 0 c a b):=by kernel_rfl
def L3(f d v9:Int)(o1:Z)(a:List Int)(e:List Bn)(b:List B3)(c:List Bm):Tr:=re ((stepT Fb<|L2 0 [] [] []).L.L.L.L.L)<|Aw 147 [(1,.ptr 0 0),(5,.nil),(6,.dat i64 f),(7,.ptr 1 0),(8,.dat i64 d),(9,.dat i64 v9)] [(1,.box [.dat zm o1,.dat (zi i64) a]),(0,.box [.dat (zi Bt) e,.dat (zi CM) b,.dat (zi Bh) c])] 2
def L4(c:Int)(d:List Bn)(a:List B3)(b:List Bm):Tr:=re ((stepT Fb<|L2 0 [] [] []).R.R.R)<|Aw 147 [(1,.ptr 0 0),(5,.nil),(10,.dat i64 c)] [(0,.box [.dat (zi Bt) d,.dat (zi CM) a,.dat (zi Bh) b])] 1
theorem Az(d:Int)(e:List Bn)(a:List B3)(b:List Bm):stepT Fb (L2 d e a b)=let c:=getD a (toNat d) ([],[]);let f:=decide (d<(length a:Int));let b':=L3 d (KI (fst c) []) 0 (fst c) (snd c) e a b;.ite f (.ck (decide (0<=d)&&f)<|.cd (0<=1000)<|.ite (KI (fst c) []==0) (.ite ((↑(length<|snd c):Int) !=(length e:Int)) (L3 d 2 0 (fst c) (snd c) e a b) b') b') (.ite ((length b:Int)==0) (.leaf (.dat i64 (12:Int)) [])<|.di ((length b:Int)>8) (.leaf (.dat i64 (5:Int)) [])<|L4 0 e a b):=by kernel_rfl
def L5(c:Nat)(e:Int)(o1:List Z)(d:List Bn)(a:List B3)(b:List Bm):Tr:=re ((stepT Fb<|L3 0 0 0 [] [] [] [] []).L.R.R.L)<|Aw 147 [(1,.ptr 0 0),(5,.sl 1 1 0 c none),(6,.dat i64 e)] [(1,.arr false 9 zm o1),(0,.box [.dat (zi Bt) d,.dat (zi CM) a,.dat (zi Bh) b])] 2
theorem Bq(f d v9:Int)(o1:Z)(a:List Int)(e:List Bn)(b:List B3)(c:List Bm):stepT Fb (L3 f d v9 o1 a e b c)=let i:Tr:=.ite (d !=0) (.leaf (.dat i64 d) [])<|.ck (aa 16)<|L5 1 (zf .i64<|f+1) [o1] e b c;let g:=decide (v9<(length a:Int));let h:=zf .i64<|v9+1;let b':=L3 f 3 h o1 a e b c;.ite g (.ite (d==0) (.ck (decide (0<=v9)&&g)<|.di (getD a (toNat v9) 0<1) b'<|.ck (decide (0<=v9)&&g)<|.di (getD a (toNat v9) 0>10000) b'<|L3 f d h o1 a e b c) i) i:=by kernel_rfl
def L6(d:Nat)(c:Int)(o1:List Z)(e:List Bn)(a:List B3)(b:List Bm):Tr:=re ((stepT Fb<|L4 0 [] [] []).L.L.L.L.L.L.R.L.L)<|Aw 147 [(1,.ptr 0 0),(5,.sl 1 1 0 d none),(10,.dat i64 c)] [(1,.arr false 9 zm o1),(0,.box [.dat (zi Bt) e,.dat (zi CM) a,.dat (zi Bh) b])] 2
theorem Ck(b:Int)(g:List Bn)(c:List B3)(a:List Bm):stepT Fb (L4 b g c a)=let d:=getD a (toNat b) ([],[],[],[],[]);let f:=decide (b<(length a:Int));let e:=decide (0<=b)&&f;let b':Tr:=.ck e<|.ck (aa 16)<|L6 1 (zf .i64<|b+1) ([fst d]) g c a;.ite f (.ck e<|.ck (Mr d)<|.ite (J8 d==0) (.ck e<|.cd (0<=1000)<|.ite (KI (fst d) [] !=0) (.leaf (.dat i64<|KI (fst d) []) []) b')<|.ite (J8 d !=0) (.leaf (.dat i64<|J8 d) []) b') (.leaf (.dat i64 (0:Int)) []):=by kernel_rfl
def L7(d:Nat)(h g v9:Int)(f:Z)(c:List Int)(o1:List Z)(e:List Bn)(a:List B3)(b:List Bm):Tr:=re ((stepT Fb<|L5 0 0 [] [] [] []).L.L.L.L.L)<|Aw 147 [(1,.ptr 0 0),(5,.sl 1 1 0 d none),(6,.dat i64 h),(7,.ptr 2 0),(8,.dat i64 g),(9,.dat i64 v9)] [(2,.box [.dat zm f,.dat (zi i64) c]),(1,.arr false 9 zm o1),(0,.box [.dat (zi Bt) e,.dat (zi CM) a,.dat (zi Bh) b])] 3
theorem EF(c:Nat)(e:Int)(o1:List Z)(f:List Bn)(a:List B3)(b:List Bm):stepT Fb (L5 c e o1 f a b)=let d:=getD a (toNat e) ([],[]);let g:=decide (e<(length a:Int));let b':=L7 c e (KI (fst d)<|take c o1) 0 (fst d) (snd d) o1 f a b;.ite g (.ck (decide (0<=e)&&g)<|.ck (decide (0+c<=length o1)&&true&&decide (length (take c o1)<=1000))<|.ite (KI (fst d) (take c o1)==0) (.ite ((↑(length<|snd d):Int) !=(length f:Int)) (L7 c e 2 0 (fst d) (snd d) o1 f a b) b') b') (.ite ((length b:Int)==0) (.leaf (.dat i64 (12:Int)) [])<|.di ((length b:Int)>8) (.leaf (.dat i64 (5:Int)) [])<|L4 0 f a b):=by kernel_rfl
theorem E2(a:Nat)(c:Int)(o1:List Z)(h:List Bn)(d:List B3)(b:List Bm):stepT Fb (L6 a c o1 h d b)=let b':=getD b (toNat c) ([],[],[],[],[]);let f:=decide (c<(length b:Int));let e:=decide (0<=c)&&f;let g:Tr:=.ck e<|.ck (ac a (length o1) 16)<|L6 (yn a 1) (zf .i64<|c+1) (o1++[fst b']) h d b;.ite f (.ck e<|.ck (Mr b')<|.ite (J8 b'==0) (.ck e<|.ck (decide (0+a<=length o1)&&true&&decide (length (take a o1)<=1000))<|.ite (KI (fst b') (take a o1) !=0) (.leaf (.dat i64<|KI (fst b')<|take a o1) []) g)<|.ite (J8 b' !=0) (.leaf (.dat i64<|J8 b') []) g) (.leaf (.dat i64 (0:Int)) []):=by kernel_rfl
theorem DW(d:Nat)(h e v9:Int)(g:Z)(a:List Int)(o1:List Z)(f:List Bn)(b:List B3)(c:List Bm):stepT Fb (L7 d h e v9 g a o1 f b c)=let k:Tr:=.ite (e !=0) (.leaf (.dat i64 e) [])<|.ck (ac d (length o1) 16)<|L5 (yn d 1) (zf .i64<|h+1) (o1++[g]) f b c;let i:=decide (v9<(length a:Int));let j:=zf .i64<|v9+1;let b':=L7 d h 3 j g a o1 f b c;.ite i (.ite (e==0) (.ck (decide (0<=v9)&&i)<|.di (getD a (toNat v9) 0<1) b'<|.ck (decide (0<=v9)&&i)<|.di (getD a (toNat v9) 0>10000) b'<|L7 d h e j g a o1 f b c) k) k:=by kernel_rfl
end T10
namespace T115
def T(c:AF):Tr:=tree Me false 9 115<|Ag ([Bc]) c
def L1(e:List Bn)(c d:Int)(f:List Bn)(a:List B3)(b:List Bm):Tr:=re ((T ([],([],[]))).L.R)<|Aw 116 [(1,.ptr 0 0),(26,.dat (zi Bt) e),(27,.dat i64 c),(28,.dat i64 d)] [(0,.box [.dat (zi Bt) f,.dat (zi CM) a,.dat (zi Bh) b])] 1
theorem Aj(c:AF):T c=let a:=(↑(length<|fst c):Int);.ck true (.ite (C2 a 36 !=0) (.leaf (.dat i64<|C2 a 36) [])<|L1 (fst c) a 0 (fst c) (fst<|snd c)<|snd<|snd c):=by kernel_rfl
def L2(d:List B3)(c e:Int)(o1:List (Z×Bool))(f:List Bn)(a:List B3)(b:List Bm):Tr:=re ((stepT Me<|L1 [] 0 0 [] [] []).R.L.R)<|Aw 116 [(1,.ptr 0 0),(8,PV.mp 1),(47,.dat (zi CM) d),(48,.dat i64 c),(49,.dat i64 e)] [(1,Obj.map zm z8 o1),(0,.box [.dat (zi Bt) f,.dat (zi CM) a,.dat (zi Bh) b])] 2
theorem Ak(d:List Bn)(e b:Int)(g:List Bn)(a:List B3)(c:List Bm):stepT Me (L1 d e b g a c)=let f:=getD d (toNat b) ([],[],[],[],[]);let b':=(length a:Int);.di (b<e) (.ck (decide (0<=b)&&decide (b<(length d:Int)))<|.ck (yp f)<|.ite (Ly f !=0) (.leaf (.dat i64<|Ly f) [])<|L1 d e (zf .i64<|b+1) g a c) (.ck true<|.ite (C2 b' 8 !=0) (.leaf (.dat i64<|C2 b' 8) [])<|L2 a b' 0 [] g a c):=by kernel_rfl
def L3(j:List B3)(f h:Int)(o1:List (Z×Bool))(n:List Bn)(c:List B3)(d:List Bm)(v0:List Int)(m l:Int)(k:Z)(e:List Int)(g:List (Z×Bool))(i:List Bn)(a:List B3)(b:List Bm):Tr:=re ((stepT Me<|L2 j f h o1 n c d).L.L)<|Aw 19 [(0,.dat (zi i64) v0),(1,PV.fn (Go.Fn.func 165) [] []),(7,.dat i64 m),(8,.dat i64 l)] [(2,.box [.dat zm k,.dat (zi i64) e]),(1,Obj.map zm z8 g),(0,.box [.dat (zi Bt) i,.dat (zi CM) a,.dat (zi Bh) b])] 3
def L4(c:List Bm)(b a:Int)(d:List (Z×Bool)):Tr:=re ((stepT Me<|L2 [] 0 0 [] [] [] []).R.L.R)<|Aw 116 [(14,PV.mp 0),(94,.dat (zi Bh) c),(95,.dat i64 b),(96,.dat i64 a)] [(0,Obj.map zm z8 d)] 1
theorem Az(d:List B3)(e b:Int)(o1:List (Z×Bool))(g:List Bn)(c:List B3)(a:List Bm):stepT Me (L2 d e b o1 g c a)=let f:=getD d (toNat b) ([],[]);let b':=(length a:Int);.di (b<e) (.ck (decide (0<=b)&&decide (b<(length d:Int)))<|L3 d e b o1 g c a (snd f) ((↑(length<|snd f):Int)) 0 (fst f) (snd f) o1 g c a) (.ck true<|.ite (C2 b' 8 !=0) (.leaf (.dat i64<|C2 b' 8) [])<|L4 a b' 0 []):=by kernel_rfl
theorem Bq(k:List B3)(i j:Int)(o1:List (Z×Bool))(r:List Bn)(g:List B3)(h:List Bm)(v0:List Int)(o f:Int)(l:Z)(c:List Int)(d:List (Z×Bool))(e:List Bn)(a:List B3)(b:List Bm):stepT Me (L3 k i j o1 r g h v0 o f l c d e a b)=let b':=Option.getD (Eh zm z8 l d) false;let m:=(length c:Int) !=(↑(length e):Int);let p:=L2 k i (zf .i64<|j+1) (HP zm z8 l true d) e a b;let n:=!zr l;let s:=decide (4<=4)&&true&&decide (4<=1000000);let q:Tr:=.ck true<|.ck true<|.ck true<|.ck true<|.ck true<|.ck s<|.ite (zq [Cv n 8,Cv b' 9,Cv m 2,Cv (decide (f>=0)) 3] !=0) (.leaf (.dat i64<|zq [Cv n 8,Cv b' 9,Cv m 2,Cv (decide (f>=0)) 3]) []) p;.di (f<o) (.ck (decide (0<=f)&&decide (f<(length v0:Int)))<|.di (getD v0 (toNat f) 0<1) q<|.di (getD v0 (toNat f) 0>10000) q<|L3 k i j o1 r g h v0 o (zf .i64<|f+1) l c d e a b) (.ck true<|.ck true<|.ck true<|.ck true<|.ck true<|.ck s<|.ite (zq [Cv n 8,Cv b' 9,Cv m 2,Cv false 3] !=0) (.leaf (.dat i64<|zq [Cv n 8,Cv b' 9,Cv m 2,Cv false 3]) []) p):=by kernel_rfl
theorem Ck(b:List Bm)(c a:Int)(e:List (Z×Bool)):stepT Me (L4 b c a e)=let d:=getD b (toNat a) ([],[],[],[],[]);let b':=Option.getD (Eh zm z8 (fst d) e) false;.di (a<c) (.ck (decide (0<=a)&&decide (a<(length b:Int)))<|.ck (yh d)<|.ck true<|.ck (decide (2<=2)&&true&&decide (2<=1000000))<|.ite (zq [J8 d,Cv b' 9] !=0) (.leaf (.dat i64<|zq [J8 d,Cv b' 9]) [])<|L4 b c (zf .i64<|a+1)<|HP zm z8 (fst d) true e) (.leaf (.dat i64 (0:Int)) []):=by kernel_rfl
end T115
namespace T51
def T(c:AF)(l:List (Int×Int)):Tr:=tree Aal false 9 51<|Ag ([Bc,zi<|Sh.pair i64 i64]) (c,l)
def L1(c:AF)(l:List (Int×Int))(v0:List (Int×Int))(f d:Int)(e:List Bn)(a:List B3)(b:List Bm):Tr:=re ((T c l).L.R)<|Aw 19 [(0,.dat (zi<|Sh.pair i64 i64) v0),(1,PV.fn (Go.Fn.func 117) [] []),(7,.dat i64 f),(8,.dat i64 d)] [(0,.box [.dat (zi Bt) e,.dat (zi CM) a,.dat (zi Bh) b])] 1
theorem Aj(c:AF)(l:List (Int×Int)):T c l=.ck (IS c) (.ite (NX c !=0) (.leaf (.dat i64<|NX c) [])<|L1 c l l ((length l:Int)) 0 (fst c) (fst<|snd c)<|snd<|snd c):=by kernel_rfl
theorem Ak(c:AF)(l:List (Int×Int))(v0:List (Int×Int))(e d:Int)(g:List Bn)(a:List B3)(b:List Bm):stepT Aal (L1 c l v0 e d g a b)=let f:Tr:=.ck true<|.leaf (.dat i64<|Cv (decide (d>=0)) 10) [];let b':=getD v0 (toNat d) (0,0);.di (d<e) (.ck (decide (0<=d)&&decide (d<(length v0:Int)))<|.di (fst b'<0) f<|.di (fst b'>=snd b') f<|L1 c l v0 e (zf .i64<|d+1) g a b) (.ck true<|.leaf (.dat i64<|Cv false 10) []):=by kernel_rfl
end T51
namespace T204
def T(a:Z)(lo b:Int):Tr:=tree Afj false 9 204<|Ag ([zm,yf zt,yf zt]) (a,lo,b)
theorem Aj(a:Z)(lo b:Int):T a lo b=let c:=((lo,BL lo),1,BL 1);let b':=((b,BL b),1,BL 1);.cd (length a<=1000000) (.ite (An a !=0) (.leaf (.dat i64<|An a) [])<|.ck (DT a)<|.ck true<|.ck (Sp.Ch (Cw a)&&Sp.Ch c)<|.di (Ds (Cw a) c<0) (.ck true<|.leaf (.dat i64<|Cv true 3) [])<|.ck true<|.ck (Sp.Ch (Cw a)&&Sp.Ch b')<|.ck true<|.leaf (.dat i64<|Cv (decide (Ds (Cw a) b'>0)) 3) []):=by kernel_rfl
end T204
namespace T207
def T(l:List AW):Tr:=tree uR false 9 207<|Ag ([zi Ca]) l
def L1(a:List AW)(c b:Int)(d:List (Z×Bool)):Tr:=re ((T []).R)<|Aw 44 [(3,PV.mp 0),(11,.dat (zi Ca) a),(12,.dat i64 c),(13,.dat i64 b)] [(0,Obj.map zm z8 d)] 1
theorem Aj(l:List AW):T l=.di ((length l:Int)>16) (.leaf (.dat i64 (5:Int)) []) (L1 l ((length l:Int)) 0 []):=by kernel_rfl
theorem Ak(c:List AW)(d a:Int)(e:List (Z×Bool)):stepT uR (L1 c d a e)=let b:=getD c (toNat a) ([],[]);let b':=Option.getD (Eh zm z8 (fst b) e) false;.di (a<d) (.ck (decide (0<=a)&&decide (a<(length c:Int)))<|.ck true<|.ck true<|.ck true<|.cd (length (snd b)<=1000000)<|.ck (decide (3<=3)&&true&&decide (3<=1000000))<|.ite (zq [Cv (!zr (fst b)) 8,Cv b' 9,An<|snd b] !=0) (.leaf (.dat i64<|zq [Cv (!zr (fst b)) 8,Cv b' 9,An<|snd b]) [])<|.ck (DT<|snd b)<|.ck (Sp.Dy (RW<|snd b,RR<|snd b))<|.di (Rz (Cw<|snd b)<0) (.leaf (.dat i64 (3:Int)) [])<|L1 c d (zf .i64<|a+1)<|HP zm z8 (fst b) true e) (.leaf (.dat i64 (0:Int)) []):=by kernel_rfl
end T207
namespace T167
def T(l:Bm):Tr:=tree uS false 9 167<|Ag ([Bh]) l
def L1(v4:Int)(e a b:Z)(d c:List AW):Tr:=re ((T ([],([],([],([],[]))))).L.L.L.L.L.L.R)<|Aw 51 [(1,.ptr 0 0),(4,.dat i64 v4)] [(0,.box [.dat zm e,.dat zm a,.dat zm b,.dat (zi Ca) d,.dat (zi Ca) c])] 1
theorem Aj(l:Bm):T l=let a:=fst<|snd<|snd<|snd l;let b':=fst<|snd<|snd l;.ck true (.ck true<|.ck (decide (length (fst<|snd l)<=1000000)&&He 1&&He 10000)<|.ck (decide (length b'<=1000000)&&He 1&&He 10000)<|.ck (decide (length a<=1000)&&GQ 1000000 a)<|.ck (decide (4<=4)&&true&&decide (4<=1000000))<|.ite (zq [Cv (!zr (fst l)) 8,BQ (fst<|snd l) 1 10000,BQ b' 1 10000,BN a] !=0) (.leaf (.dat i64<|zq [Cv (!zr (fst l)) 8,BQ (fst<|snd l) 1 10000,BQ b' 1 10000,BN a]) [])<|L1 1 (fst l) (fst<|snd l) b' a<|snd<|snd<|snd<|snd l):=by kernel_rfl
theorem Ak(v4:Int)(g c d:Z)(a b:List AW):stepT uS (L1 v4 g c d a b)=let e:=snd<|getD a (toNat<|zf .i64<|v4-1) ([],[]);let b':=snd<|getD a (toNat v4) ([],[]);let f:=(length a:Int);.di (v4<f) (.ck (decide (0<=v4)&&decide (v4<f))<|.ck (decide (0<=zf .i64 (v4-1))&&decide (zf .i64 (v4-1)<f))<|.ck (DT b')<|.ck (DT e)<|.ck (Sp.Ch (Cw b')&&Sp.Ch (Cw e))<|.di (Ds (Cw b') (Cw e)<0) (.leaf (.dat i64 (11:Int)) [])<|L1 (zf .i64<|v4+1) g c d a b) (.ck (HO b 40 20)<|.leaf (.dat i64<|OA b) []):=by kernel_rfl
end T167
namespace T164
def T(s:Bn):Tr:=tree AaC false 9 164<|Ag ([Bt]) s
def L1(b:List EB)(a c:Int):Tr:=re ((T ([],([],([],([],[]))))).L.L.L.L.L.L.R)<|Aw 56 [(30,.dat (zi Te) b),(31,.dat i64 a),(32,.dat i64 c)] [] 0
theorem Aj(s:Bn):T s=let a:=snd<|snd<|snd s;let b:=fst<|snd<|snd s;let b':=(↑(length<|snd a):Int);.ck (decide (length (fst s)<=1000000)&&He (-10000)&&He 10000) (.ck (decide (length (fst<|snd s)<=1000000)&&He (-10000)&&He 10000)<|.ck (decide (length b<=1000000)&&He 0&&He 10000)<|.ck (decide (length (fst a)<=1000000)&&He 0&&He 10000)<|.ck true<|.ck (decide (5<=5)&&true&&decide (5<=1000000))<|.ite (zq [BQ (fst s) (-10000) 10000,BQ (fst<|snd s) (-10000) 10000,BQ b 0 10000,BQ (fst a) 0 10000,Cv (decide (b'>16)) 5] !=0) (.leaf (.dat i64<|zq [BQ (fst s) (-10000) 10000,BQ (fst<|snd s) (-10000) 10000,BQ b 0 10000,BQ (fst a) 0 10000,Cv (decide (b'>16)) 5]) [])<|L1 (snd a) b' 0):=by kernel_rfl
theorem Ak(b:List EB)(c a:Int):stepT AaC (L1 b c a)=let d:=getD b (toNat a) ([],0);let f:=decide (2<=2)&&true&&decide (2<=1000000);let e:=L1 b c<|zf .i64<|a+1;let b':=!zr (fst d);.di (a<c) (.ck (decide (0<=a)&&decide (a<(length b:Int)))<|.ck true<|.ck true<|.di (snd d<0) (.ck true<|.ck f<|.ite (zq [Cv b' 8,Cv true 3] !=0) (.leaf (.dat i64<|zq [Cv b' 8,Cv true 3]) []) e)<|.ck true<|.ck f<|.ite (zq [Cv b' 8,Cv (decide (snd d>10)) 3] !=0) (.leaf (.dat i64<|zq [Cv b' 8,Cv (decide (snd d>10)) 3]) []) e) (.leaf (.dat i64 (0:Int)) []):=by kernel_rfl
end T164
namespace T111
def T(s:Z):Tr:=tree Xo false 9 111<|Ag ([zm]) s
def L1(v0:Z)(v3:Int):Tr:=re ((T []).R.R)<|Aw 56 [(0,.dat zm v0),(3,.dat i64 v3)] [] 0
theorem Aj(s:Z):T s=.di ((length s:Int)<1) (.leaf (.bl false) []) (.di ((length s:Int)>24) (.leaf (.bl false) [])<|L1 s 0):=by kernel_rfl
theorem Ak(v0:Z)(v3:Int):stepT Xo (L1 v0 v3)=let b':=(↑(UInt8.toNat<|getD v0 (toNat v3) (0:UInt8)):Int);let a:=L1 v0<|zf .i64<|v3+1;let b:Tr:=.leaf (.bl false) [];let d:=decide (v3<(length v0:Int));let e:Tr:=.ite (v3==0) b<|.di (b'>=48) (.di (b'<=57) a<|.ite (!b'==95) b a)<|.ite (!b'==95) b a;let c:Tr:=.di (b'>=65) (.ite (!decide (b'<=90)) e a) e;.ite d (.ck (decide (0<=v3)&&d)<|.di (b'>=97) (.di (b'<=122) a c) c) (.leaf (.bl true) []):=by kernel_rfl
end T111
end
theorem T166.okU:Af A4 166 dN:=by
 refine BD Tg<|fun(s:Z) _=>?_;have d:∀v b,v=.bl b\/v=.dat .bool b->b=zr s->∀ob,Ac dN s v ob:=by
  rintro v b (rfl|rfl) k ob
  ·exact ya rfl rfl k
  ·exact ya rfl rfl k
 refine zx (T166.Aj s) ?_;conv=>zeta
 refine zh (T166.Ak ..) ?_;conv=>zeta
 cases s with
 |nil=>
  refine zj (by simp) (zj (by simp) ?_);exact zd<|d _ _ (.inl rfl) rfl _
 |cons x r=>
  refine zc (by simp) ?_;simp only[FA,HC,w5,yg,w9,bne_iff_ne,wm,wk];have step:zz (x.toNat:Int)=true->KT (x::r) 0=1->Ends Xo (T166.L2 (x::r) (x::r)<|yn 0<|KT (x::r) 0) (Ac dN (x::r)):=by
   intro a m;rw[m];refine T166.loop (x::r) (by simp) r 1 rfl (by simp) ae (fun e=>d _ _ (.inl rfl) ?_) (fun e=>d _ _ (.inr rfl) ?_)
   ·simp[zr,e]
   ·simp only[zr,e,a,yd,zo];congr 1;apply propext;push_cast;omega
  have no:zz (x.toNat:Int)=false->∀ob,Ac dN (x::r) (.bl false) ob:=fun a=>d _ _ (.inl rfl) (by simp[zr,a])
  have l:(x::r).getD 0 0=x:=rfl;by_cases j:((x::r).getD 0 0).toNat<128
  ·obtain⟨n,p⟩:=Wi (s:=x::r) (i:=0) (by simp) j;rw[n,l];have f:=K4 (x.toNat:Int);generalize ((x.toNat:Nat):Int)=c at f step no ⊢;by_cases a:zz c=true
   ·have:=f.1 a;repeat' split
    all_goals first|exact step a p|(exfalso;omega)
   ·have g:zz c=false:=by simpa using a
    have:¬_:=fun h=>a<|f.2 h
    repeat' split
    all_goals first|exact no g _|(exfalso;omega)
  ·have hr:=SW (s:=x::r) (i:=0) (by simp) ae;have o:zz (x.toNat:Int)=false:=by
    have:¬zz (x.toNat:Int)=true:=fun h=>by
     have:=(K4 _).1 h;rw[l]at j;omega
    simpa using this
   repeat' split
   all_goals first|exact no o _|(exfalso;omega)
namespace T111
theorem loop(s:Z)(o:s.length<=24):∀(r:Z) (i:Nat),s.drop i=r->i<=s.length->
  (((decide (1<=i)||zz ((r.headD 97).toNat:Int))&&(r.all fun c=>yj (c.toNat:Int)))=false->Q (.bl false) [])->(((decide (1<=i)||zz ((r.headD 97).toNat:Int))&&(r.all fun c=>yj (c.toNat:Int)))=true->Q (.bl true) [])->Ends Xo (L1 s i) Q
 |[],i,h,n,g,k=>by
  have:=drop_nil h n;refine zh (Ak ..) (zj (by simp;omega) ?_);exact zd (k<|by simp;exact .inr af)
 |x::r,i,h,n,g,k=>by
  obtain⟨q,p,t⟩:=drop_cons (d:=0) h;refine zh (Ak ..) ?_;conv=>zeta
  simp only[zg,p];rw[wr _ ae ae];have b:=Ra (x.toNat:Int);have li:=K4 (x.toNat:Int);have step:(1<=i\/zz (x.toNat:Int)=true)->yj (x.toNat:Int)=true->Ends Xo (L1 s<|(i:Int)+1) Q:=by
   intro hm m;have e:((i:Int)+1)=((i+1:Nat):Int):=by push_cast;rfl
   rw[e];refine loop s o r (i+1) t q (fun e=>g ?_)<|fun e=>k ?_
   ·simp only[zu,m,zy];have:(r.all fun c=>yj (c.toNat:Int))=false:=by simpa using e
    rw[this,yc]
   ·have:(r.all fun c=>yj (c.toNat:Int))=true:=by simpa using e
    simp only[zu,m,this,yd,Bool.or_eq_true,w5,yo];exact hm
  have no:(¬(1<=i\/zz (x.toNat:Int)=true)\/yj (x.toNat:Int)=false)->Q (.bl false) []:=by
   intro hm;refine g ?_;simp only[yo,zu];rcases hm with hm|hm
   ·have:(decide (1<=i)||zz (x.toNat:Int))=false:=by
     rw[Bool.eq_false_iff];intro h;apply hm;simpa using h
    rw[this,zw]
   ·rw[hm,zw,yc]
  generalize ((x.toNat:Nat):Int)=c at b li step no ⊢;by_cases hm:yj c=true
  ·have l:=b.1 hm;by_cases a:1<=i\/zz c=true
   ·have j:1<=i\/(97<=c/\c<=122)\/(65<=c/\c<=90):=a.imp id li.1;repeat' (with_reducible refine ze (fun _=>?_)<|fun _=>?_)
    all_goals first|with_reducible exact step a hm|(exfalso;simp only[w5,w9,yg,zk,yi,wj,vc,wm]at*;omega)
   ·have j:¬(1<=i\/(97<=c/\c<=122)\/(65<=c/\c<=90)):=fun h=>a<|h.imp id li.2
    repeat' (with_reducible refine ze (fun _=>?_)<|fun _=>?_)
    all_goals first|with_reducible exact zd (no<|.inl a)|(exfalso;simp only[w5,w9,yg,zk,yi,wj,vc,wm,Bool.not_eq_false']at*;omega)
  ·have f:yj c=false:=by simpa using hm
   have l:¬_:=fun h=>hm<|b.2 h
   repeat' (with_reducible refine ze (fun _=>?_)<|fun _=>?_)
   all_goals first|with_reducible exact zd (no<|.inr f)|(exfalso;simp only[w5,w9,yg,zk,yi,wj,vc,wm,Bool.not_eq_false']at*;omega)
theorem ok:Af A4 111 dN:=by
 refine BD Tg<|fun(s:Z) _=>?_;have a:∀b,b=zr s->Ac dN s (.bl b) []:=fun b g=>ya rfl rfl g
 refine zx (Aj s) ?_;conv=>zeta
 rw[FA];cases s with
 |nil=>rw[wd (by simp),HC];exact a _ rfl
 |cons x r=>
  rw[wc (by simp;omega),FA];by_cases h:(x::r).length<=24
  ·rw[wc<|by simp at h ⊢;omega];have d:decide (r.length<=23)=true:=by simp at h ⊢;omega
   have key:zr (x::r)=((decide (1<=0)||zz (((x::r).headD 97).toNat:Int))&&((x::r).all fun c=>yj (c.toNat:Int))):=by
    simp only[zr,d,yo,zu,zy];cases f:zz (x.toNat:Int)with
    |false=>simp
    |true=>
     have:yj (x.toNat:Int)=true:=by unfold yj;rw[f];rfl
     simp[this]
   exact loop (x::r) h (x::r) 0 rfl (by simp) (fun e=>a _<|by rw[key];exact e.symm) (fun e=>a _<|by rw[key];exact e.symm)
  ·rw[wd (by simp at h ⊢;omega),HC];exact a _ (by simp only[zr];rw[w8<|by simp at h;omega];rfl)
end T111
section
open List Int Prod
namespace T60
def T(l:List Int):Tr:=tree Xo false 9 60<|Ag ([zi i64]) l
def L1(v5:List Int)(b a:Int):Tr:=re ((T []))<|Aw 15 [(5,.dat (zi i64) v5),(6,.dat i64 b),(7,.dat i64 a)] [] 0
theorem Aj(l:List Int):T l=L1 l ((length l:Int)) 0:=by kernel_rfl
theorem Ak(v5:List Int)(b a:Int):stepT Xo (L1 v5 b a)=.di (a<b) (.ck (decide (0<=a)&&decide (a<(length v5:Int)))<|.ite (getD v5 (toNat a) 0 !=0) (.leaf (.dat i64<|getD v5 (toNat a) 0) [])<|L1 v5 b<|zf .i64<|a+1) (.leaf (.dat i64 (0:Int)) []):=by kernel_rfl
end T60
namespace T91
def T(c:Bool)(e:Int):Tr:=tree Xo false 9 91<|Ag ([z8,yf zt]) (c,e)
theorem Aj(c:Bool)(e:Int):T c e=.ite c (.leaf (.dat i64 e) []) (.leaf (.dat i64 (0:Int)) []):=by kernel_rfl
end T91
namespace T90
def T(n m:Int):Tr:=tree Af0 false 9 90<|Ag ([yf zt,yf zt]) (n,m)
theorem Aj(n m:Int):T n m=.ck true (.ck true<|.ck (decide (2<=2)&&true&&decide (2<=1000000))<|.leaf (.dat i64<|zq [Cv (n==0) 12,Cv (decide (n>m)) 5]) []):=by kernel_rfl
end T90
namespace T54
def T(a:Ae):Tr:=tree AfM false 9 54<|Ag ([Au]) a
theorem Aj(a:Ae):T a=let b:=((fst a),fst<|snd a,snd<|snd a);.ck (Sp.Ch b) (.ite (IW b) (.leaf (.tup [.dat zm [],.dat i64 (4:Int)]) [])<|.ck (Sp.Ch b)<|.leaf (.tup [.dat zm<|KZ b,.dat i64 (0:Int)]) []):=by kernel_rfl
end T54
namespace T17
def T(a:Z)(e b:Int)(w:Z):Tr:=tree aN false 9 17<|Ag ([zm,yf zt,yf zt,zm]) (a,e,b,w)
theorem Aj(a:Z)(e b:Int)(w:Z):T a e b w=let b':Tr:=.leaf (.bl false) [];let c:Tr:=.ite (e==0) (.leaf (.dat z8<|a==w) []) b';.ite (b==0) (.cd (length w<=1000000)<|.ite (FT w !=0) (.ite (a==[]) (.leaf (.dat z8<|e==FT w) []) b') c) (.ite (b !=0) (.ite (a==[]) (.leaf (.dat z8<|e==b) []) b') c):=by kernel_rfl
end T17
namespace T93
def T(n:Int):Tr:=tree AbH false 9 93<|Ag ([yf zt]) n
theorem Aj(n:Int):T n=.ck (Ct n) (.ck (CD (Sp.rN n,Sp.rW n))<|.leaf (.dat zm<|F7 (Sp.rN n,Sp.rW n)) []):=by kernel_rfl
end T93
end
namespace T60
theorem loop{Q:PV->Ob->Prop}(l:List Int)(j:l.length<=1000000)(a:∀ob,Q (.dat i64<|zq l) ob):∀(r:List Int) (i:Nat),l.drop i=r->i<=l.length->zq l=zq r->Ends Xo (L1 l ((l.length:Int)) (i:Int)) Q
 |[],i,h,c,e=>by
  have n:=drop_nil h c;refine zh (Ak ..) (zj (w8 ae)<|zd ?_);rw[e]at a;exact a _
 |x::r,i,h,c,e=>by
  obtain⟨f,m,g⟩:=drop_cons (d:=0) h;refine zh (Ak ..) ?_;conv=>zeta
  have k:=wn (i:=i) ae;rw[k,zg,m];refine zc (w4 ae) (zc (ad ae ae) ?_);by_cases b:x=0
  ·subst b;refine zj rfl (loop l j a r (i+1) g f ?_);rw[e];rfl
  ·have ex:zq (x::r)=x:=by unfold zq;rw[wd b]
   refine zc (by simpa using b)<|zd ?_;rw[e,ex]at a;exact a _
theorem ok:Af A4 60 Gq:=by
 refine BD Tg<|fun(l:List Int) hl=>?_;exact zx (Aj l)<|loop l (w6 hl) (fun ob=>ya rfl rfl rfl) l 0 rfl (zn _) rfl
end T60
theorem T91.ok:Af A4 91 G7:=by
 refine BD Tg<|fun⟨c,e⟩ _=>?_;refine zx (T91.Aj c e)<|ze (fun h=>zd<|ya rfl rfl ?_)<|fun h=>zd<|ya rfl rfl ?_
 ·show e=Cv c e;rw[h];rfl
 ·show(0:Int)=Cv c e;rw[h];rfl
theorem tH:CE Af0:=Aa T60.ok<|Aa T91.ok Ay
theorem count_eq(n m:Int):zq [Cv (n==0) 12,Cv (decide (n>m)) 5]=C2 n m:=by
 rw[Kk,E5,E5];unfold C2;by_cases h:n=0
 ·subst h;rfl
 ·have e:(n==0)=false:=by simpa using h
  rw[e,wc (show ¬(if false=true then(12:Int)else 0)≠0 by decide),wc h];by_cases k:m<n
  ·rw[wd k,w4<|show n>m from k];rfl
  ·rw[wc k,w8<|show ¬n>m from k];rfl
theorem T90.ok:Af A4 90 mV:=by
 refine BD tH<|fun(i:Int×Int) _=>?_;obtain⟨n,m⟩:=i;refine zx (T90.Aj n m) ?_;conv=>zeta
 rw[count_eq];exact zc rfl (zc rfl (zc rfl (zd<|ya rfl rfl rfl)))
end Go.Pe
namespace Go.Sp
theorem Qg(n:Int):F7 (rN n,rW n)=AH ((n:Int):Rat):=by rw[Mb,SL]
theorem X8{n:Int}{k:Nat}(h:n.natAbs<10^k)(a:1<=k):Nu k (AH (n:Rat)) (n:Rat):=by
 have b:10^1<=10^k:=Nat.pow_le_pow_right af a;refine⟨rfl,?_,?_⟩
 ·rw[Rat.num_intCast];exact h
 ·rw[Rat.den_intCast];omega
theorem Nu.nz{k:Nat}{s:Z}{q:Rat}(h:Nu k s q)(a:k<=1400)(h0:q≠0):VZ s=true:=lM (h.Di a) fun e=>h0 ((h.JF ae).1 e)
theorem LO:Nu 1 [48] 0:=by
 refine⟨by decide+kernel,?_⟩;unfold CZ;decide+kernel
theorem sQ{s:Z}{n:Nat}(h:Ci s (n:Int)=true):YH s<=n:=by
 unfold Ci at h;rw[zk,zk,zk,w5,w5,w5,w5]at h;obtain⟨⟨_,a⟩,b⟩:=h;unfold YH;omega
end Go.Sp
namespace Go.Pe
open Sp
open Go.Det
theorem tM:CE AfM:=Aa T118.ok<|Aa T119.ok Ay
theorem T54.ok:Af A4 54 TJ:=by
 refine BD tM<|fun(a:(Int×List Int)×(Int×List Int)) ha=>?_;refine zx (T54.Aj a)<|zc ha<|ze (fun c=>zd<|ya rfl rfl ?_)<|fun c=>zc ha<|zd<|ya rfl rfl ?_
 ·have c:IW a=true:=c;show([],(4:Int))=(Kv a,IM a);unfold Kv IM;rw[wd c,wd c]
 ·have c:IW a=false:=c;show(KZ a,(0:Int))=(Kv a,IM a);unfold Kv IM;rw[wc (by rw[c];decide),wc<|by rw[c];decide]
theorem gV:CE aN:=Aa T61.ok Ay
theorem T17.ok:Af A4 17 Sr:=by
 refine BD gV<|fun(i:Z×Int×Int×Z) hi=>?_;obtain⟨a,e,bad,w⟩:=i;have f:∀v ob,v=FZ a e w bad->Ac Sr (a,e,bad,w) (.dat .bool v) ob:=fun v ob h=>ya rfl rfl h
 have b:∀v ob,v=FZ a e w bad->Ac Sr (a,e,bad,w) (.bl v) ob:=fun v ob h=>ya rfl rfl h
 have key:∀x:Int,x=(if bad=0 then FT w else bad)->FZ a e w bad=if x≠0 then decide (a=[])&&decide (e=x)else decide (e=0)&&decide (a=w):=by
  rintro x rfl;rfl
 have yes:∀(x:Int) ob,x=(if bad=0 then FT w else bad)->x≠0->Ends aN (.ite (a==[]) (.leaf (PV.dat z8<|e==x) ob)<|.leaf (PV.bl false) ob) (Ac Sr (a,e,bad,w)):=fun x ob h h0=>by
  have k:=key x h;rw[wd h0]at k;refine ze (fun c=>zd<|f _ _ ?_)<|fun c=>zd<|b _ _ ?_
  ·have c:a=[]:=by simpa using c
   rw[k,w4 c,zy];rfl
  ·have c:a≠[]:=by simpa using c
   rw[k,w8 c];rfl
 have no:∀(x:Int) ob,x=(if bad=0 then FT w else bad)->x=0->Ends aN (.ite (e==0) (.leaf (PV.dat z8<|a==w) ob)<|.leaf (PV.bl false) ob) (Ac Sr (a,e,bad,w)):=fun x ob h h0=>by
  have k:=key x h;rw[wc<|by rw[h0];decide]at k;refine ze (fun c=>zd<|f _ _ ?_)<|fun c=>zd<|b _ _ ?_
  ·have c:e=0:=by simpa using c
   rw[k,w4 c,zy];by_cases h:a=w
   ·rw[w4 h];simpa using h
   ·rw[w8 h];simpa using h
  ·have c:e≠0:=by simpa using c
   rw[k,w8 c];rfl
 refine zx (T17.Aj a e bad w)<|ze (fun c=>zc hi<|ze (fun d=>?_)<|fun d=>?_)<|fun c=>ze (fun d=>?_)<|fun d=>?_
 ·have c:bad=0:=by simpa using c
  exact yes _ _ (by rw[wd c]) (by simpa using d)
 ·have c:bad=0:=by simpa using c
  exact no _ _ (by rw[wd c]) (by simpa using d)
 ·have c:bad≠0:=by simpa using c
  exact yes _ _ (by rw[wc c]) c
 ·have c:bad≠0:=by simpa using c
  exact wh (by simpa using d) c
theorem eK:CE AbH:=Aa T143.ok<|Aa T148.ok Ay
theorem T93.ok:Af A4 93 pU:=by
 refine BD eK<|fun(n:Int) a=>?_;have a:n.natAbs<9223372036854775808:=w6 a;have b:Ct n=true:=ad ae ae;refine zx (T93.Aj n)<|zc b<|zc (LN b)<|zd<|ya rfl rfl ?_;exact Qg n
end Go.Pe
namespace Go.Sp
theorem TK{a:Bx}{lo b:Int}(h:An a=0):BQ a lo b=if As a<(lo:Rat)\/(b:Rat)<As a then 3 else 0:=by
 unfold BQ;rw[wc<|by rw[h];decide]
theorem W2{a:Bx}{lo b:Int}(h:An a≠0):BQ a lo b=An a:=by
 unfold BQ;rw[wd h]
theorem UP{n:Int}(h:He n=true):n.natAbs<10^6:=by
 unfold He at h;rw[zk,w5,w5]at h;have:(10:Nat)^6=1000000:=rfl;omega
def wE(seen:List Bx)(w:AW):Int:=first [Cv (!isName w.1) 8,Cv (has seen w.1) 9,An w.2]
theorem nE(seen:List Bx)(w:AW)(l:List AW):Zw seen (w::l)=if wE seen w≠0 then wE seen w else if As w.2<0 then 3 else Zw (w.1::seen) l:=by
 have e:wE seen w=if isName w.1=false then 8 else if has seen w.1=true then 9 else An w.2:=by
  unfold wE;rw[Br,Br,Br,E5,E5];cases isName w.1
  ·rfl
  ·cases has seen w.1
   ·simp only[Bool.not_true,Bool.false_eq_true,vf,wm,not_true,ite_not];split
    ·next h=>rw[h];rfl
    ·rfl
   ·rfl
 rw[e,Zw];cases isName w.1
 ·rfl
 ·cases has seen w.1
  ·rfl
  ·rfl
def oE(o:EB):Int:=first [Cv (!isName o.1) 8,Cv (decide (o.2<0\/10<o.2)) 3]
theorem jA(o:EB)(l:List EB):hZ (o::l)=if oE o≠0 then oE o else hZ l:=by
 have e:oE o=if isName o.1=false then 8 else if o.2<0\/10<o.2 then 3 else 0:=by
  unfold oE;rw[Go.Pe.Kk,E5,E5];cases isName o.1
  ·rfl
  ·by_cases h:o.2<0\/10<o.2
   ·rw[w4 h,wd h];rfl
   ·rw[w8 h,wc h];rfl
 rw[e,hZ];cases isName o.1
 ·rfl
 ·by_cases h:o.2<0\/10<o.2
  ·simp only[wd h];rfl
  ·simp only[wc h];rfl
theorem Pc:∀ {l:List AW} {o:Option AW},DK o l=0->∀p∈l,An p.1=0/\An p.2=0
 |[],_,_,p,hp=>by cases hp
 |x::l,none,h,p,hp=>by
  obtain⟨a,b,c⟩:=JS h;rcases yb.1 hp with rfl|hp
  ·exact⟨a,b⟩
  ·exact Pc c p hp
 |x::l,some q,h,p,hp=>by
  obtain⟨a,b,_,c⟩:=HK h;rcases yb.1 hp with rfl|hp
  ·exact⟨a,b⟩
  ·exact Pc c p hp
theorem VG(y:Bx)(p:AW)(l:List AW):SM (some y) (p::l)=if EI p.2 y<0 then 11 else SM (some p.2) l:=by rw[SM]
end Go.Sp
namespace Go.Pe
open Sp
open Go.Det
open Go.Sp (AF Bn Bm AW EB Bx B3)
theorem MD{m:List (Bx×Bool)}{seen:List Bx}(h:Ju m (fun x=>x∈seen))(k:Bx):(Eh .str .bool k m).getD false=Sp.has seen k:=by
 unfold Sp.has;by_cases e:k∈seen
 ·rw[w4 e];exact(h k).2 e
 ·rw[w8 e];cases c:(Eh .str .bool k m).getD false with
  |false=>rfl
  |true=>exact wh ((h k).1 c) e
theorem Re:Ju [] (fun x=>x∈([]:List Bx)):=Ju.nil.congr fun _=>⟨fun h=>h.elim,fun h=>by cases h⟩
theorem Q2{m:List (Bx×Bool)}{seen:List Bx}(h:Ju m (fun x=>x∈seen))(k:Bx):Ju (HP .str .bool k true m) (fun x=>x∈k::seen):=(h.add k).congr fun _=>yb.symm
theorem mK:CE Afj:=Aa T163.ok<|Aa T96.ok<|Aa T73.ok<|Aa T57.ok<|Aa T91.ok Ay
theorem T204.ok:Af A4 204 V4:=by
 refine BD mK<|fun(i:Bx×Int×Int) f=>?_;obtain⟨a,lo,h⟩:=i;have f:(decide (a.length<=1000000)&&He lo&&He h)=true:=f;rw[zk,zk,w5]at f;obtain⟨⟨hl,h1⟩,h2⟩:=f;have g:∀e ob,e=BQ a lo h->Ac V4 (a,lo,h) (.dat i64 e) ob:=fun e ob x=>ya rfl rfl x
 have L:=NF (n:=lo) (UP h1) af af;have H:=NF (n:=h) (UP h2) af af;refine zx (T204.Aj a lo h)<|zc (w4 hl)<|ze (fun c=>zd<|g _ _ ?_)<|fun c=>?_
 ·have c:An a≠0:=by simpa using c
  exact(W2 c).symm
 ·have c:An a=0:=by simpa using c
  obtain⟨o1,j⟩:=Ih c;have A:=Wv c;refine zc j (zc rfl (zc (Ab o1<|L.Ch af)<|ze (fun d=>zc rfl (zd<|g _ _ ?_))<|fun d=>zc rfl (zc (Ab o1<|H.Ch af)<|zc rfl (zd<|g _ _ ?_))))
  ·rw[TK c,wd<|.inl<|(A.kD L).1<|w6 d];rfl
  ·have d:=w7 d;rw[TK c];by_cases e:Ds (Cw a) ((h,BL h),(1,BL 1))>0
   ·rw[wd<|.inr<|(A.No H).1 e];exact wi (fun b=>Cv b 3)<|w4 e
   ·rw[wc<|not_or.2 ⟨fun x=>d<|(A.kD L).2 x,fun x=>e<|(A.No H).2 x⟩];exact wi (fun b=>Cv b 3)<|w8 e
theorem mR:CE uR:=Aa T166.okU<|Aa T60.ok<|Aa T91.ok<|Aa T163.ok<|Aa T96.ok<|Aa T106.ok Ay
namespace T207
theorem loop{Q:PV->Ob->Prop}(l:List AW)(j:l.length<=1000000)(f:∀p∈l,p.2.length<=1000000):∀(r:List AW) (i:Nat) (m:List (Bx×Bool)) (seen:List Bx),l.drop i=r->i<=l.length->Ju m (fun x=>x∈seen)->(∀ob,Q (.dat i64<|Zw seen r) ob)->Ends uR (L1 l (l.length:Int) (i:Int) m) Q
 |[],i,m,seen,h,e,b,a=>by
  have:=drop_nil h e;exact zh (Ak ..) (zj (w8 ae)<|zd<|a _)
 |p::r,i,m,seen,h,e,b,a=>by
  obtain⟨o,n,q⟩:=drop_cons (d:=(([],[]):AW)) h;have s:=f p (zp<|by rw[h];exact zl ..);have k:=wn (i:=i) ae;rw[nE]at a;refine zh (Ak ..) ?_;conv=>zeta
  rw[zg,n,k,MD b];refine zc (w4 ae) (zc (ad ae ae)<|zc rfl (zc rfl (zc rfl (zc (w4 s)<|zc rfl (ze (fun c=>zd ?_)<|fun c=>?_)))))
  ·have c:Sp.wE seen p≠0:=by
    have c:(Sp.wE seen p !=0)=true:=c;simpa using c
   rw[wd c]at a;exact a _
  ·have c:Sp.wE seen p=0:=by
    have c:(Sp.wE seen p !=0)=false:=c;simpa using c
   rw[wc<|by rw[c];decide]at a;have g:An p.2=0:=by
    unfold Sp.wE at c;rw[Bs,Bs,Bs]at c;exact c.2.2.1
   have A:=Wv g;refine zc (Ih g).2<|zc A.Dy<|ze (fun d=>zd ?_)<|fun d=>?_
   ·rw[wd<|A.Og.1.1<|w6 d]at a;exact a _
   ·rw[wc fun x=>w7 d<|A.Og.1.2 x]at a;exact loop l j f r (i+1) _ _ q o (Q2 b p.1) a
theorem ok:Af A4 207 AdV:=by
 refine BD mR<|fun(l:List AW) a=>?_;have a:HO l 40 20=true:=a;have b:∀e ob,e=OA l->Ac AdV l (.dat i64 e) ob:=fun e ob x=>ya rfl rfl x
 refine zx (Aj l)<|ze (fun c=>zd<|b _ _ ?_)<|fun c=>?_
 ·have c:=w6 c;unfold OA;rw[wd ae]
 ·have c:=w7 c;have e:OA l=Zw [] l:=by
   unfold OA;rw[wc ae]
  exact loop l ae (fun p hp=>by have:=(OZ a p hp).2;omega) l 0 [] [] rfl (zn _) Re (fun ob=>b _ _ e.symm)
end T207
theorem pC:CE uS:=Aa T166.okU<|Aa T60.ok<|Aa T91.ok<|Aa T204.ok<|Aa T206.ok<|Aa T96.ok<|Aa T73.ok<|Aa T207.ok Ay
namespace T167
theorem loop{Q:PV->Ob->Prop}(l g nx:Bx)(t w:List AW)(u:t.length<=1000)(b:∀p∈t,An p.1=0/\An p.2=0)(c:HO w 40 20=true):∀(r:List AW) (i:Nat),t.drop i=r->1<=i->i<=t.length->(∀ob,Q (.dat i64<|if SM (some (t.getD (i-1) ([],[])).2) r≠0 then SM (some (t.getD (i-1) ([],[])).2) r else OA w) ob)->Ends uS (L1 (i:Int) l g nx t w) Q
 |[],i,h,n,e,a=>by
  have:=drop_nil h e;exact zh (Ak ..) (zj (w8 ae)<|zc c<|zd<|a _)
 |p::r,i,h,n,e,a=>by
  obtain⟨v,k,x⟩:=drop_cons (d:=(([],[]):AW)) h;have s:=b p (zp<|by rw[h];exact zl ..);have f:=b (t.getD (i-1) ([],[])) (Fo ae);have o:=wn (i:=i) ae;have q:zf .i64 ((i:Int)-1)=((i-1:Nat):Int):=by rw[wr _ ae ae];omega
  rw[VG]at a;refine zh (Ak ..) ?_;conv=>zeta
  rw[q,zg,zg,k,o];have o1:=Ih s.2;have m:=Ih f.2;have j:=bX s.2 f.2;refine zc (w4 ae) (zc (ad ae ae) (zc (ad ae ae)<|zc o1.2<|zc m.2<|zc (Ab o1.1 m.1)<|ze (fun d=>zd ?_)<|fun d=>?_))
  ·have d:Ds (frS p.2) (frS (t.getD (i-1) ([],[])).2)<0:=w6 d;rw[j]at d;rw[wd d,wd af]at a;exact a _
  ·have d:¬Ds (frS p.2) (frS (t.getD (i-1) ([],[])).2)<0:=w7 d;rw[j]at d;rw[wc d]at a;exact loop l g nx t w u b c r (i+1) x ae v (by rw[Nat.add_sub_cancel,k];exact a)
theorem ok:Af A4 167 cLv:=by
 refine BD pC<|fun(l:Bm) hi=>?_;have a:=Ud hi;have b:∀e ob,e=J8 l->Ac cLv l (.dat i64 e) ob:=fun e ob x=>ya rfl rfl x
 have hp:GQ 1000000 l.2.2.2.1=true:=by
  unfold GQ;rw[z6];intro p hp;have:=a.tab p hp;exact ad ae ae
 have a1:=a.head;have a2:=a.next;have a3:=a.tl;have f:HO l.2.2.2.2 40 20=true:=by
  unfold HO;rw[z6];intro p hp;have:=a.wts p hp;exact Ab (w4 this.1)<|w4 this.2
 refine zx (Aj l) (zc rfl (zc rfl (zc (Ab (Ab (w4 ae) rfl) rfl)<|zc (Ab (Ab (w4 ae) rfl) rfl)<|zc (Ab (w4 ae) hp)<|zc rfl (ze (fun c=>zd<|b _ _ ?_)<|fun c=>?_))))
 ·have c:(Mj l !=0)=true:=c;have c:Mj l≠0:=by simpa using c
  unfold J8;rw[wd c];rfl
 ·have c:(Mj l !=0)=false:=c;have c:Mj l=0:=by simpa using c
  have ct:BN l.2.2.2.1=0:=by
   unfold Mj at c;rw[Bs,Bs,Bs,Bs]at c;exact c.2.2.2.1
  obtain⟨d,_,g⟩:=Ew ct;have i:=Pc g;obtain⟨p,r,hr⟩:∃p r,l.2.2.2.1=p::r:=by
   cases e:l.2.2.2.1 with
   |nil=>exact wh e d
   |cons p r=>exact⟨p,r,rfl⟩
  have h:l.2.2.2.1.getD (1-1) ([],[])=p:=by rw[hr];rfl
  have up:SM none l.2.2.2.1=SM (some p.2) r:=by rw[hr,SM]
  refine loop _ _ _ _ _ ae i f r 1 (by rw[hr];rfl) ae (by rw[hr,zo];omega)<|fun ob=>b _ _ ?_;rw[h, <-up];exact(wc (c:=Mj l≠0)<|by rw[c];decide).symm
end T167
theorem kS:CE AaC:=Aa T166.okU<|Aa T60.ok<|Aa T91.ok<|Aa T204.ok Ay
namespace T164
theorem loop{Q:PV->Ob->Prop}(l:List EB)(b:l.length<=1000000):∀(r:List EB) (i:Nat),l.drop i=r->i<=l.length->(∀ob,Q (.dat i64<|hZ r) ob)->Ends AaC (L1 l (l.length:Int) (i:Int)) Q
 |[],i,h,f,a=>by
  have:=drop_nil h f;exact zh (Ak ..) (zj (w8 ae)<|zd<|a _)
 |o::r,i,h,f,a=>by
  obtain⟨g,k,j⟩:=drop_cons (d:=(([],0):EB)) h;have m:=wn (i:=i) ae;rw[jA]at a;refine zh (Ak ..) ?_;conv=>zeta
  rw[zg,k,m];refine zc (w4 ae) (zc (ad ae ae)<|zc rfl (zc rfl (ze (fun d=>zc rfl (zc rfl ?_))<|fun d=>zc rfl (zc rfl ?_))))
  ·have e:Sp.oE o=zq [Cv (!zr o.1) 8,Cv true 3]:=by
    unfold Sp.oE;rw[w4<|.inl<|w6 d]
   rw[e]at a;refine ze (fun c=>zd ?_)<|fun c=>loop l b r (i+1) j g ?_
   ·rw[wd<|by simpa using c]at a;exact a _
   ·rw[wc<|by simpa using c]at a;exact a
  ·have e:Sp.oE o=zq [Cv (!zr o.1) 8,Cv (decide (o.2>10)) 3]:=by
    unfold Sp.oE;have d:=w7 d;have:decide (o.2<0\/10<o.2)=decide (o.2>10):=by
     apply decide_eq_decide.2;omega
    rw[this]
   rw[e]at a;refine ze (fun c=>zd ?_)<|fun c=>loop l b r (i+1) j g ?_
   ·rw[wd<|by simpa using c]at a;exact a _
   ·rw[wc<|by simpa using c]at a;exact a
theorem ok:Af A4 164 cU:=by
 refine BD kS<|fun(s:Bn) hi=>?_;obtain⟨a1,a2,a3,a4,a5⟩:=OI hi;have d:∀e ob,e=Ly s->Ac cU s (.dat i64 e) ob:=fun e ob x=>ya rfl rfl x
 have b:∀ {a:Bx} {lo h:Int},a.length<=20->He lo=true->He h=true->(decide (a.length<=1000000)&&He lo&&He h)=true:=fun k x y=>Ab (Ab (w4 ae) x) y
 have f:UU s=zq [BQ s.1 (-10000) 10000,BQ s.2.1 (-10000) 10000,BQ s.2.2.1 0 10000,BQ s.2.2.2.1 0 10000,Cv (decide ((s.2.2.2.2.length:Int)>16)) 5]:=by
  unfold UU;have:decide (16<s.2.2.2.2.length)=decide ((s.2.2.2.2.length:Int)>16):=by
   apply decide_eq_decide.2;omega
  rw[this]
 refine zx (Aj s)<|zc (b a1 rfl rfl)<|zc (b a2 rfl rfl)<|zc (b a3 rfl rfl)<|zc (b a4 rfl rfl)<|zc rfl (zc rfl (ze (fun c=>zd<|d _ _ ?_)<|fun c=>?_))
 ·rw[<-f]at c ⊢;unfold Ly;rw[wd<|by simpa using c]
 ·rw[<-f]at c;have e:Ly s=hZ s.2.2.2.2:=by
   unfold Ly;rw[wc<|by simpa using c]
  exact loop _ ae _ 0 rfl (zn _) (fun ob=>d _ _ e.symm)
end T164
end Go.Pe
namespace Go.Sp
theorem Lm{α:Type}(l:List α)(m:Nat):C2 (l.length:Int) (m:Int)=if l=[]then 12 else if m<l.length then 5 else 0:=by
 unfold C2;cases l with
 |nil=>rfl
 |cons x l=>
  rw[wc (by rw[zo];omega),wc<|List.cons_ne_nil x l];by_cases h:m<(x::l).length
  ·rw[wd h,wd ae]
  ·rw[wc h,wc ae]
theorem fD(c:AF):NX c=if C2 (c.1.length:Int) 36≠0 then C2 (c.1.length:Int) 36 else if Jd c.1≠0 then Jd c.1 else Uc c:=by
 have e:=Lm c.1 36;have e:C2 (c.1.length:Int) 36=if c.1=[]then 12 else if 36<c.1.length then 5 else 0:=e
 rw[e];unfold NX;by_cases h:c.1=[]
 ·rw[wd h,wd h,wd af]
 ·rw[wc h,wc h];by_cases k:36<c.1.length
  ·rw[wd k,wd k,wd af]
  ·rw[wc k,wc k];exact(wc<|fun x=>x rfl).symm
theorem Yp(c:AF):Uc c=if C2 (c.2.1.length:Int) 8≠0 then C2 (c.2.1.length:Int) 8 else if F8 (c.1.length:Int) [] c.2.1≠0 then F8 (c.1.length:Int) [] c.2.1 else OD c:=by
 have e:=Lm c.2.1 8;have e:C2 (c.2.1.length:Int) 8=if c.2.1=[]then 12 else if 8<c.2.1.length then 5 else 0:=e
 rw[e];unfold Uc;by_cases h:c.2.1=[]
 ·rw[wd h,wd h,wd af]
 ·rw[wc h,wc h];by_cases k:8<c.2.1.length
  ·rw[wd k,wd k,wd af]
  ·rw[wc k,wc k];exact(wc<|fun x=>x rfl).symm
theorem Zf(c:AF):OD c=if C2 (c.2.2.length:Int) 8≠0 then C2 (c.2.2.length:Int) 8 else LQ [] c.2.2:=by
 have e:=Lm c.2.2 8;have e:C2 (c.2.2.length:Int) 8=if c.2.2=[]then 12 else if 8<c.2.2.length then 5 else 0:=e
 rw[e];unfold OD;by_cases h:c.2.2=[]
 ·rw[wd h,wd h,wd af]
 ·rw[wc h,wc h];by_cases k:8<c.2.2.length
  ·rw[wd k,wd k,wd af]
  ·rw[wc k,wc k];exact(wc<|fun x=>x rfl).symm
theorem SZ(s:Bn)(l:List Bn):Jd (s::l)=if Ly s≠0 then Ly s else Jd l:=by rw[Jd]
def tE(n:Int)(seen:List Bx)(t:B3)(b:Bool):Int:=first [Cv (!isName t.1) 8,Cv (has seen t.1) 9,Cv ((t.2.length:Int) !=n) 2,Cv b 3]
theorem gO(n:Int)(seen:List Bx)(t:B3)(l:List B3):F8 n seen (t::l)=if tE n seen t (Ey t.2)≠0 then tE n seen t (Ey t.2)else F8 n (t.1::seen) l:=by
 rw[F8];unfold tE;rw[Br,Br,Br,Br,E5,E5,E5,E5];cases isName t.1
 ·rfl
 ·cases has seen t.1
  ·by_cases h:(t.2.length:Int)=n
   ·rw[show((t.2.length:Int) !=n)=false by simp[h]];cases Ey t.2
    ·rw[wc af,wc af,wc<|fun x=>x h];rfl
    ·rw[wc af,wc af,wc<|fun x=>x h];rfl
   ·rw[show((t.2.length:Int) !=n)=true by simp[h]];rw[wc af,wc af,wd h];rfl
  ·rfl
theorem dM(seen:List Bx)(l:Bm)(r:List Bm):LQ seen (l::r)=if first [J8 l,Cv (has seen l.1) 9]≠0 then first [J8 l,Cv (has seen l.1) 9]else LQ (l.1::seen) r:=by
 rw[LQ,Go.Pe.Kk,E5];cases has seen l.1<;>by_cases h:J8 l=0<;>simp[h]
end Go.Sp
namespace Go.Pe
open Sp
open Go.Det
open Go.Sp (AF Bn Bm AW EB Bx B3)
theorem qS:CE Me:=Aa T90.ok<|Aa T164.ok<|Aa T166.okU<|Aa T60.ok<|Aa T91.ok<|Aa T167.ok Ay
namespace T115
theorem WR(l:List Bm)(j:l.length<=1000000)(e:∀x∈l,yh x=true):∀(r:List Bm) (i:Nat) (m:List (Bx×Bool)) (seen:List Bx),l.drop i=r->i<=l.length->Ju m (fun x=>x∈seen)->(∀ob,Q (.dat i64<|LQ seen r) ob)->Ends Me (L4 l (l.length:Int) (i:Int) m) Q
 |[],i,m,seen,h,f,b,a=>by
  have:=drop_nil h f;exact zh (Ck ..) (zj (w8 ae)<|zd<|a _)
 |p::r,i,m,seen,h,f,b,a=>by
  obtain⟨n,g,o⟩:=drop_cons (d:=(([],[],[],[],[]):Bm)) h;have s:=e p (zp<|by rw[h];exact zl ..);have k:=wn (i:=i) ae;rw[dM]at a;refine zh (Ck ..) ?_;conv=>zeta
  rw[zg,g,k,MD b];refine zc (w4 ae) (zc (ad ae ae)<|zc s<|zc rfl (zc rfl (ze (fun c=>zd ?_)<|fun c=>?_)))
  ·have c:(zq [J8 p,Cv (Sp.has seen p.1) 9] !=0)=true:=c;rw[wd<|by simpa using c]at a;exact a _
  ·have c:(zq [J8 p,Cv (Sp.has seen p.1) 9] !=0)=false:=c;rw[wc<|by simpa using c]at a;exact WR l j e r (i+1) _ _ o n (Q2 b p.1) a
theorem JH{l:List B3}{k o:Int}{o1:List (Bx×Bool)}{A:List Bn}{g:List B3}{p:List Bm}(t:B3)(z:t.2.length<=1000000)(m:List (Bx×Bool))(seen:List Bx)(s:Ju m (fun x=>x∈seen))(S:List Bn)(q:List B3)(V:List Bm):∀(r:List Int) (j:Nat),t.2.drop j=r->j<=t.2.length->
  (∀ob,Sp.tE (S.length:Int) seen t (Ey r)≠0->Q (.dat i64<|Sp.tE (S.length:Int) seen t<|Ey r) ob)->(Sp.tE (S.length:Int) seen t (Ey r)=0->Ends Me (L2 l k (zf .i64<|o+1) (HP .str .bool t.1 true m) S q V) Q)->
  Ends Me (L3 l k o o1 A g p t.2 (t.2.length:Int) (j:Int) t.1 t.2 m S q V) Q
 |[],j,h,u,b,a=>by
  have:=drop_nil h u;refine zh (Bq ..) (zj (w8 ae) ?_);rw[MD s];refine zc rfl (zc rfl (zc rfl (zc rfl (zc rfl (zc rfl (ze (fun c=>zd ?_)<|fun c=>?_))))))
  ·have c:(Sp.tE (S.length:Int) seen t (Ey []) !=0)=true:=c;exact b _ (by simpa using c)
  ·have c:(Sp.tE (S.length:Int) seen t (Ey []) !=0)=false:=c;exact a (by simpa using c)
 |n::r,j,h,u,b,a=>by
  obtain⟨B,w,C⟩:=drop_cons (d:=(0:Int)) h;have v:=wn (i:=j) ae;have y:decide ((j:Int)>=0)=true:=w4 ae;have f:Ey (n::r)=((decide (n<1)||decide (10000<n))||Ey r):=by unfold Ey;rw[List.any_cons]
  refine zh (Bq ..) ?_;conv=>zeta
  rw[zg,w,v,y,MD s];refine zc (w4 ae) (zc (Ab (by first|rfl|exact w4 ae)<|w4 ae)<|ze (fun d=>?_)<|fun d=>ze (fun e=>?_)<|fun e=>?_)
  ·rw[d,z7,z7]at f;rw[f]at b a;refine zc rfl (zc rfl (zc rfl (zc rfl (zc rfl (zc rfl (ze (fun c=>zd ?_)<|fun c=>?_))))))
   ·have c:(Sp.tE (S.length:Int) seen t true !=0)=true:=c;exact b _ (by simpa using c)
   ·have c:(Sp.tE (S.length:Int) seen t true !=0)=false:=c;exact a (by simpa using c)
  ·have e:decide (10000<n)=true:=e;rw[e,yq,z7]at f;rw[f]at b a;refine zc rfl (zc rfl (zc rfl (zc rfl (zc rfl (zc rfl (ze (fun c=>zd ?_)<|fun c=>?_))))))
   ·have c:(Sp.tE (S.length:Int) seen t true !=0)=true:=c;exact b _ (by simpa using c)
   ·have c:(Sp.tE (S.length:Int) seen t true !=0)=false:=c;exact a (by simpa using c)
  ·have e:decide (10000<n)=false:=e;rw[d,e,ye,ye]at f;rw[f]at b a;exact JH t z m seen s S q V r (j+1) C B b a
theorem C1(c:AF)(e:IS c=true):∀(r:List B3) (i:Nat) (m:List (Bx×Bool)) (seen:List Bx),c.2.1.drop i=r->i<=c.2.1.length->Ju m (fun x=>x∈seen)->
  (∀ob,Q (.dat i64<|if F8 (c.1.length:Int) seen r≠0 then F8 (c.1.length:Int) seen r else OD c) ob)->Ends Me (L2 c.2.1 (c.2.1.length:Int) (i:Int) m c.1 c.2.1 c.2.2) Q
 |[],i,m,seen,h,f,b,a=>by
  have:=drop_nil h f;have a:∀ob,Q (.dat i64<|OD c) ob:=fun ob=>by
   have:=a ob;rwa [show F8 (c.1.length:Int) seen []=0 from rfl,wc<|fun x=>x rfl]at this
  rw[Zf]at a;refine zh (Az ..) (zj (w8 ae)<|zc rfl (ze (fun d=>zd ?_)<|fun d=>?_))
  ·rw[wd<|by simpa using d]at a;exact a _
  ·rw[wc<|by simpa using d]at a;have s:=MX e;exact WR c.2.2 (by have:=s.2.2.1;omega) s.2.2.2.2.2 c.2.2 0 [] [] rfl (zn _) Re a
 |t::r,i,m,seen,h,f,b,a=>by
  obtain⟨l,j,n⟩:=drop_cons (d:=(([],[]):B3)) h;have s:=MX e;have st:=s.2.2.2.2.1 t (zp<|by rw[h];exact zl ..);have st:(decide (t.1.length<=40)&&decide (t.2.length<=40))=true:=st;rw[zk,w5,w5]at st;have o:=s.2.1;have k:=wn (i:=i) ae;rw[gO]at a;refine zh (Az ..) ?_;conv=>zeta
  rw[zg,j];refine zc (w4 ae) (zc (ad ae ae) ?_);refine JH t ae m seen b c.1 c.2.1 c.2.2 t.2 0 rfl (zn _) (fun ob d=>?_) (fun d=>?_)
  ·rw[wd d,wd d]at a;exact a _
  ·have g:¬Sp.tE (c.1.length:Int) seen t (Ey t.2)≠0:=fun x=>x d
   rw[wc g]at a;rw[k];exact C1 c e r (i+1) _ _ n l (Q2 b t.1) a
theorem Dc(c:AF)(b:IS c=true):∀(r:List Bn) (i:Nat),c.1.drop i=r->i<=c.1.length->
  (∀ob,Q (.dat i64<|if Jd r≠0 then Jd r else Uc c) ob)->Ends Me (L1 c.1 (c.1.length:Int) (i:Int) c.1 c.2.1 c.2.2) Q
 |[],i,h,e,a=>by
  have:=drop_nil h e;have a:∀ob,Q (.dat i64<|Uc c) ob:=fun ob=>by
   have:=a ob;rwa [show Jd []=0 from rfl,wc<|fun x=>x rfl]at this
  rw[Yp]at a;refine zh (Ak ..) (zj (w8 ae)<|zc rfl (ze (fun d=>zd ?_)<|fun d=>?_))
  ·rw[wd<|by simpa using d]at a;exact a _
  ·rw[wc<|by simpa using d]at a;exact C1 c b c.2.1 0 [] [] rfl (zn _) Re a
 |p::r,i,h,e,a=>by
  obtain⟨k,g,l⟩:=drop_cons (d:=(([],[],[],[],[]):Bn)) h;have s:=MX b;have sp:=s.2.2.2.1 p (zp<|by rw[h];exact zl ..);have m:=s.1;have j:=wn (i:=i) ae;rw[SZ]at a;refine zh (Ak ..) ?_;conv=>zeta
  rw[zg,g,j];refine zc (w4 ae) (zc (ad ae ae)<|zc sp<|ze (fun d=>zd ?_)<|fun d=>?_)
  ·have d:(Ly p !=0)=true:=d;have d:Ly p≠0:=by simpa using d
   rw[wd d,wd d]at a;exact a _
  ·have d:(Ly p !=0)=false:=d;have f:¬Ly p≠0:=by simpa using d
   rw[wc f]at a;exact Dc c b r (i+1) l k a
theorem ok:Af A4 115 cCo:=by
 refine BD qS<|fun(c:AF) a=>?_;have a:IS c=true:=a;have b:∀e ob,e=NX c->Ac cCo c (.dat i64 e) ob:=fun e ob x=>ya rfl rfl x
 have e:=fD c;refine zx (Aj c)<|zc rfl (ze (fun d=>zd<|b _ _ ?_)<|fun d=>?_)
 ·rw[wd<|by simpa using d]at e;exact e.symm
 ·rw[wc<|by simpa using d]at e;exact Dc c a c.1 0 rfl (zn _) (fun ob=>b _ _ e.symm)
end T115
end Go.Pe
namespace Go.Sp
theorem q0{x:Int}(h:x=0):(x==0)=true:=by simpa using h
theorem q1{x:Int}(h:x≠0):(x==0)=false:=by simpa using h
theorem n0{x:Int}(h:x=0):(x !=0)=false:=by simpa using h
theorem n1{x:Int}(h:x≠0):(x !=0)=true:=by simpa using h
theorem VH{a:Bx}{n:Int}:EI a (AH (n:Rat))=if As a<(n:Rat)then -1 else if (n:Rat)<As a then 1 else 0:=by
 unfold EI;rw[DL]
theorem Ta(s:Bx)(l:List Bx):KI s l=if isName s=false then 8 else if s∈l then 9 else 0:=by
 unfold KI has;by_cases h:s∈l
 ·rw[w4 h,wd h,wd rfl]
 ·rw[w8 h,wc h];cases isName s<;>rfl
theorem Wz{s:Bx}{l:List Bx}(h:isName s=true):KI s l=if s∈l then 9 else 0:=by rw[Ta,h];rfl
theorem xW{s:Bx}{l:List Bx}(h:isName s=false):KI s l=8:=by rw[Ta,h];rfl
theorem wF(s:Bn):UU s=if BQ s.1 (-10000) 10000≠0 then BQ s.1 (-10000) 10000 else if BQ s.2.1 (-10000) 10000≠0 then BQ s.2.1 (-10000) 10000 else if BQ s.2.2.1 0 10000≠0 then BQ s.2.2.1 0 10000 else if BQ s.2.2.2.1 0 10000≠0 then BQ s.2.2.2.1 0 10000 else if 16<s.2.2.2.2.length then 5 else 0:=by
 unfold UU;rw[Br,Br,Br,Br,Br,E5];by_cases h:16<s.2.2.2.2.length
 ·rw[w4 h,wd h];rfl
 ·rw[w8 h,wc h];rfl
end Go.Sp
namespace Go.Pe
open Sp
open Go.Det
open Go.Sp (AF Bn Bm AW EB Bx B3 q0 q1 n0 n1)
theorem jR:CE AfU:=Aa T78.ok<|Aa T32.ok<|Aa T143.ok<|Aa T148.ok Ay
theorem O1{n:Int}(h:He n=true):Ct n=true:=by
 unfold He at h;rw[zk,w5,w5]at h;exact ad ae ae
theorem T110.ok:Af A4 110 V4:=by
 refine BD jR<|fun(i:Bx×Int×Int) b=>?_;obtain⟨a,lo,h⟩:=i;have b:(decide (a.length<=1000000)&&He lo&&He h)=true:=b;rw[zk,zk,w5]at b;obtain⟨⟨hl,h1⟩,h2⟩:=b;have f:∀e ob,e=BQ a lo h->Ac V4 (a,lo,h) (.dat i64 e) ob:=fun e ob x=>ya rfl rfl x
 have L:=X8 (n:=lo) (UP h1) af;have H:=X8 (n:=h) (UP h2) af;refine zx (T110.Aj a lo h) ?_;conv=>zeta
 rw[Qg,Qg,VH,VH];refine zc (w4 hl)<|ze (fun c=>?_)<|fun c=>zd<|f _ _ ?_
 ·have c:An a=0:=by simpa using c
  have nb:=(C0 c).1;refine zc (O1 h1) (zc (LN<|O1 h1)<|zc (Ab nb<|L.Di af)<|ze (fun d=>zd<|f _ _ ?_)<|fun d=>zc (O1 h2)<|zc (LN<|O1 h2)<|zc (Ab nb<|H.Di af)<|ze (fun e=>zd<|f _ _ ?_)<|fun e=>zd<|f _ _ ?_);all_goals rw[TK c]
  ·have d:=w6 d;by_cases k:As a<(lo:Rat)
   ·rw[wd<|.inl k]
   ·rw[wc k]at d;split at d<;>exact wh d af
  ·have e:=w6 e;by_cases k:(h:Rat)<As a
   ·rw[wd<|.inr k]
   ·rw[wc k]at e;split at e<;>exact wh e af
  ·have d:=w7 d;have e:=w7 e;rw[wc,c];rintro(k|k)
   ·rw[wd k]at d;exact d af
   ·by_cases g:As a<(h:Rat)
    ·exact wh (Std.lt_trans k g) ah
    ·rw[wc g,wd k]at e;exact e af
 ·have c:An a≠0:=by simpa using c
  exact(W2 c).symm
theorem qU:CE zA:=Aa T111.ok Ay
namespace T47
theorem loop{Q:PV->Ob->Prop}(s:Bx)(l:List Bx)(g:l.length<=1000):∀(r:List Bx) (i:Nat),l.drop i=r->i<=l.length->(∀ob,Q (.dat i64<|if s∈r then 9 else 0) ob)->Ends zA (L1 s l (i:Int)) Q
 |[],i,h,b,a=>by
  have:=drop_nil h b;exact zh (Ak ..) (zj (w8 ae)<|zd<|a _)
 |x::r,i,h,b,a=>by
  obtain⟨m,f,n⟩:=drop_cons (d:=([]:Z)) h;have j:=wn (i:=i) ae;refine zh (Ak ..) ?_;conv=>zeta
  rw[zg,f,j];refine zc (w4 ae) (zc (ad ae ae)<|ze (fun c=>zd ?_)<|fun c=>loop s l g r (i+1) n m ?_)
  ·have c:x=s:=by simpa using c
   rw[wd<|by rw[c];exact zl ..]at a;exact a _
  ·have c:x≠s:=by simpa using c
   have e:(s∈x::r)=(s∈r):=by
    apply propext;rw[yb];exact⟨fun k=>k.resolve_left fun k=>c k.symm,.inr⟩
   simp only[e]at a;exact a
theorem ok:Af A4 47 Tq:=by
 refine BD qU<|fun(i:Bx×List Bx) a=>?_;obtain⟨s,l⟩:=i;have a:decide (l.length<=1000)=true:=a;have b:∀e ob,e=KI s l->Ac Tq (s,l) (.dat i64 e) ob:=fun e ob x=>ya rfl rfl x
 refine zx (Aj s l)<|zc rfl (ze (fun c=>zd<|b _ _ ?_)<|fun c=>?_)
 ·exact(xW<|by simpa using c).symm
 ·exact loop s l (w6 a) l 0 rfl (zn _) (fun ob=>b _ _ (Wz<|by simpa using c).symm)
end T47
theorem oX:CE zE:=Aa T110.ok<|Aa T111.ok Ay
namespace T46
theorem loop{Q:PV->Ob->Prop}(a b c d:Bx)(l:List EB)(m:l.length<=1000000):∀(r:List EB) (i:Nat),l.drop i=r->i<=l.length->(∀ob,Q (.dat i64<|hZ r) ob)->Ends zE (L1 (i:Int) a b c d l) Q
 |[],i,h,j,f=>by
  have:=drop_nil h j;exact zh (Ak ..) (zj (w8 ae)<|zd<|f _)
 |o::r,i,h,j,f=>by
  obtain⟨q,k,s⟩:=drop_cons (d:=(([],0):EB)) h;have p:=wn (i:=i) ae;have g:=nb (i:=i) (n:=l.length) ae;rw[hZ]at f;refine zh (Ak ..) ?_;conv=>zeta
  rw[zg,k,p];refine zc (w4 ae)<|zc g<|zc rfl (ze (fun c=>zd ?_)<|fun c=>zc g<|ze (fun d=>zd ?_)<|fun d=>zc g<|ze (fun e=>zd ?_)<|fun e=>loop _ _ _ _ l m r (i+1) s q ?_)
  ·rw[wd<|by simpa using c]at f;exact f _
  ·rw[wc (by simpa using c),wd<|.inl<|w6 d]at f;exact f _
  ·rw[wc (by simpa using c),wd<|.inr<|w6 e]at f;exact f _
  ·rw[wc (by simpa using c),wc<|not_or.2 ⟨w7 d,w7 e⟩]at f;exact f
theorem ok:Af A4 46 cU:=by
 refine BD oX<|fun(s:Bn) hi=>?_;obtain⟨a1,a2,a3,a4,a5⟩:=OI hi;have g:∀e ob,e=Ly s->Ac cU s (.dat i64 e) ob:=fun e ob x=>ya rfl rfl x
 have l:∀ {a:Bx} {lo h:Int},a.length<=20->He lo=true->He h=true->(decide (a.length<=1000000)&&He lo&&He h)=true:=fun k x y=>Ab (Ab (w4 ae) x) y
 have b:=wF s;have bad:∀x:Int,x≠0->UU s=x->x=Ly s:=fun x h k=>by
  unfold Ly;rw[k,wd h]
 refine zx (Aj s) ?_;conv=>zeta
 by_cases d:BQ s.1 (-10000) 10000=0
 ·rw[wc<|fun x=>x d]at b;refine zc (l a1 rfl rfl)<|zc (q0 d)<|zc (l a2 rfl rfl) ?_;by_cases f:BQ s.2.1 (-10000) 10000=0
  ·rw[wc<|fun x=>x f]at b;refine zc (q0 f)<|zc (l a3 rfl rfl) ?_;by_cases i:BQ s.2.2.1 0 10000=0
   ·rw[wc<|fun x=>x i]at b;refine zc (q0 i)<|zc (l a4 rfl rfl) ?_;by_cases j:BQ s.2.2.2.1 0 10000=0
    ·rw[wc<|fun x=>x j]at b;refine zj (n0 j)<|ze (fun c=>zd<|g _ _ ?_)<|fun c=>?_
     ·have c:=w6 c;rw[wd ae]at b;exact bad 5 af b
     ·have c:=w7 c;rw[wc ae]at b;have e:Ly s=hZ s.2.2.2.2:=by
       unfold Ly;rw[wc<|fun x=>x b]
      exact loop _ _ _ _ _ ae _ 0 rfl (zn _) (fun ob=>g _ _ e.symm)
    ·rw[wd j]at b;exact zc (n1 j)<|zd<|g _ _<|bad _ j b
   ·rw[wd i]at b;exact zj (q1 i)<|zc (n1 i)<|zd<|g _ _<|bad _ i b
  ·rw[wd f]at b;exact zj (q1 f)<|zj (q1 f)<|zc (n1 f)<|zd<|g _ _<|bad _ f b
 ·rw[wd d]at b;exact zc (l a1 rfl rfl)<|zj (q1 d)<|zj (q1 d)<|zj (q1 d)<|zc (n1 d)<|zd<|g _ _<|bad _ d b
end T46
end Go.Pe
namespace Go.Sp
theorem Z6(l:Bm):Mj l=if isName l.1=false then 8 else if BQ l.2.1 1 10000≠0 then BQ l.2.1 1 10000 else if BQ l.2.2.1 1 10000≠0 then BQ l.2.2.1 1 10000 else BN l.2.2.2.1:=by
 unfold Mj;rw[Br,Br,Br,Br,E5];have t:(if BN l.2.2.2.1≠0 then BN l.2.2.2.1 else first [])=BN l.2.2.2.1:=by
  by_cases h:BN l.2.2.2.1=0
  ·rw[h];rfl
  ·rw[wd h]
 rw[t];cases isName l.1
 ·rfl
 ·rfl
theorem OJ{u:Bx}(h:An u=0):F4 u<0↔As u<0:=by
 have t:=(Nk h).1;have k:=Np<|As u;rw[t]at k;rw[k, <-(neg_num<|As u).1];unfold Og;constructor
 ·intro x;split at x
  ·omega
  ·split at x<;>omega
 ·intro x;rw[wd x];decide
theorem jK{seen:List Bx}{w:AW}{l:List AW}{o:List Bx}(h:∀x,x∈o↔x∈seen):Zw seen (w::l)=if KI w.1 o≠0 then KI w.1 o else if An w.2≠0 then An w.2 else if As w.2<0 then 3 else Zw (w.1::seen) l:=by
 rw[Zw,Ta];unfold has;cases isName w.1
 ·rfl
 ·by_cases k:w.1∈o
  ·rw[w4<|(h _).1 k,wd k];rfl
  ·rw[w8<|fun x=>k<|(h _).2 x,wc k];rfl
theorem Pp{o seen:List Bx}(h:∀x,x∈o↔x∈seen)(k:Bx):∀x,x∈o++[k]↔x∈k::seen:=fun x=>by
 rw[List.mem_append,List.mem_singleton,yb,h x];exact Or.comm
end Go.Sp
namespace Go.Pe
open Sp
open Go.Det
open Go.Sp (AF Bn Bm AW EB Bx B3 q0 q1 n0 n1)
theorem kU:CE RQ:=Aa T111.ok<|Aa T110.ok<|Aa T112.ok<|Aa T32.ok<|Aa T47.ok<|Aa T78.ok<|Aa T87.ok Ay
theorem gU{C:Ctx}{f:FuncId}{ins outs:List Sh}{p q:(BE ins).T->Bool}{g:(BE ins).T->(BE outs).T}{nd:Bool}(h:Af C f ⟨ins,p,outs,g,nd⟩)(j:∀i,q i=true->p i=true):Af C f ⟨ins,q,outs,g,nd⟩:=by
 rcases h with h|⟨x,k,hr⟩
 ·exact .inl ⟨h.prim,h.fn,fun F m args i a b c d e=>h.run F m args i a b c d<|j i e⟩
 ·exact .inr ⟨x,k,fun F m args i a e=>hr F m args i a<|j i e⟩
namespace T48
theorem JH(q l nx:Bx)(t w:List AW)(u:w.length<=16)(m:∀p∈w,p.2.length<=1000000):∀(r:List AW) (i n:Nat) (o seen:List Bx),w.drop i=r->i<=w.length->n=o.length->n=i->(∀x,x∈o↔x∈seen)->(∀ob,Q (.dat i64<|Zw seen r) ob)->Ends RQ (L3 n (i:Int) o q l nx t w) Q
 |[],i,n,o,seen,h,j,f,b,g,a=>by
  have:=drop_nil h j;exact zh (Bq ..) (zj (w8 ae)<|zd<|a _)
 |p::r,i,n,o,seen,h,j,f,b,g,a=>by
  obtain⟨A,z,B⟩:=drop_cons (d:=(([],[]):AW)) h;have s:=m p (zp<|by rw[h];exact zl ..);have v:=wn (i:=i) ae;have e:=nb (i:=i) (n:=w.length) ae;have tk:List.take n o=o:=by rw[f,ym]
  rw[jK g]at a;refine zh (Bq ..) ?_;conv=>zeta
  rw[zg,z,v,tk];have pn:(decide (0+n<=o.length)&&true&&decide (o.length<=1000))=true:=Ab (Ab (w4 ae) rfl) (w4 ae);have y:(decide (1<=1)&&true&&decide (n=o.length)&&decide ((3*(n+1)+2000)*16<=562949953421312))=true:=Ab (Ab (Ab rfl rfl)<|w4 f) (w4 ae);refine zc (w4 ae)<|zc e<|zc pn ?_;by_cases c:KI p.1 o=0
  ·rw[wc<|fun x=>x c]at a;refine zc (q0 c)<|zc e<|zc (w4 s) ?_;by_cases d:An p.2=0
   ·rw[wc<|fun x=>x d]at a;refine zc (q0 d)<|zc e<|zc (w4 s)<|ze (fun k=>zc rfl (zd ?_))<|fun k=>zj (n0 d)<|zc e<|zc y ?_
    ·rw[wd<|(OJ d).1<|w6 k]at a;exact a _
    ·rw[wc fun x=>w7 k<|(OJ d).2 x]at a;exact JH q l nx t w u m r (i+1) (yn n 1) (o++[p.1]) (p.1::seen) B A (by rw[yk,f];rfl) (by rw[b]) (Pp g p.1) a
   ·rw[wd d]at a;exact zj (q1 d)<|zc (n1 d)<|zd<|a _
  ·rw[wd c]at a;exact zj (q1 c)<|zj (q1 c)<|zc (n1 c)<|zd<|a _
theorem C1(g e nx:Bx)(t w:List AW)(h:w.length<=16)(f:∀p∈w,p.2.length<=1000000)(a:∀ob,Q (.dat i64<|Zw [] w) ob):Ends RQ (L2 0 g e nx t w) Q:=by
 cases w with
 |nil=>exact zh (Az ..)<|zj rfl (zd<|a _)
 |cons p r=>
  have s:=f p<|zl ..;have i:zf .i64 ((0:Int)+1)=((1:Nat):Int):=rfl;have l:(p::r).getD (Int.toNat 0) ([],[])=p:=rfl;have b:(decide ((0:Int)<=(0:Int))&&decide ((0:Int)<((p::r).length:Int)))=true:=Ab rfl (w4<|by rw[zo];omega);have m:∀x:Bx,x∈([]:List Bx)↔x∈([]:List Bx):=fun x=>yr
  rw[jK m]at a;refine zh (Az ..) ?_;conv=>zeta
  rw[l,i];have j:(decide (1<=1)&&decide (0<1)&&decide ((3*1+2000)*16<=562949953421312))=true:=Ab (Ab rfl rfl) (w4 ae);refine zc (w4<|by rw[zo];omega)<|zc b<|zc rfl ?_;by_cases c:KI p.1 []=0
  ·rw[wc<|fun x=>x c]at a;refine zc (q0 c)<|zc b<|zc (w4 s) ?_;by_cases d:An p.2=0
   ·rw[wc<|fun x=>x d]at a;refine zc (q0 d)<|zc b<|zc (w4 s)<|ze (fun k=>zc rfl (zd ?_))<|fun k=>zj (n0 d)<|zc b<|zc j ?_
    ·rw[wd<|(OJ d).1<|w6 k]at a;exact a _
    ·rw[wc fun x=>w7 k<|(OJ d).2 x]at a;exact JH g e nx t (p::r) h f r 1 1 [p.1] [p.1] rfl (by rw[zo];omega) rfl rfl (fun x=>yr) a
   ·rw[wd d]at a;exact zj (q1 d)<|zc (n1 d)<|zd<|a _
  ·rw[wd c]at a;exact zj (q1 c)<|zj (q1 c)<|zc (n1 c)<|zd<|a _
theorem Dc(e b nx:Bx)(t w:List AW)(q:t.length<=1000)(f:∀p∈t,An p.1=0/\An p.2=0)(k:∀p∈w,p.2.length<=1000000):∀(r:List AW) (i:Nat),t.drop i=r->1<=i->i<=t.length->(∀ob,Q (.dat i64<|if SM (some (t.getD (i-1) ([],[])).2) r≠0 then SM (some (t.getD (i-1) ([],[])).2) r else OA w) ob)->Ends RQ (L1 (i:Int) e b nx t w) Q
 |[],i,h,l,g,a=>by
  have:=drop_nil h g;have a:∀ob,Q (.dat i64<|OA w) ob:=fun ob=>by
   have:=a ob;rwa [show SM (some (t.getD (i-1) ([],[])).2) []=0 from rfl,wc<|fun x=>x rfl]at this
  unfold OA at a;refine zh (Ak ..) (zj (w8 ae)<|ze (fun c=>zd ?_)<|fun c=>?_)
  ·have c:=w6 c;rw[wd ae]at a;exact a _
  ·have c:=w7 c;rw[wc ae]at a;exact C1 e b nx t w ae k a
 |p::r,i,h,l,g,a=>by
  obtain⟨u,j,v⟩:=drop_cons (d:=(([],[]):AW)) h;have s:=f p (zp<|by rw[h];exact zl ..);have n:=f (t.getD (i-1) ([],[])) (Fo ae);have m:=wn (i:=i) ae;have o:zf .i64 ((i:Int)-1)=((i-1:Nat):Int):=by rw[wr _ ae ae];omega
  rw[VG]at a;refine zh (Ak ..) ?_;conv=>zeta
  rw[o,zg,zg,j,m];refine zc (w4 ae) (zc (ad ae ae) (zc (ad ae ae) (zc (Ab (C0 s.2).1<|(Mi n.2).Di af)<|ze (fun d=>zd ?_)<|fun d=>?_)))
  ·rw[wd<|w6 d,wd af]at a;exact a _
  ·rw[wc<|w7 d]at a;exact Dc e b nx t w q f k r (i+1) v ae u (by rw[Nat.add_sub_cancel,j];exact a)
theorem okM:Af A4 48 Ado:=by
 refine BD kU<|fun(l:Bm) hi=>?_;have j:=AaA hi;have i:∀e ob,e=J8 l->Ac Ado l (.dat i64 e) ob:=fun e ob x=>ya rfl rfl x
 have hp:GQ 1000000 l.2.2.2.1=true:=by
  unfold GQ;rw[z6];intro p hp;have:=j.tab p hp;exact ad ae ae
 have a1:=j.head;have a2:=j.next;have a3:=j.tl;have o:∀p∈l.2.2.2.2,p.2.length<=1000000:=fun p hp=>by have:=j.wts p hp;omega
 have m:∀ {a:Bx},a.length<=20->(decide (a.length<=1000000)&&He 1&&He 10000)=true:=fun k=>Ab (Ab (w4 ae) rfl) rfl
 have pt:(decide (l.2.2.2.1.length<=1000)&&GQ 1000000 l.2.2.2.1)=true:=Ab (w4 ae) hp;have b:=Z6 l;have bad:∀x:Int,x≠0->Mj l=x->x=J8 l:=fun x h k=>by
  unfold J8;rw[k,wd h]
 refine zx (Aj l)<|zc rfl (ze (fun c=>zd<|i _ _ ?_)<|fun c=>zc (m a1) ?_)
 ·have c:zr l.1=false:=by simpa using c
  rw[wd c]at b;exact bad 8 af b
 have c:¬zr l.1=false:=by simpa using c
 rw[wc c]at b;by_cases f:BQ l.2.1 1 10000=0
 ·rw[wc<|fun x=>x f]at b;refine zc (q0 f)<|zc (m a2) ?_;by_cases g:BQ l.2.2.1 1 10000=0
  ·rw[wc<|fun x=>x g]at b;refine zc (q0 g) (zc pt (ze (fun d=>zd<|i _ _<|bad _ (by simpa using d) b)<|fun d=>?_));have ct:BN l.2.2.2.1=0:=by simpa using d
   rw[ct]at b;obtain⟨n,_,q⟩:=Ew ct;obtain⟨p,r,hr⟩:∃p r,l.2.2.2.1=p::r:=by
    cases e:l.2.2.2.1 with
    |nil=>exact wh e n
    |cons p r=>exact⟨p,r,rfl⟩
   have s:l.2.2.2.1.getD (1-1) ([],[])=p:=by rw[hr];rfl
   have up:SM none l.2.2.2.1=SM (some p.2) r:=by rw[hr,SM]
   refine Dc _ _ _ _ _ ae (Pc q) o r 1 (by rw[hr];rfl) ae (by rw[hr,zo];omega)<|fun ob=>i _ _ ?_;rw[s, <-up];exact(wc (c:=Mj l≠0)<|fun x=>x b).symm
  ·rw[wd g]at b;exact zj (q1 g)<|zc (n1 g)<|zd<|i _ _<|bad _ g b
 ·rw[wd f]at b;exact zj (q1 f)<|zj (q1 f)<|zc (n1 f)<|zd<|i _ _<|bad _ f b
end T48
end Go.Pe
namespace Go.Sp
theorem bS{n:Int}{seen:List Bx}{t:B3}{l:List B3}{o:List Bx}(h:∀x,x∈o↔x∈seen):F8 n seen (t::l)=if KI t.1 o≠0 then KI t.1 o else if (t.2.length:Int)≠n then 2 else if Ey t.2=true then 3 else F8 n (t.1::seen) l:=by
 rw[F8,Ta];unfold has;cases isName t.1
 ·rfl
 ·by_cases k:t.1∈o
  ·rw[w4<|(h _).1 k,wd k];rfl
  ·rw[w8<|fun x=>k<|(h _).2 x,wc k];rfl
theorem jE{l:Bm}(h:J8 l=0):isName l.1=true:=by
 cases k:isName l.1 with
 |true=>rfl
 |false=>
  have e:=Z6 l;rw[wd k]at e;unfold J8 at h;rw[e,wd af]at h;exact wh h af
theorem aT{seen:List Bx}{l:Bm}{r:List Bm}{o:List Bx}(h:∀x,x∈o↔x∈seen):LQ seen (l::r)=if J8 l≠0 then J8 l else if KI l.1 o≠0 then KI l.1 o else LQ (l.1::seen) r:=by
 rw[LQ];by_cases e:J8 l=0
 ·have a:¬J8 l≠0:=fun x=>x e
  rw[wc a,wc a,Wz<|jE e];unfold has;by_cases k:l.1∈o
  ·rw[w4<|(h _).1 k,wd k];rfl
  ·rw[w8<|fun x=>k<|(h _).2 x,wc k];rfl
 ·rw[wd e,wd e]
theorem SA(n:Int)(r:List Int):Ey (n::r)=((decide (n<1)||decide (10000<n))||Ey r):=by unfold Ey;rw[List.any_cons]
theorem Pk{α:Type}{l:List α}:((l.length:Int)==0)=true↔l=[]:=by
 rw[wj];constructor
 ·intro h;exact List.length_eq_zero_iff.1 ae
 ·intro h;rw[h];rfl
end Go.Sp
namespace Go.Pe
open Sp
open Go.Det
open Go.Sp (AF Bn Bm AW EB Bx B3 q0 q1 n0 n1)
theorem lY:CE Fb:=Aa T46.ok<|Aa T47.ok<|Aa T48.okM Ay
theorem LM{α:Type}{X:AL}{Q:PV->Ob->Prop}{l:List α}{m:Nat}{e:Int}{s1 s2:Ob}{t:Tr}(a:∀ob,Q (.dat i64<|if l=[]then 12 else if m<l.length then 5 else e) ob)(b:l≠[]->l.length<=m->(∀ob,Q (.dat i64 e) ob)->Ends X t Q):
  Ends X (.ite ((l.length:Int)==0) (.leaf (.dat i64 12) s1)<|.ite (decide ((l.length:Int)>(m:Int))) (.leaf (.dat i64 5) s2) t) Q:=by
 refine ze (fun c=>zd ?_)<|fun c=>ze (fun d=>zd ?_)<|fun d=>?_
 ·rw[wd<|Pk.1 c]at a;exact a _
 ·have c:l≠[]:=fun x=>by rw[Pk.2 x]at c;cases c
  have d:=w6 d;rw[wc c,wd ae]at a;exact a _
 ·have c:l≠[]:=fun x=>by rw[Pk.2 x]at c;cases c
  have d:=w7 d;rw[wc c,wc ae]at a;exact b c ae a
namespace T10
theorem Aa5(S:List Bn)(j:List B3)(l:List Bm)(q:l.length<=8)(m:∀x∈l,Mr x=true):∀(r:List Bm) (i n:Nat) (o seen:List Bx),l.drop i=r->i<=l.length->n=o.length->n=i->(∀x,x∈o↔x∈seen)->(∀ob,Q (.dat i64<|LQ seen r) ob)->Ends Fb (L6 n (i:Int) o S j l) Q
 |[],i,n,o,seen,h,k,e,b,g,a=>by
  have:=drop_nil h k;exact zh (E2 ..) (zj (w8 ae)<|zd<|a _)
 |p::r,i,n,o,seen,h,k,e,b,g,a=>by
  obtain⟨w,v,y⟩:=drop_cons (d:=(([],[],[],[],[]):Bm)) h;have s:=m p (zp<|by rw[h];exact zl ..);have t:=wn (i:=i) ae;have f:=nb (i:=i) (n:=l.length) ae;have tk:List.take n o=o:=by rw[e,ym]
  rw[aT g]at a;refine zh (E2 ..) ?_;conv=>zeta
  rw[zg,v,t,tk];have pn:(decide (0+n<=o.length)&&true&&decide (o.length<=1000))=true:=Ab (Ab (w4 ae) rfl) (w4 ae);have u:(decide (1<=1)&&true&&decide (n=o.length)&&decide ((3*(n+1)+2000)*16<=562949953421312))=true:=Ab (Ab (Ab rfl rfl)<|w4 e) (w4 ae);refine zc (w4 ae)<|zc f<|zc s ?_;by_cases c:J8 p=0
  ·rw[wc<|fun x=>x c]at a;refine zc (q0 c)<|zc f<|zc pn<|ze (fun d=>zd ?_)<|fun d=>zc f<|zc u ?_
   ·rw[wd<|by simpa using d]at a;exact a _
   ·rw[wc<|by simpa using d]at a;exact Aa5 S j l q m r (i+1) (yn n 1) (o++[p.1]) (p.1::seen) y w (by rw[yk,e];rfl) (by rw[b]) (Pp g p.1) a
  ·rw[wd c]at a;exact zj (q1 c)<|zc (n1 c)<|zd<|a _
theorem WR(S:List Bn)(e:List B3)(l:List Bm)(i:l.length<=8)(f:∀x∈l,Mr x=true)(a:∀ob,Q (.dat i64<|LQ [] l) ob):Ends Fb (L4 0 S e l) Q:=by
 cases l with
 |nil=>exact zh (Ck ..)<|zj rfl (zd<|a _)
 |cons p r=>
  have s:=f p<|zl ..;have j:zf .i64 ((0:Int)+1)=((1:Nat):Int):=rfl;have h:(p::r).getD (Int.toNat 0) ([],[],[],[],[])=p:=rfl;have b:(decide ((0:Int)<=(0:Int))&&decide ((0:Int)<((p::r).length:Int)))=true:=Ab rfl (w4<|by rw[zo];omega);have k:∀x:Bx,x∈([]:List Bx)↔x∈([]:List Bx):=fun x=>yr
  rw[aT k]at a;refine zh (Ck ..) ?_;conv=>zeta
  rw[h,j];have g:(decide (1<=1)&&decide (0<1)&&decide ((3*1+2000)*16<=562949953421312))=true:=Ab (Ab rfl rfl) (w4 ae);refine zc (w4<|by rw[zo];omega)<|zc b<|zc s ?_;by_cases c:J8 p=0
  ·rw[wc<|fun x=>x c]at a;refine zc (q0 c)<|zc b<|zc rfl (ze (fun d=>zd ?_)<|fun d=>zc b<|zc g ?_)
   ·rw[wd<|by simpa using d]at a;exact a _
   ·rw[wc<|by simpa using d]at a;exact Aa5 S e (p::r) i f r 1 1 [p.1] [p.1] rfl (by rw[zo];omega) rfl rfl (fun x=>yr) a
  ·rw[wd c]at a;exact zj (q1 c)<|zc (n1 c)<|zd<|a _
theorem yE{n:Nat}{i e j:Int}{t:B3}{o:List Bx}{S:List Bn}{c:List B3}{V:List Bm}(a:e≠0)(b:∀ob,Q (.dat i64 e) ob):Ends Fb (L7 n i e j t.1 t.2 o S c V) Q:=
 zh (DW ..) (ze (fun _=>zj (q1 a)<|zc (n1 a)<|zd<|b _)<|fun _=>zc (n1 a)<|zd<|b _)
theorem yC{i e j:Int}{t:B3}{S:List Bn}{c:List B3}{V:List Bm}(a:e≠0)(b:∀ob,Q (.dat i64 e) ob):Ends Fb (L3 i e j t.1 t.2 S c V) Q:=
 zh (Bq ..) (ze (fun _=>zj (q1 a)<|zc (n1 a)<|zd<|b _)<|fun _=>zc (n1 a)<|zd<|b _)
theorem Abm{n:Nat}{i:Int}{t:B3}{o:List Bx}{S:List Bn}{f:List B3}{V:List Bm}(k:n=o.length)(u:n<=1000)(q:t.2.length<=4611686018427387904)(b:Ey t.2=true->∀ob,Q (.dat i64 3) ob)(e:Ey t.2=false->Ends Fb (L5 (yn n 1) (zf .i64<|i+1) (o++[t.1]) S f V) Q):∀(r:List Int) (j:Nat),t.2.drop j=r->j<=t.2.length->Ey t.2=Ey r->Ends Fb (L7 n i 0 (j:Int) t.1 t.2 o S f V) Q
 |[],j,h,l,a=>by
  have:=drop_nil h l;refine zh (DW ..) (zj (w8 ae)<|zj rfl (zc ?_<|e a));exact Ab (Ab (Ab rfl rfl)<|w4 k) (w4 ae)
 |x::r,j,h,l,a=>by
  obtain⟨s,m,v⟩:=drop_cons (d:=(0:Int)) h;have p:=wn (i:=j) ae;have g:=nb (i:=j) (n:=t.2.length) ae;rw[SA]at a;refine zh (DW ..) ?_;conv=>zeta
  rw[zg,m,p];refine zc (w4 ae)<|zc rfl (zc g<|ze (fun c=>?_)<|fun c=>zc g<|ze (fun d=>?_)<|fun d=>?_)
  ·rw[c,z7,z7]at a;exact yE af<|b a
  ·have d:decide (10000<x)=true:=d;rw[d,yq,z7]at a;exact yE af<|b a
  ·have d:decide (10000<x)=false:=d;rw[c,d,ye,ye]at a;exact Abm k u q b e r (j+1) v s a
theorem JH{i:Int}{t:B3}{S:List Bn}{f:List B3}{V:List Bm}(o:t.2.length<=4611686018427387904)(b:Ey t.2=true->∀ob,Q (.dat i64 3) ob)(e:Ey t.2=false->Ends Fb (L5 1 (zf .i64<|i+1) [t.1] S f V) Q):∀(r:List Int) (j:Nat),t.2.drop j=r->j<=t.2.length->Ey t.2=Ey r->Ends Fb (L3 i 0 (j:Int) t.1 t.2 S f V) Q
 |[],j,h,k,a=>by
  have:=drop_nil h k;refine zh (Bq ..) (zj (w8 ae)<|zj rfl (zc ?_<|e a));exact Ab (Ab rfl rfl) (w4 ae)
 |x::r,j,h,k,a=>by
  obtain⟨p,l,q⟩:=drop_cons (d:=(0:Int)) h;have m:=wn (i:=j) ae;have g:=nb (i:=j) (n:=t.2.length) ae;rw[SA]at a;refine zh (Bq ..) ?_;conv=>zeta
  rw[zg,l,m];refine zc (w4 ae)<|zc rfl (zc g<|ze (fun c=>?_)<|fun c=>zc g<|ze (fun d=>?_)<|fun d=>?_)
  ·rw[c,z7,z7]at a;exact yC af<|b a
  ·have d:decide (10000<x)=true:=d;rw[d,yq,z7]at a;exact yC af<|b a
  ·have d:decide (10000<x)=false:=d;rw[c,d,ye,ye]at a;exact JH o b e r (j+1) q p a
theorem Abn(c:AF)(j:bD c=true)(y:c.2.1.length<=8):∀(r:List B3) (i n:Nat) (o seen:List Bx),c.2.1.drop i=r->i<=c.2.1.length->n=o.length->n=i->(∀x,x∈o↔x∈seen)->(∀ob,Q (.dat i64<|if F8 (c.1.length:Int) seen r≠0 then F8 (c.1.length:Int) seen r else OD c) ob)->Ends Fb (L5 n (i:Int) o c.1 c.2.1 c.2.2) Q
 |[],i,n,o,seen,h,p,e,b,l,a=>by
  have:=drop_nil h p;have a:∀ob,Q (.dat i64<|OD c) ob:=fun ob=>by
   have:=a ob;rwa [show F8 (c.1.length:Int) seen []=0 from rfl,wc<|fun x=>x rfl]at this
  refine zh (EF ..) (zj (w8 ae)<|LM (m:=8) a fun _ v g=>?_);exact WR _ _ _ v (Q9 j).2.2.2.2.2 g
 |t::r,i,n,o,seen,h,p,e,b,l,a=>by
  obtain⟨z,w,A⟩:=drop_cons (d:=(([],[]):B3)) h;have st:=(Q9 j).2.2.2.2.1 t (zp<|by rw[h];exact zl ..);have st:decide (t.2.length<=4611686018427387904)=true:=st;rw[w5]at st;have s:=wn (i:=i) ae;have u:=nb (i:=i) (n:=c.2.1.length) ae;have tk:List.take n o=o:=by rw[e,ym]
  have pn:(decide (0+n<=o.length)&&true&&decide (o.length<=1000))=true:=Ab (Ab (w4 ae) rfl) (w4 ae);rw[bS l]at a;refine zh (EF ..) ?_;conv=>zeta
  rw[zg,w,tk];refine zc (w4 ae)<|zc u<|zc pn ?_;by_cases k:KI t.1 o=0
  ·have q:¬KI t.1 o≠0:=fun x=>x k
   rw[wc q]at a;refine zc (q0 k)<|ze (fun d=>?_)<|fun d=>?_
   ·have d:(t.2.length:Int)≠(c.1.length:Int):=by simpa using d
    rw[wd d,wd af]at a;exact yE af a
   ·have d:¬(t.2.length:Int)≠(c.1.length:Int):=by simpa using d
    rw[wc d]at a;rw[k];refine Abm e ae st (fun f=>?_) (fun f=>?_) t.2 0 rfl (zn _) rfl
    ·rw[wd f,wd af]at a;exact a
    ·rw[wc (c:=Ey t.2=true)<|by rw[f];decide]at a;rw[s];exact Abn c j y r (i+1) (yn n 1) (o++[t.1]) (t.1::seen) A z (by rw[yk,e];rfl) (by rw[b]) (Pp l t.1) a
  ·rw[wd k,wd k]at a;exact zj (q1 k)<|yE k a
theorem C1(c:AF)(e:bD c=true)(n:c.2.1.length<=8)(a:∀ob,Q (.dat i64<|if F8 (c.1.length:Int) [] c.2.1≠0 then F8 (c.1.length:Int) [] c.2.1 else OD c) ob):Ends Fb (L2 0 c.1 c.2.1 c.2.2) Q:=by
 obtain⟨S,tt,V⟩:=c;cases tt with
 |nil=>
  have a:∀ob,Q (.dat i64<|OD (S,[],V)) ob:=a;refine zh (Az ..)<|zj rfl (LM (m:=8) a fun _ j b=>?_);exact WR _ _ _ j (Q9 e).2.2.2.2.2 b
 |cons t r=>
  have st:=(Q9 e).2.2.2.2.1 t<|zl ..;have st:decide (t.2.length<=4611686018427387904)=true:=st;rw[w5]at st;have h:zf .i64 ((0:Int)+1)=((1:Nat):Int):=rfl;have l:(t::r).getD (Int.toNat 0) ([],[])=t:=rfl;have i:(decide ((0:Int)<=(0:Int))&&decide ((0:Int)<((t::r).length:Int)))=true:=Ab rfl (w4<|by rw[zo];omega);have o:∀x:Bx,x∈([]:List Bx)↔x∈([]:List Bx):=fun x=>yr
  have a:∀ob,Q (.dat i64<|if F8 (S.length:Int) [] (t::r)≠0 then F8 (S.length:Int) [] (t::r)else OD (S,t::r,V)) ob:=a;rw[bS o]at a;show Ends Fb (L2 0 S (t::r) V) Q;refine zh (Az ..) ?_;conv=>zeta
  rw[l];refine zc (w4<|by rw[zo];omega)<|zc i<|zc rfl ?_;by_cases k:KI t.1 []=0
  ·have g:¬KI t.1 []≠0:=fun x=>x k
   rw[wc g]at a;refine zc (q0 k)<|ze (fun d=>?_)<|fun d=>?_
   ·have d:(t.2.length:Int)≠(S.length:Int):=by simpa using d
    rw[wd d,wd af]at a;exact yC af a
   ·have d:¬(t.2.length:Int)≠(S.length:Int):=by simpa using d
    rw[wc d]at a;rw[k];refine JH st (fun f=>?_) (fun f=>?_) t.2 0 rfl (zn _) rfl
    ·rw[wd f,wd af]at a;exact a
    ·rw[wc (c:=Ey t.2=true)<|by rw[f];decide]at a;rw[h];exact Abn (S,t::r,V) e n r 1 1 [t.1] [t.1] rfl (by rw[zo];omega) rfl rfl (fun x=>yr) a
  ·rw[wd k,wd k]at a;exact zj (q1 k)<|yC k a
theorem Dc(c:AF)(e:bD c=true):∀(r:List Bn) (i:Nat),c.1.drop i=r->i<=c.1.length->
  (∀ob,Q (.dat i64<|if Jd r≠0 then Jd r else Uc c) ob)->Ends Fb (L1 (i:Int) c.1 c.2.1 c.2.2) Q
 |[],i,h,f,a=>by
  have:=drop_nil h f;have a:∀ob,Q (.dat i64<|Uc c) ob:=fun ob=>by
   have:=a ob;rwa [show Jd []=0 from rfl,wc<|fun x=>x rfl]at this
  refine zh (Ak ..) (zj (w8 ae)<|LM (m:=8) a fun _ k b=>?_);exact C1 c e k b
 |p::r,i,h,f,a=>by
  obtain⟨n,l,o⟩:=drop_cons (d:=(([],[],[],[],[]):Bn)) h;have s:=Q9 e;have sp:=s.2.2.2.1 p (zp<|by rw[h];exact zl ..);have q:=s.1;have g:=wn (i:=i) ae;rw[SZ]at a;refine zh (Ak ..) ?_;conv=>zeta
  rw[zg,l,g];refine zc (w4 ae) (zc (ad ae ae)<|zc sp<|ze (fun d=>zd ?_)<|fun d=>?_)
  ·have d:(Ly p !=0)=true:=d;have d:Ly p≠0:=by simpa using d
   rw[wd d,wd d]at a;exact a _
  ·have d:(Ly p !=0)=false:=d;have j:¬Ly p≠0:=by simpa using d
   rw[wc j]at a;exact Dc c e r (i+1) o n a
theorem okM:Af A4 10 Adl:=by
 refine BD lY<|fun(c:AF) a=>?_;have a:bD c=true:=a;have d:∀ob,Ac Adl c (.dat i64<|NX c) ob:=fun ob=>ya rfl rfl rfl
 refine zx (Aj c)<|LM (m:=36) d fun _ _ b=>?_;exact Dc c a c.1 0 rfl (zn _) b
theorem ok:Af A4 10 cCo:=gU okM fun _ h=>Acq h
end T10
end Go.Pe
namespace Go.Sp
theorem S0(p:AW)(l:List AW)(n m:Nat):HO (p::l) n m=((decide (p.1.length<=n)&&decide (p.2.length<=m))&&HO l n m):=by unfold HO;rw[zu]
end Go.Sp
namespace Go.Pe
open Sp
open Go.Det
open Go.Sp (AF Bn Bm AW EB Bx B3 q0 q1 n0 n1)
theorem V5:CE GG:=fun g sp h=>by cases h
namespace T45
theorem C1(b g nx:Bx)(t w:List AW)(j:w.length<=20):∀(r:List AW) (i:Nat),w.drop i=r->i<=w.length->(∀ob,Q (.bl<|HO r 40 20) ob)->Ends GG (L2 (i:Int) b g nx t w) Q
 |[],i,h,f,a=>by
  have:=drop_nil h f;exact zh (Az ..) (zj (w8 ae)<|zd<|a _)
 |p::r,i,h,f,a=>by
  obtain⟨m,k,o⟩:=drop_cons (d:=(([],[]):AW)) h;have l:=wn (i:=i) ae;have e:=nb (i:=i) (n:=w.length) ae;rw[S0]at a;refine zh (Az ..) ?_;conv=>zeta
  rw[zg,k,l];refine zc (w4 ae)<|zc e<|ze (fun c=>zd ?_)<|fun c=>zc e<|ze (fun d=>zd ?_)<|fun d=>C1 b g nx t w j r (i+1) o m ?_
  ·have c:=w6 c;rw[w8 ae,zw,zw]at a;exact a _
  ·have d:=w6 d;rw[w8 (p:=p.2.length<=20) ae,yc,zw]at a;exact a _
  ·have c:=w7 c;have d:=w7 d;rw[w4 (p:=p.1.length<=40) ae,w4 (p:=p.2.length<=20) ae,yd,zy]at a;exact a
theorem Dc(b e nx:Bx)(t w:List AW)(m:t.length<=70)(f:w.length<=20):∀(r:List AW) (i:Nat),t.drop i=r->i<=t.length->(∀ob,Q (.bl<|HO r 20 20&&HO w 40 20) ob)->Ends GG (L1 (i:Int) b e nx t w) Q
 |[],i,h,j,a=>by
  have:=drop_nil h j;have a:∀ob,Q (.bl<|HO w 40 20) ob:=a;exact zh (Ak ..) (zj (w8 ae)<|C1 b e nx t w f w 0 rfl (zn _) a)
 |p::r,i,h,j,a=>by
  obtain⟨o,k,q⟩:=drop_cons (d:=(([],[]):AW)) h;have l:=wn (i:=i) ae;have g:=nb (i:=i) (n:=t.length) ae;rw[S0]at a;refine zh (Ak ..) ?_;conv=>zeta
  rw[zg,k,l];refine zc (w4 ae)<|zc g<|ze (fun c=>zd ?_)<|fun c=>zc g<|ze (fun d=>zd ?_)<|fun d=>Dc b e nx t w m f r (i+1) q o ?_
  ·have c:=w6 c;rw[w8 (p:=p.1.length<=20) ae,zw,zw,zw]at a;exact a _
  ·have d:=w6 d;rw[w8 (p:=p.2.length<=20) ae,yc,zw,zw]at a;exact a _
  ·have c:=w7 c;have d:=w7 d;rw[w4 (p:=p.1.length<=20) ae,w4 (p:=p.2.length<=20) ae,yd,zy]at a;exact a
theorem ok:Af A4 45 bC:=by
 refine BD V5<|fun(l:Bm) _=>?_;have f:∀b ob,b=yh l->Ac bC l (.bl b) ob:=fun b ob x=>ya rfl rfl x
 have no:∀ob,yh l=false->Ac bC l (.bl false) ob:=fun ob h=>f _ ob h.symm
 refine zx (Aj l)<|ze (fun a=>zd<|no _ ?_)<|fun a=>ze (fun b=>zd<|no _ ?_)<|fun b=>ze (fun c=>zd<|no _ ?_)<|fun c=>ze (fun d=>zd<|no _ ?_)<|fun d=>ze (fun e=>zd<|no _ ?_)<|fun e=>?_;all_goals simp only[w5,w9]at*
 ·unfold yh;rw[w8 ae];rfl
 ·unfold yh;rw[w8 (p:=l.2.1.length<=20) ae];simp
 ·unfold yh;rw[w8 (p:=l.2.2.1.length<=20) ae];simp
 ·unfold yh;rw[w8 (p:=l.2.2.2.1.length<=70) ae];simp
 ·unfold yh;rw[w8 (p:=l.2.2.2.2.length<=20) ae];simp
 ·refine Dc _ _ _ _ _ ae ae _ 0 rfl (zn _) (fun ob=>f _ ob ?_);unfold yh;rw[w4 (p:=l.1.length<=40) ae,w4 (p:=l.2.1.length<=20) ae,w4 (p:=l.2.2.1.length<=20) ae,w4 (p:=l.2.2.2.1.length<=70) ae,w4 (p:=l.2.2.2.2.length<=20) ae];rfl
end T45
theorem oM:CE RY:=Aa T45.ok Ay
namespace T9
theorem JH(S:List Bn)(b:List B3)(V:List Bm)(l:V.length<=10):∀(r:List Bm) (i:Nat),V.drop i=r->i<=V.length->(∀ob,Q (.bl<|r.all yh) ob)->Ends RY (L3 (i:Int) S b V) Q
 |[],i,h,e,a=>by
  have:=drop_nil h e;exact zh (Bq ..) (zj (w8 ae)<|zd<|a _)
 |p::r,i,h,e,a=>by
  obtain⟨k,f,m⟩:=drop_cons (d:=(([],[],[],[],[]):Bm)) h;have g:=wn (i:=i) ae;have j:=nb (i:=i) (n:=V.length) ae;rw[zu]at a;refine zh (Bq ..) ?_;conv=>zeta
  rw[zg,f,g];refine zc (w4 ae)<|zc j<|zc rfl (ze (fun c=>zd ?_)<|fun c=>JH S b V l r (i+1) m k ?_)
  ·have c:(!yh p)=true:=c;have c:yh p=false:=by simpa using c
   rw[c]at a;exact a _
  ·have c:(!yh p)=false:=c;have c:yh p=true:=by simpa using c
   rw[c]at a;exact a
theorem C1(S:List Bn)(b:List B3)(V:List Bm)(n:b.length<=10)(g:V.length<=10):∀(r:List B3) (i:Nat),b.drop i=r->i<=b.length->(∀ob,Q (.bl<|r.all Sp.CM&&V.all yh) ob)->Ends RY (L2 (i:Int) S b V) Q
 |[],i,h,f,a=>by
  have:=drop_nil h f;have a:∀ob,Q (.bl<|V.all yh) ob:=a;exact zh (Az ..) (zj (w8 ae)<|JH S b V g V 0 rfl (zn _) a)
 |p::r,i,h,f,a=>by
  obtain⟨l,j,m⟩:=drop_cons (d:=(([],[]):B3)) h;have k:=wn (i:=i) ae;have e:(decide ((0:Int)<=(i:Int))&&decide ((i:Int)<(b.length:Int)))=true:=ad ae ae;rw[zu]at a;refine zh (Az ..) ?_;conv=>zeta
  rw[zg,j,k];have sh:Sp.CM p=(decide (p.1.length<=40)&&decide (p.2.length<=40)):=rfl;refine zc (w4 ae)<|zc e<|ze (fun c=>zd ?_)<|fun c=>zc e<|ze (fun d=>zd ?_)<|fun d=>C1 S b V n g r (i+1) m l ?_
  ·have c:=w6 c;rw[sh,w8 (p:=p.1.length<=40) ae]at a;exact a _
  ·have d:=w6 d;rw[sh,w8 (p:=p.2.length<=40) ae,yc]at a;exact a _
  ·have c:=w7 c;have d:=w7 d;rw[sh,w4 (p:=p.1.length<=40) ae,w4 (p:=p.2.length<=40) ae]at a;exact a
theorem Dc(S:List Bn)(g:List B3)(V:List Bm)(m:S.length<=38)(l:g.length<=10)(k:V.length<=10):∀(r:List Bn) (i:Nat),S.drop i=r->i<=S.length->(∀ob,Q (.bl<|r.all yp&&(g.all Sp.CM&&V.all yh)) ob)->Ends RY (L1 (i:Int) S g V) Q
 |[],i,h,j,f=>by
  have:=drop_nil h j;have f:∀ob,Q (.bl<|g.all Sp.CM&&V.all yh) ob:=f;exact zh (Ak ..) (zj (w8 ae)<|C1 S g V l k g 0 rfl (zn _) f)
 |p::r,i,h,j,f=>by
  obtain⟨t,s,u⟩:=drop_cons (d:=(([],[],[],[],[]):Bn)) h;have o:=wn (i:=i) ae;have q:=nb (i:=i) (n:=S.length) ae;rw[zu]at f;refine zh (Ak ..) ?_;conv=>zeta
  rw[zg,s,o];have no:yp p=false->∀ob,Q (.bl false) ob:=fun h=>by rw[h]at f;exact f
  refine zc (w4 ae)<|zc q<|ze (fun a=>zd<|no ?_ _)<|fun a=>ze (fun b=>zd<|no ?_ _)<|fun b=>ze (fun c=>zd<|no ?_ _)<|fun c=>ze (fun d=>zd<|no ?_ _)<|fun d=>ze (fun e=>zd<|no ?_ _)<|fun e=>Dc S g V m l k r (i+1) u t ?_
  ·have a:=w6 a;unfold yp;rw[w8 (p:=p.1.length<=20) ae];rfl
  ·have b:=w6 b;unfold yp;rw[w8 (p:=p.2.1.length<=20) ae];simp
  ·have c:=w6 c;unfold yp;rw[w8 (p:=p.2.2.1.length<=20) ae];simp
  ·have d:=w6 d;unfold yp;rw[w8 (p:=p.2.2.2.1.length<=20) ae];simp
  ·have e:=w6 e;unfold yp;rw[w8 (p:=p.2.2.2.2.length<=20) ae];simp
  ·have a:=w7 a;have b:=w7 b;have c:=w7 c;have d:=w7 d;have e:=w7 e;have y:yp p=true:=by
    unfold yp;rw[w4 (p:=p.1.length<=20) ae,w4 (p:=p.2.1.length<=20) ae,w4 (p:=p.2.2.1.length<=20) ae,w4 (p:=p.2.2.2.1.length<=20) ae,w4 (p:=p.2.2.2.2.length<=20) ae];rfl
   rw[y]at f;exact f
theorem ok:Af A4 9 yL:=by
 refine BD oM<|fun(c:AF) _=>?_;have e:∀b ob,b=IS c->Ac yL c (.bl b) ob:=fun b ob x=>ya rfl rfl x
 have no:∀ob,IS c=false->Ac yL c (.bl false) ob:=fun ob h=>e _ ob h.symm
 refine zx (Aj c)<|ze (fun a=>zd<|no _ ?_)<|fun a=>ze (fun b=>zd<|no _ ?_)<|fun b=>ze (fun d=>zd<|no _ ?_)<|fun d=>?_
 ·have a:=w6 a;unfold IS;rw[w8 (p:=c.1.length<=38) ae];rfl
 ·have b:=w6 b;unfold IS;rw[w8 (p:=c.2.1.length<=10) ae];simp
 ·have d:=w6 d;unfold IS;rw[w8 (p:=c.2.2.length<=10) ae];simp
 ·have a:=w7 a;have b:=w7 b;have d:=w7 d;refine Dc _ _ _ ae ae ae _ 0 rfl (zn _) (fun ob=>e _ ob ?_);unfold IS;rw[w4 (p:=c.1.length<=38) ae,w4 (p:=c.2.1.length<=10) ae,w4 (p:=c.2.2.length<=10) ae,yd,yd,zy,Bool.and_assoc];rfl
end T9
end Go.Pe
namespace Go.Sp
theorem oO(p:AW)(l:List AW)(d:Int):fwP (p::l) d=((Ci p.1 d&&Ci p.2 d)&&fwP l d):=by unfold fwP;rw[zu]
theorem kX(p:AW)(l:List AW)(d:Int):wK (p::l) d=(Ci p.2 d&&wK l d):=by unfold wK;rw[zu]
theorem ES{s:Bx}{d:Int}(h:Ci s d=true)(a:d<=9):s.length<=20:=by
 unfold Ci at h;simp only[zk,w5]at h;omega
theorem P5{n d:Int}(h:iD n d=true):0<=n/\n<=8/\0<=d/\d<=9:=by
 unfold iD at h;simp only[zk,w5]at h;omega
theorem vA{s:Bn}{n d:Int}(h:IN s n d=true)(i:iD n d=true):Bt s=true:=by
 obtain⟨_,j,_,g⟩:=P5 i;unfold IN at h;simp only[zk,w5]at h;have a:=ES h.1.1.1.2 g;have b:=ES h.1.1.2 g;have c:=ES h.1.2 g;have e:=ES h.2 g;have f:=h.1.1.1.1;unfold Bt;rw[w4 a,w4 b,w4 c,w4 e,w4 ae];rfl
theorem Aah{l:Bm}{n d:Int}(h:EX l n d=true)(j:iD n d=true):Mr l=true:=by
 obtain⟨_,k,_,g⟩:=P5 j;unfold EX at h;simp only[zk,w5]at h;obtain⟨⟨⟨⟨⟨_,a⟩,_⟩,b⟩,c⟩,e,f⟩:=h;have s:HO l.2.2.2.1 20 20=true:=by
  unfold HO;unfold fwP at e;rw[z6]at e ⊢;intro x i;have y:=e x i;rw[zk]at y;rw[w4<|ES y.1 g,w4<|ES y.2 g];rfl
 have w:(l.2.2.2.2.all fun p=>decide (p.2.length<=20))=true:=by
  unfold wK at f;rw[z6]at f ⊢;exact fun x i=>w4<|ES (f x i) g
 unfold Mr;rw[w4<|ES b g,w4<|ES c g,w4 (p:=l.2.2.2.1.length<=70) ae,s,w];rfl
end Go.Sp
namespace Go.Pe
open Sp
open Go.Det
open Go.Sp (AF Bn Bm AW EB Bx B3)
theorem sF:CE YI:=Aa T49.ok Ay
namespace T50
theorem C1(d:Int)(g:0<=d/\d<=9)(b f nx:Bx)(t w:List AW)(j:w.length<=8):∀(r:List AW) (i:Nat),w.drop i=r->i<=w.length->(∀ob,Q (.bl<|wK r d) ob)->Ends YI (L2 d (i:Int) b f nx t w) Q
 |[],i,h,e,a=>by
  have:=drop_nil h e;exact zh (Az ..) (zj (w8 ae)<|zd<|a _)
 |p::r,i,h,e,a=>by
  obtain⟨q,k,s⟩:=drop_cons (d:=(([],[]):AW)) h;have l:=wn (i:=i) ae;have m:=nb (i:=i) (n:=w.length) ae;have o:(decide (0<=d)&&decide (d<=1000))=true:=Ab (w4 g.1) (w4 ae);rw[kX]at a;refine zh (Az ..) ?_;conv=>zeta
  rw[zg,k,l];refine zc (w4 ae)<|zc m<|zc o<|ze (fun c=>zd ?_)<|fun c=>C1 d g b f nx t w j r (i+1) s q ?_
  ·have c:Ci p.2 d=false:=by simpa using c
   rw[c]at a;exact a _
  ·have c:Ci p.2 d=true:=by simpa using c
   rw[c]at a;exact a
theorem Dc(d:Int)(b:0<=d/\d<=9)(g f nx:Bx)(t w:List AW)(s:t.length<=8)(j:w.length<=8):∀(r:List AW) (i:Nat),t.drop i=r->i<=t.length->(∀ob,Q (.bl<|Sp.fwP r d&&wK w d) ob)->Ends YI (L1 d (i:Int) g f nx t w) Q
 |[],i,h,l,a=>by
  have:=drop_nil h l;have a:∀ob,Q (.bl<|wK w d) ob:=a;exact zh (Ak ..) (zj (w8 ae)<|C1 d b g f nx t w j w 0 rfl (zn _) a)
 |p::r,i,h,l,a=>by
  obtain⟨u,q,v⟩:=drop_cons (d:=(([],[]):AW)) h;have o:=wn (i:=i) ae;have k:=nb (i:=i) (n:=t.length) ae;have m:(decide (0<=d)&&decide (d<=1000))=true:=Ab (w4 b.1) (w4 ae);rw[oO]at a;refine zh (Ak ..) ?_;conv=>zeta
  rw[zg,q,o];refine zc (w4 ae)<|zc k<|zc m<|ze (fun c=>zd ?_)<|fun c=>zc k<|zc m<|ze (fun e=>zd ?_)<|fun e=>Dc d b g f nx t w s j r (i+1) v u ?_
  ·have c:Ci p.1 d=false:=by simpa using c
   rw[c]at a;exact a _
  ·have e:Ci p.2 d=false:=by simpa using e
   rw[e,yc]at a;exact a _
  ·have c:Ci p.1 d=true:=by simpa using c
   have e:Ci p.2 d=true:=by simpa using e
   rw[c,e]at a;exact a
theorem ok:Af A4 50 ZD:=by
 refine BD sF<|fun(i:Bm×Int×Int) g=>?_;obtain⟨l,n,d⟩:=i;have g:iD n d=true:=g;obtain⟨n0,n8,d0,d9⟩:=P5 g;have j:∀b ob,b=EX l n d->Ac ZD (l,n,d) (.bl b) ob:=fun b ob x=>ya rfl rfl x
 have no:∀ob,EX l n d=false->Ac ZD (l,n,d) (.bl false) ob:=fun ob h=>j _ ob h.symm
 have k:(decide (0<=d)&&decide (d<=1000))=true:=Ab (w4 d0) (w4 ae);refine zx (Aj l n d)<|ze (fun a=>zd<|no _ ?_)<|fun a=>ze (fun b=>zd<|no _ ?_)<|fun b=>ze (fun c=>zd<|no _ ?_)<|fun c=>zc k<|ze (fun e=>zd<|no _ ?_)<|fun e=>zc k<|ze (fun f=>zd<|no _ ?_)<|fun f=>?_
 ·have a:=w6 a;unfold EX;rw[w8 (p:=l.1.length<=30) ae];rfl
 ·have b:=w6 b;unfold EX;rw[w8 (p:=(l.2.2.2.1.length:Int)<=n) ae];simp
 ·have c:=w6 c;unfold EX;rw[w8 (p:=(l.2.2.2.2.length:Int)<=n) ae];simp
 ·have e:Ci l.2.1 d=false:=by simpa using e
  unfold EX;rw[e];simp
 ·have f:Ci l.2.2.1 d=false:=by simpa using f
  unfold EX;rw[f];simp
 ·have a:=w7 a;have b:=w7 b;have c:=w7 c;have e:Ci l.2.1 d=true:=by simpa using e
  have f:Ci l.2.2.1 d=true:=by simpa using f
  refine Dc d ⟨d0,d9⟩ _ _ _ _ _ ae ae _ 0 rfl (zn _) (fun ob=>j _ ob ?_);unfold EX;rw[w4 (p:=l.1.length<=30) ae,w4 (p:=(l.2.2.2.1.length:Int)<=n) ae,w4 (p:=(l.2.2.2.2.length:Int)<=n) ae,e,f];rfl
end T50
theorem jU:CE Xw:=Aa T49.ok<|Aa T50.ok<|Aa T10.okM Ay
namespace T11
theorem C1(S:List Bn)(e:List B3)(V:List Bm)(n d:Int)(o:iD n d=true)(q:(∀x∈V,EX x n d=true)->bD (S,e,V)=true)(A:V.length<=8):∀(r:List Bm) (i:Nat),V.drop i=r->i<=V.length->(∀x∈V,x∈r\/EX x n d=true)->(∀v b ob,v=.bl b\/v=.dat .bool b->b=(r.all (fun l=>EX l n d)&&decide (NX (S,e,V)=0))->Q v ob)->Ends Xw (L2 n d (i:Int) S e V) Q
 |[],i,h,j,g,a=>by
  have:=drop_nil h j;have m:=q (fun x f=>(g x f).resolve_left<|by simp);exact zh (Az ..) (zj (w8 ae)<|zc m<|zd<|a _ _ _ (.inr rfl) rfl)
 |p::r,i,h,j,g,a=>by
  obtain⟨y,t,B⟩:=drop_cons (d:=(([],[],[],[],[]):Bm)) h;have u:=wn (i:=i) ae;have w:=nb (i:=i) (n:=V.length) ae;rw[zu]at a;refine zh (Az ..) ?_;conv=>zeta
  rw[zg,t,u];refine zc (w4 ae)<|zc w<|zc o<|ze (fun c=>zd<|a _ _ _ (.inl rfl) ?_)<|fun c=>C1 S e V n d o q A r (i+1) B y ?_ ?_
  ·have c:(!EX p n d)=true:=c;have c:EX p n d=false:=by simpa using c
   rw[c];rfl
  ·have c:(!EX p n d)=false:=c;have c:EX p n d=true:=by simpa using c
   intro x f;rcases g x f with k|k
   ·rcases yb.1 k with k|k
    ·exact .inr<|k▸c
    ·exact .inl k
   ·exact .inr k
  ·have c:(!EX p n d)=false:=c;have c:EX p n d=true:=by simpa using c
   intro v b ob s z;refine a v b ob s ?_;rw[c,zy];exact z
theorem Dc(S:List Bn)(g:List B3)(V:List Bm)(n d:Int)(u:iD n d=true)(B:(∀x∈S,IN x n d=true)->(∀x∈V,EX x n d=true)->bD (S,g,V)=true)(D:S.length<=8)(C:V.length<=8):∀(r:List Bn) (i:Nat),S.drop i=r->i<=S.length->(∀x∈S,x∈r\/IN x n d=true)->(∀v b ob,v=.bl b\/v=.dat .bool b->b=(r.all (fun s=>IN s n d)&&(V.all (fun l=>EX l n d)&&decide (NX (S,g,V)=0)))->Q v ob)->Ends Xw (L1 n d (i:Int) S g V) Q
 |[],i,h,A,z,j=>by
  have:=drop_nil h A;have m:=B (fun x o=>(z x o).resolve_left (by simp));exact zh (Ak ..) (zj (w8 ae) (C1 S g V n d u m C V 0 rfl (zn _) (fun x o=>.inl o) (fun v b ob t w=>j v b ob t<|by rw[List.all_nil,zy];exact w)))
 |p::r,i,h,A,z,j=>by
  obtain⟨H,G,I⟩:=drop_cons (d:=(([],[],[],[],[]):Bn)) h;obtain⟨n0,n8,d0,d9⟩:=P5 u;have E:=wn (i:=i) ae;have F:=nb (i:=i) (n:=S.length) ae;have q:(decide (0<=d)&&decide (d<=1000))=true:=Ab (w4 d0) (w4 ae);rw[zu]at j;have no:IN p n d=false->∀ob,Q (.bl false) ob:=fun h ob=>j _ _ ob (.inl rfl) (by rw[h];rfl)
  refine zh (Ak ..) ?_;conv=>zeta
  rw[zg,G,E];refine zc (w4 ae) (zc F<|ze (fun a=>zd<|no ?_ _)<|fun a=>zc q<|ze (fun b=>zd<|no ?_ _)<|fun b=>zc q<|ze (fun c=>zd<|no ?_ _)<|fun c=>zc q<|ze (fun e=>zd<|no ?_ _)<|fun e=>zc q<|ze (fun f=>zd<|no ?_ _)<|fun f=>?_) 
  ·have a:=w6 a;unfold IN;rw[w8 (p:=(p.2.2.2.2.length:Int)<=n) ae];rfl
  ·have b:Ci p.1 d=false:=by simpa using b
   unfold IN;rw[b];simp
  ·have c:Ci p.2.1 d=false:=by simpa using c
   unfold IN;rw[c];simp
  ·have e:Ci p.2.2.1 d=false:=by simpa using e
   unfold IN;rw[e];simp
  ·have f:Ci p.2.2.2.1 d=false:=by simpa using f
   unfold IN;rw[f];simp
  ·have a:=w7 a;have y:IN p n d=true:=by
    have b:Ci p.1 d=true:=by simpa using b
    have c:Ci p.2.1 d=true:=by simpa using c
    have e:Ci p.2.2.1 d=true:=by simpa using e
    have f:Ci p.2.2.2.1 d=true:=by simpa using f
    unfold IN;rw[w4 (p:=(p.2.2.2.2.length:Int)<=n) ae,b,c,e,f];rfl
   refine Dc S g V n d u B D C r (i+1) I H ?_ ?_
   ·intro x o;rcases z x o with k|k
    ·rcases yb.1 k with k|k
     ·exact .inr<|k▸y
     ·exact .inl k
    ·exact .inr k
   ·intro v b ob t w;refine j v b ob t ?_;rw[y,zy];exact w
theorem ok:Af A4 11 wG:=by
 refine BD jU<|fun(i:AF×Int×Int) g=>?_;obtain⟨c,n,d⟩:=i;have g:(iD n d&&c.2.1.all Wd)=true:=g;rw[zk]at g;obtain⟨hN,hT⟩:=g;obtain⟨n0,n8,d0,d9⟩:=P5 hN;have k:∀v b ob,v=.bl b\/v=.dat .bool b->b=Xr c n d->Ac wG (c,n,d) v ob:=by
  rintro v b ob (rfl|rfl) j
  ·exact ya rfl rfl j
  ·exact ya rfl rfl j
 have no:∀ob,Xr c n d=false->Ac wG (c,n,d) (.bl false) ob:=fun ob h=>k _ _ ob (.inl rfl) h.symm
 refine zx (Aj c n d)<|ze (fun a=>zd<|no _ ?_)<|fun a=>ze (fun b=>zd<|no _ ?_)<|fun b=>ze (fun e=>zd<|no _ ?_)<|fun e=>?_
 ·have a:=w6 a;unfold Xr;rw[w8 (p:=(c.1.length:Int)<=n) ae];rfl
 ·have b:=w6 b;unfold Xr;rw[w8 (p:=(c.2.1.length:Int)<=n) ae];simp
 ·have e:=w6 e;unfold Xr;rw[w8 (p:=(c.2.2.length:Int)<=n) ae];simp
 ·have a:=w7 a;have b:=w7 b;have e:=w7 e;have m:(∀x∈c.1,IN x n d=true)->(∀x∈c.2.2,EX x n d=true)->bD (c.1,c.2.1,c.2.2)=true:=fun u v=>by
   have u:c.1.all yp=true:=z6.2 fun x f=>vA (u x f) hN
   have v:c.2.2.all Mr=true:=z6.2 fun x f=>Aah (v x f) hN
   unfold bD;rw[w4 (p:=c.1.length<=38) ae,w4 (p:=c.2.1.length<=10) ae,w4 (p:=c.2.2.length<=10) ae,u,v,hT];rfl
  refine Dc _ _ _ n d hN m ae ae _ 0 rfl (zn _) (fun x f=>.inl f) (fun v b ob l j=>k v b ob l ?_);rw[j];unfold Xr;rw[w4 (p:=(c.1.length:Int)<=n) ae,w4 (p:=(c.2.1.length:Int)<=n) ae,w4 (p:=(c.2.2.length:Int)<=n) ae];rfl
end T11
section
open List Int Prod
namespace T77
def T(s:Z):Tr:=tree Aay false 9 77<|Ag ([zm]) s
def L1(v5 c:Int)(b:Bool)(a:List Int):Tr:=re ((T []).L.R.R.L)<|Aw 62 [(4,.ptr 0 0),(5,.dat i64 v5),(6,.dat i64 c)] [(0,.box [.dat z8 b,.dat (zi i64) a])] 1
theorem Aj(s:Z):T s=let a:Tr:=.leaf (.tup [.dat i64 (0:Int),.bl false]) [];.cd (length s<=1000000) (.ite (!K2 s) a<|.di ((length s:Int)>20) a<|.ck (D4 s)<|L1 0 (zf .i64<|(↑(length<|Ej s):Int)-1) (Gr s)<|Ej s):=by kernel_rfl
theorem Ak(v5 b:Int)(d:Bool)(a:List Int):stepT Aay (L1 v5 b d a)=let c:Tr:=.leaf (.tup [.dat i64 (0:Int),.bl false]) [];let e:=0-getD a (toNat b) 0;let j:=decide (v5<(-9223372036));let h':=zf .i64<|b-1;let g:=decide (v5>9223372036);let f:=L1 (zf .i64<|zf .i64 (v5*1000000000)+zf .i64 e) h' d a;let i:=L1 (zf .i64<|zf .i64 (v5*1000000000)+getD a (toNat b) 0) h' d a;let h:Tr:=.ite (v5==(-9223372036)) (.di (zf .i64 e<(-854775808)) c f) f;let b':Tr:=.ite (v5==(-9223372036)) (.di (getD a (toNat b) 0<(-854775808)) c i) i;.di (b>=0) (.ck (decide (0<=b)&&decide (b<(length a:Int)))<|.ite d (.ite g c<|.ite j c<|.ite (v5==9223372036) (.di (zf .i64 e>854775807) c h) h)<|.ite g c<|.ite j c<|.ite (v5==9223372036) (.di (getD a (toNat b) 0>854775807) c b') b') (.leaf (.tup [.dat i64 v5,.bl true]) []):=by kernel_rfl
end T77
namespace T181
def T(c:AF)(t h:Int):Tr:=tree AeA false 9 181<|Ag ([Bc,yf zt,yf zt]) (c,t,h)
theorem Aj(c:AF)(t h:Int):T c t h=let a:=getD (fst c) (toNat h) ([],[],[],[],[]);let e:=snd<|getD (fst<|snd c) (toNat t) ([],[]);let b:=B5 (fst<|snd a)<|fst<|snd<|snd a;let d:=getD e (toNat h) 0;let b':=B5 (Yh d)<|B5 (fst a) b;.ck (decide (0<=h)&&decide (h<(↑(length<|fst c):Int))) (.ck (decide (0<=t)&&decide (t<(↑(length<|fst<|snd c):Int)))<|.ck (decide (0<=h)&&decide (h<(↑(length e):Int)))<|.ck (XV d)<|.ck (A2 (fst<|snd a)&&A2 (fst<|snd<|snd a))<|.ck (A2 (fst a)&&A2 b)<|.ck (A2 (Yh d)&&A2 (B5 (fst a) b))<|.ck (A2 b'&&Di [(48:UInt8)])<|.di (EI b' [(48:UInt8)]>=0) (.leaf (.dat zm b') [])<|.leaf (.dat zm [(48:UInt8)]) []):=by kernel_rfl
end T181
namespace T127
def T(c:AF)(t h l:Int):Tr:=tree Ae6 false 9 127<|Ag ([Bc,yf zt,yf zt,yf zt]) (c,t,h,l)
theorem Aj(c:AF)(t h l:Int):T c t h l=let a:=snd<|getD (snd<|snd c) (toNat l) ([],[],[],[],[]);let b':=fst<|snd<|snd<|snd<|getD (fst c) (toNat h) ([],[],[],[],[]);let b:=XA c t h;let d:=B5 (fst a) b';let e:=fst<|snd a;let f:=EH (Hl b d) e;let g:=B5 e b';let h':=A2 b&&Di d;.ck (decide (0<=l)&&decide (l<(↑(length<|snd<|snd c):Int))) (.ck (decide (0<=h)&&decide (h<(↑(length<|fst c):Int)))<|.ck (Sp.okP c t h)<|.ck (A2 (fst a)&&A2 b')<|.ck h'<|.di (EI b d<=0) (.ck (A2 b&&A2 (fst a))<|.ck (A2 (EH b<|fst a)&&VZ d)<|.leaf (.dat zm<|FD (EH b<|fst a) d) [])<|.ck h'<|.ck (A2 (Hl b d)&&A2 e)<|.ck (A2 e&&A2 b')<|.ck (A2 f&&VZ g)<|.ck (A2 (fst a)&&A2 (FD f g))<|.leaf (.dat zm<|B5 (fst a)<|FD f g) []):=by kernel_rfl
end T127
end
end Go.Pe
