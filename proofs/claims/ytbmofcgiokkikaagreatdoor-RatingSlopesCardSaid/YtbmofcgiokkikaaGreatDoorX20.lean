import Derived.Test.YtbmofcgiokkikaaGreatDoorX16
/- A part of a proof; no law is stated here. -/
noncomputable section
open Go.Pe.Ends renaming tt -> zc, Ah -> zf, ite -> zj, ff -> zl, leaf -> zm
open Go.Pe.Sh renaming list -> zd, str -> zh, pair -> zk
open Go.IntKind renaming wrap -> ze
open Int renaming toNat_natCast -> zi
namespace Go.Sp
def Xg(c:At)(t:Int)(n:Nat):List Bm:=(BN n).map fun l=>Az<|Iz<|HY c t l
def U0(c:At)(n:Nat):List (List Bm):=(BN n).map fun t=>Xg c t c.2.2.length
def Td(c:At):List (List Bm):=if HR c≠0 then[]else U0 c c.2.1.length
end Go.Sp
namespace Go.Pe
open Go.Det
def QD:Am:=⟨[AT],fun c=>Sp.GM c,[.list<|.list .str,i64],fun c=>(Sp.Td c,Sp.HR c),false⟩
def Gj:AG:=SV [(23,[17])] [(23,[(17,[(7,.list .str)])])] [(23,[(17,[1,5,7,18,19]),(16,[1,5,6,7,18,19,24,25]),(15,[1,5,6,7,9,18,19,24,25]),(11,[1,5,6,7,18,19,24,25]),(10,[1,5,6,7,18,19,24,25]),(7,[1,5,18,19]),(6,[1,5,18,19]),(4,[1])])] [(51,Hk),(55,cEx),(56,Agy),(54,Nk)]
def ZV:Am:=⟨[jT,jT],fun i=>decide (List.length (α:=Int) i.1<=1000000),[.bool],fun i=>decide (i.1=i.2),false⟩
def LY:Am:=⟨[AT,i64,.pair i64 i64],fun i=>Sp.rQ i.1&&List.all (α:=Sp.Bw) (Prod.fst<|Prod.snd (i.1:Sp.At)) Sp.PD,[.bool],fun _=>true,false⟩
def FU:AG:=SV [(4,[2,7,10,14,24,25])] [(4,[(2,[(3,AT),(5,.pair i64 i64),(7,AT)]),(10,[(11,i64),(13,.list .str)])])] [(4,[(2,[1,3,5,7]),(7,[1,3,5,7,8]),(10,[1,3,5,7,8,9,10,11,12,13,14]),(14,[1,3,5,7,9,10,11,12,13]),(24,[1,3,5,7,9,10,11,12]),(25,[1,3,5,7,8,9,10,11,12]),(27,[1,5,7,9,10,11,12]),(16,[1,3,5,7,9,10,11,12,13,15]),(21,[1,3,5,7,9,10,11,12,13,15,16]),(22,[1,3,5,7,9,10,11,12,13,15,16]),(20,[1,3,5,7,9,10,11,12,13,15,16]),(19,[1,3,5,7,9,10,11,12,13,15]),(17,[1,3,5,7,9,10,11,12,13,15]),(15,[1,3,5,7,9,10,11,12,13,15])])] [(8,UE),(7,Jt),(9,Aa3),(10,cCo),(11,xZ),(21,Wj),(22,Jz),(23,QD),(24,gM),(20,AgT),(16,qY),(15,Hz),(25,Aeh),(27,Afe),(26,ZV)]
def zT:AG:=X7 []
open Sp
section
open List Int Prod
namespace T4
def T(c:At)(t:Int)(a:Int×Int):Tr:=tree FU false 9 4<|Af ([AT,Sh.int IntKind.i64,zk i64 i64]) (c,t,a)
def L1(v1:Int)(v3:At)(v5:Int×Int)(a:At):Tr:=re ((T ([],([],[])) 0 (0,0)).L)<|Ap 196 [(1,.dat i64 v1),(3,PV.AV AT v3 0),(5,PV.AV (zk i64 i64) v5 0),(7,PV.AV AT a 0)] [] 0
theorem Ai(c:At)(t:Int)(a:Int×Int):T c t a=.ck (rQ c) (L1 t c a c):=by kernel_rfl
def L2(v1:Int)(v3:At)(v5:Int×Int)(b:At)(a:Int):Tr:=re ((stepT FU<|L1 0 ([],([],[])) (0,0) ([],([],[]))).L.R.L.R.L.L.L.R)<|Ap 196 [(1,.dat i64 v1),(3,PV.AV AT v3 0),(5,PV.AV (zk i64 i64) v5 0),(7,PV.AV AT b 0),(8,.dat i64 a)] [] 0
theorem Al(v1:Int)(v3:At)(v5:Int×Int)(a:At):stepT FU (L1 v1 v3 v5 a)=let b:Tr:=.ck true<|.leaf (.dat Sh.bool true) [];let b':=L2 v1 v3 v5 a<|HR a;.ck true (.ite false b<|.ck true<|.ite (!Gc a) b<|.ck (Gc a)<|.ite (HR a==0) (.ck (YZ 6 4&&List.all (fst<|snd a) PD)<|.ite (!KS a 6 4) (.leaf (.bl true) []) b') b'):=by kernel_rfl
def L3(v1:Int)(v3:At)(v5:Int×Int)(i:At)(h v9 f:Int)(d:List Int)(a:Int)(e:List (List Z))(b:Int):Tr:=re ((stepT FU<|L2 0 ([],([],[])) (0,0) ([],([],[])) 0).L.L.L.L.L.L.L)<|Ap 196 [(1,.dat i64 v1),(3,PV.AV AT v3 0),(5,PV.AV (zk i64 i64) v5 0),(7,PV.AV AT i 0),(8,.dat i64 h),(9,.dat i64 v9),(10,.dat i64 f),(11,.dat (zd i64) d),(12,.dat i64 a),(13,.dat (zd<|zd zh) e),(14,.dat i64 b)] [] 0
theorem AA(v1:Int)(v3:At)(v5:Int×Int)(b:At)(a:Int):stepT FU (L2 v1 v3 v5 b a)=let d:=DW v3 v1 (fst v5)<|snd v5;.ck true (.ck true<|.ck (GM v3)<|.ck true<|.ck true<|.ck (GM v3)<|.ck (GM v3)<|L3 v1 v3 v5 b a (Vr v3 v1 (fst v5)<|snd v5) d (Wx v3 v1 (fst v5)<|snd v5) d (Td v3)<|HR v3):=by kernel_rfl
def L4(v1:Int)(v3:At)(v5:Int×Int)(f:At)(v9 e:Int)(b:List Int)(a:Int)(d:List (List Z)):Tr:=re ((stepT FU<|L3 0 ([],([],[])) (0,0) ([],([],[])) 0 0 0 [] 0 [] 0).R.R.R)<|Ap 196 [(1,.dat i64 v1),(3,PV.AV AT v3 0),(5,PV.AV (zk i64 i64) v5 0),(7,PV.AV AT f 0),(9,.dat i64 v9),(10,.dat i64 e),(11,.dat (zd i64) b),(12,.dat i64 a),(13,.dat (zd<|zd zh) d)] [] 0
theorem Bo(v1:Int)(v3:At)(v5:Int×Int)(j:At)(i v9 f:Int)(e:List Int)(b:Int)(a:List (List Z))(d:Int):stepT FU (L3 v1 v3 v5 j i v9 f e b a d)=let h:Tr:=.leaf (.bl false) [];.ite (i !=0) (.ck true<|.ite (Rm v9 f i 0) (.ite ((length e:Int)==0) (.ite (b==i) (.ite ((length a:Int)==0) (.leaf (.dat Sh.bool<|d==i) []) h) h) h) h) (.ite (d !=0) h<|.ite ((length a:Int) !=(↑(length<|fst<|snd v3):Int)) h<|L4 v1 v3 v5 j v9 f e b a):=by kernel_rfl
def L5(v1:Int)(v3:At)(v5:Int×Int)(h:At)(v9 e:Int)(b:List Int)(a:Int)(d:List (List Z))(f:Int):Tr:=re ((stepT FU<|L4 0 ([],([],[])) (0,0) ([],([],[])) 0 0 [] 0 []))<|Ap 196 [(1,.dat i64 v1),(3,PV.AV AT v3 0),(5,PV.AV (zk i64 i64) v5 0),(7,PV.AV AT h 0),(9,.dat i64 v9),(10,.dat i64 e),(11,.dat (zd i64) b),(12,.dat i64 a),(13,.dat (zd<|zd zh) d),(15,.dat i64 f)] [] 0
theorem BX(v1:Int)(v3:At)(v5:Int×Int)(f:At)(v9 e:Int)(b:List Int)(a:Int)(d:List (List Z)):stepT FU (L4 v1 v3 v5 f v9 e b a d)=L5 v1 v3 v5 f v9 e b a d 0:=by kernel_rfl
def L6(v1:Int)(v3:At)(v5:Int×Int)(i:At)(v9 f:Int)(b:List Int)(a:Int)(d:List (List Z))(h e:Int):Tr:=re ((stepT FU<|L5 0 ([],([],[])) (0,0) ([],([],[])) 0 0 [] 0 [] 0).L.L.R)<|Ap 196 [(1,.dat i64 v1),(3,PV.AV AT v3 0),(5,PV.AV (zk i64 i64) v5 0),(7,PV.AV AT i 0),(9,.dat i64 v9),(10,.dat i64 f),(11,.dat (zd i64) b),(12,.dat i64 a),(13,.dat (zd<|zd zh) d),(15,.dat i64 h),(16,.dat i64 e)] [] 0
def L7(v1:Int)(v3:At)(v5:Int×Int)(e:At)(v9 b:Int)(a:List Int)(d:Int):Tr:=re ((stepT FU<|L5 0 ([],([],[])) (0,0) ([],([],[])) 0 0 [] 0 [] 0).R)<|Ap 196 [(1,.dat i64 v1),(3,PV.AV AT v3 0),(5,PV.AV (zk i64 i64) v5 0),(7,PV.AV AT e 0),(9,.dat i64 v9),(10,.dat i64 b),(11,.dat (zd i64) a),(12,.dat i64 d)] [] 0
theorem Dl(v1:Int)(v3:At)(v5:Int×Int)(h:At)(v9 f:Int)(e:List Int)(d:Int)(b:List (List Z))(a:Int):stepT FU (L5 v1 v3 v5 h v9 f e d b a)=let i:=decide (a<(length b:Int));.ite i (.ck (decide (0<=a)&&i)<|.ite ((↑(length<|getD b (toNat a) []):Int) !=(↑(length<|snd<|snd v3):Int)) (.leaf (.bl false) [])<|L6 v1 v3 v5 h v9 f e d b a 0) (L7 v1 v3 v5 h v9 f e d):=by kernel_rfl
theorem CL(v1:Int)(v3:At)(v5:Int×Int)(i:At)(v9 h:Int)(f:List Int)(e:Int)(d:List (List Z))(a b:Int):stepT FU (L6 v1 v3 v5 i v9 h f e d a b)=let b':=decide (0<=a)&&decide (a<(length d:Int));let j:=getD d (toNat a) [];let k:=decide (b<(↑(length j):Int));.ck b' (.ite k (.ck b'<|.ck (decide (0<=b)&&k)<|.ck (DG i a b)<|.ite (!getD j (toNat b) []==fO i a b) (.leaf (.bl false) [])<|L6 v1 v3 v5 i v9 h f e d a<|ze .i64<|b+1)<|L5 v1 v3 v5 i v9 h f e d<|ze .i64<|a+1):=by kernel_rfl
def L8(v1:Int)(v3:At)(v5:Int×Int)(f:At)(e v9 d:Int)(b:List Int)(a:Int):Tr:=re ((stepT FU<|L7 0 ([],([],[])) (0,0) ([],([],[])) 0 0 [] 0).L.L.L)<|Ap 196 [(1,.dat i64 v1),(3,PV.AV AT v3 0),(5,PV.AV (zk i64 i64) v5 0),(7,PV.AV AT f 0),(8,.dat i64 e),(9,.dat i64 v9),(10,.dat i64 d),(11,.dat (zd i64) b),(12,.dat i64 a)] [] 0
theorem C6(v1:Int)(v3:At)(v5:Int×Int)(e:At)(v9 d:Int)(b:List Int)(a:Int):stepT FU (L7 v1 v3 v5 e v9 d b a)=let f:Tr:=.ck true<|L8 v1 v3 v5 e (CB true 10) v9 d b a;let b':=(↑(length<|snd<|snd v3):Int);.ck true (.ite (HS v1 (↑(length<|fst<|snd v3):Int)) f<|.ck true<|.ck true<|.ite (HS (fst v5) b') f<|.ck true<|.ck true<|.ck true<|L8 v1 v3 v5 e (CB (HS (snd v5) b') 10) v9 d b a):=by kernel_rfl
theorem DM(v1:Int)(v3:At)(v5:Int×Int)(h:At)(f v9 d:Int)(a:List Int)(b:Int):stepT FU (L8 v1 v3 v5 h f v9 d a b)=let e:Tr:=.leaf (.bl false) [];let b':=jB h v1 (fst v5)<|snd v5;.ite (f !=0) (.ck true<|.ite (Rm v9 d f 0) (.ite ((length a:Int)==0) (.leaf (.dat Sh.bool<|b==f) []) e) e) (.ck true<|.ck true<|.ck b'<|.ck true<|.ite (Rm v9 d 0<|Sp.slR h v1 (fst v5)<|snd v5) (.ite (b==0) (.ck true<|.ck true<|.ck b'<|.cd (length a<=1000000)<|.leaf (.dat Sh.bool<|decide (a=O5 h v1 (fst v5) (snd v5))) []) e) e):=by kernel_rfl
end T4
namespace T26
def T(a b:List Int):Tr:=tree zT false 9 26<|Af ([zd i64,zd i64]) (a,b)
def L1(v0 v1:List Int)(v5:Int):Tr:=re ((T [] []).R)<|Ap 26 [(0,.dat (zd i64) v0),(1,.dat (zd i64) v1),(5,.dat i64 v5)] [] 0
theorem Ai(a b:List Int):T a b=.ite ((length a:Int) !=(length b:Int)) (.leaf (.bl false) []) (L1 a b 0):=by kernel_rfl
theorem Al(v0 v1:List Int)(v5:Int):stepT zT (L1 v0 v1 v5)=let a:=decide (v5<(length v0:Int));.ite a (.ck (decide (0<=v5)&&a)<|.ck (decide (0<=v5)&&decide (v5<(length v1:Int)))<|.ite (getD v0 (toNat v5) 0 !=getD v1 (toNat v5) 0) (.leaf (.bl false) [])<|L1 v0 v1<|ze .i64<|v5+1) (.leaf (.bl true) []):=by kernel_rfl
end T26
namespace T23
def T(c:At):Tr:=tree Gj false 9 23<|Af ([AT]) c
def L1(e d:Int)(f:List Bi)(a:List Bw)(b:List Be):Tr:=re ((T ([],([],[]))).L.R)<|Ap 51 [(1,.ptr 0 0),(5,.nil),(18,.dat i64 e),(19,.dat i64 d)] [(0,.box [.dat (zd Bg) f,.dat (zd BU) a,.dat (zd Ba) b])] 1
theorem Ai(c:At):T c=.ck (Gc c&&decide (0<=1000)) (.ite (Fp c [] !=0) (.leaf (.tup [.nil,.dat i64<|Fp c []]) [])<|L1 ((↑(length<|fst<|snd c):Int)) 0 (fst c) (fst<|snd c)<|snd<|snd c):=by kernel_rfl
def L2(i h e f d:Int)(j:List Bi)(a:List Bw)(b:List Be):Tr:=re ((stepT Gj<|L1 0 0 [] [] []).L)<|Ap 51 [(1,.ptr 0 0),(5,.nil),(6,.dat i64 i),(7,.nil),(18,.dat i64 h),(19,.dat i64 e),(24,.dat i64 f),(25,.dat i64 d)] [(0,.box [.dat (zd Bg) j,.dat (zd BU) a,.dat (zd Ba) b])] 1
theorem Al(e b:Int)(f:List Bi)(d:List Bw)(a:List Be):stepT Gj (L1 e b f d a)=.di (b<e) (L2 b e b ((length a:Int)) 0 f d a) (.leaf (.tup [.nil,.dat i64 (0:Int)]) []):=by kernel_rfl
def L3(k:Int)(f:Nat)(i d e h:Int)(o1:List Z)(j:List Bi)(b:List Bw)(a:List Be):Tr:=re ((stepT Gj<|L2 0 0 0 0 0 [] [] []).L.L.L.L.R.L)<|Ap 51 [(1,.ptr 0 0),(5,.nil),(6,.dat i64 k),(7,.sl 1 1 0 f none),(18,.dat i64 i),(19,.dat i64 d),(24,.dat i64 e),(25,.dat i64 h)] [(1,.arr false 39 zh o1),(0,.box [.dat (zd Bg) j,.dat (zd BU) b,.dat (zd Ba) a])] 2
def L4(f:List (List Z))(e d:Int)(h:List Bi)(a:List Bw)(b:List Be):Tr:=re ((stepT Gj<|L2 0 0 0 0 0 [] [] []).R)<|Ap 51 [(1,.ptr 0 0),(5,.nil),(7,.dat (zd<|zd zh) f),(18,.dat i64 e),(19,.dat i64 d)] [(0,.box [.dat (zd Bg) h,.dat (zd BU) a,.dat (zd Ba) b])] 1
theorem AA(k h e f d:Int)(j:List Bi)(b:List Bw)(a:List Be):stepT Gj (L2 k h e f d j b a)=let i:=Hj (j,b,a) k d;.di (d<f) (.ck (DG (j,b,a) k d)<|.ck (Sp.okV i)<|.ck (Sp.BJ<|Mf i)<|.ite (EO (Mf i) !=0) (.leaf (.tup [.nil,.dat i64<|EO<|Mf i]) [])<|.ck (aa 16)<|L3 k 1 h e f (ze .i64<|d+1) ([H8<|Mf i]) j b a) (L4 [] h e j b a):=by kernel_rfl
def L5(f:List Z)(e d:Int)(h:List Bi)(a:List Bw)(b:List Be):Tr:=re ((stepT Gj<|L3 0 0 0 0 0 0 [] [] [] []).R)<|Ap 51 [(1,.ptr 0 0),(5,.nil),(7,.dat (zd zh) f),(18,.dat i64 e),(19,.dat i64 d)] [(0,.box [.dat (zd Bg) h,.dat (zd BU) a,.dat (zd Ba) b])] 1
theorem Bo(l:Int)(d:Nat)(i f h e:Int)(o1:List Z)(j:List Bi)(b:List Bw)(a:List Be):stepT Gj (L3 l d i f h e o1 j b a)=let k:=Hj (j,b,a) l e;.di (e<h) (.ck (DG (j,b,a) l e)<|.ck (Sp.okV k)<|.ck (Sp.BJ<|Mf k)<|.ite (EO (Mf k) !=0) (.leaf (.tup [.nil,.dat i64<|EO<|Mf k]) [])<|.ck (ac d (length o1) 16)<|L3 l (Nat.add d 1) i f h (ze .i64<|e+1) (o1++[H8<|Mf k]) j b a) (L5 (take d o1) i f j b a):=by kernel_rfl
def L6(d:Nat)(f e:Int)(o1:List (List Z))(h:List Bi)(a:List Bw)(b:List Be):Tr:=re ((stepT Gj<|L5 [] 0 0 [] [] []).L)<|Ap 51 [(1,.ptr 0 0),(5,.sl 1 1 0 d none),(18,.dat i64 f),(19,.dat i64 e)] [(1,.arr false 61 (zd zh) o1),(0,.box [.dat (zd Bg) h,.dat (zd BU) a,.dat (zd Ba) b])] 2
theorem Dl(f:List Z)(e d:Int)(h:List Bi)(a:List Bw)(b:List Be):stepT Gj (L5 f e d h a b)=.ck (aa 24) (L6 1 e (ze .i64<|d+1) [f] h a b):=by kernel_rfl
def L7(h:Nat)(k i d e f:Int)(o1:List (List Z))(j:List Bi)(b:List Bw)(a:List Be):Tr:=re ((stepT Gj<|L6 0 0 0 [] [] [] []).L)<|Ap 51 [(1,.ptr 0 0),(5,.sl 1 1 0 h none),(6,.dat i64 k),(7,.nil),(18,.dat i64 i),(19,.dat i64 d),(24,.dat i64 e),(25,.dat i64 f)] [(1,.arr false 61 (zd zh) o1),(0,.box [.dat (zd Bg) j,.dat (zd BU) b,.dat (zd Ba) a])] 2
theorem CL(e:Nat)(f d:Int)(o1:List (List Z))(h:List Bi)(b:List Bw)(a:List Be):stepT Gj (L6 e f d o1 h b a)=.di (d<f) (L7 e d f d ((length a:Int)) 0 o1 h b a) (.leaf (.tup [.sl 1 1 0 e none,.dat i64 (0:Int)])<|[(1,.arr false 61 (zd zh) o1),(0,.box [.dat (zd Bg) h,.dat (zd BU) b,.dat (zd Ba) a])]):=by kernel_rfl
def L8(i:Nat)(m:Int)(f:Nat)(j d e h:Int)(l:List Z)(o1:List (List Z))(k:List Bi)(b:List Bw)(a:List Be):Tr:=re ((stepT Gj<|L7 0 0 0 0 0 0 [] [] [] []).L.L.L.L.R.L)<|Ap 51 [(1,.ptr 0 0),(5,.sl 1 1 0 i none),(6,.dat i64 m),(7,.sl 2 1 0 f none),(18,.dat i64 j),(19,.dat i64 d),(24,.dat i64 e),(25,.dat i64 h)] [(2,.arr false 39 zh l),(1,.arr false 61 (zd zh) o1),(0,.box [.dat (zd Bg) k,.dat (zd BU) b,.dat (zd Ba) a])] 3
def L9(d:Nat)(h:List (List Z))(f e:Int)(o1:List (List Z))(i:List Bi)(a:List Bw)(b:List Be):Tr:=re ((stepT Gj<|L7 0 0 0 0 0 0 [] [] [] []).R)<|Ap 51 [(1,.ptr 0 0),(5,.sl 1 1 0 d none),(7,.dat (zd<|zd zh) h),(18,.dat i64 f),(19,.dat i64 e)] [(1,.arr false 61 (zd zh) o1),(0,.box [.dat (zd Bg) i,.dat (zd BU) a,.dat (zd Ba) b])] 2
theorem C6(h:Nat)(l i e f d:Int)(o1:List (List Z))(j:List Bi)(b:List Bw)(a:List Be):stepT Gj (L7 h l i e f d o1 j b a)=let k:=Hj (j,b,a) l d;.di (d<f) (.ck (DG (j,b,a) l d)<|.ck (Sp.okV k)<|.ck (Sp.BJ<|Mf k)<|.ite (EO (Mf k) !=0) (.leaf (.tup [.nil,.dat i64<|EO<|Mf k]) [])<|.ck (aa 16)<|L8 h l 1 i e f (ze .i64<|d+1) ([H8<|Mf k]) o1 j b a) (L9 h [] i e o1 j b a):=by kernel_rfl
def NI(d:Nat)(h:List Z)(f e:Int)(o1:List (List Z))(i:List Bi)(a:List Bw)(b:List Be):Tr:=re ((stepT Gj<|L8 0 0 0 0 0 0 0 [] [] [] [] []).R)<|Ap 51 [(1,.ptr 0 0),(5,.sl 1 1 0 d none),(7,.dat (zd zh) h),(18,.dat i64 f),(19,.dat i64 e)] [(1,.arr false 61 (zd zh) o1),(0,.box [.dat (zd Bg) i,.dat (zd BU) a,.dat (zd Ba) b])] 2
theorem DM(i:Nat)(n:Int)(d:Nat)(j f h e:Int)(m:List Z)(o1:List (List Z))(k:List Bi)(b:List Bw)(a:List Be):stepT Gj (L8 i n d j f h e m o1 k b a)=let l:=Hj (k,b,a) n e;.di (e<h) (.ck (DG (k,b,a) n e)<|.ck (Sp.okV l)<|.ck (Sp.BJ<|Mf l)<|.ite (EO (Mf l) !=0) (.leaf (.tup [.nil,.dat i64<|EO<|Mf l]) [])<|.ck (ac d (length m) 16)<|L8 i n (Nat.add d 1) j f h (ze .i64<|e+1) (m++[H8<|Mf l]) o1 k b a) (NI i (take d m) j f o1 k b a):=by kernel_rfl
theorem G2(a:Nat)(h:List Z)(f e:Int)(o1:List (List Z))(i:List Bi)(b:List Bw)(d:List Be):stepT Gj (NI a h f e o1 i b d)=.ck (ac a (length o1) 24) (L6 (Nat.add a 1) f (ze .i64<|e+1) (o1++[h]) i b d):=by kernel_rfl
end T23
end
end Go.Pe
namespace Go.Sp
theorem Aa5{c:At}{t l:Int}(h:DG c t l=true):(GQ<|HY c t l*10).natAbs<10^125:=by
 have f:=B6 h;have a:=Qi h c.1.length 0 ae;have k:(c.1.length:Rat)<=6:=by exact_mod_cast f
 obtain⟨T,b⟩:∃T:Nat,T=10^122:=⟨_,rfl⟩;rw[<-b]at a;have t1:1<=T:=by rw[b];exact Nat.pow_pos af
 have p:(1:Rat)<=(T:Rat):=by exact_mod_cast t1
 have m:=Rat.mul_le_mul_of_nonneg_right k (c:=(T:Rat)) ah;have e:=Rat.floor_le<|HY c t l*10+1/2;have d:=Rat.lt_floor_add_one<|HY c t l*10+1/2;have r:GQ (HY c t l*10)=(HY c t l*10+1/2).floor:=rfl;rw[<-r]at e d;generalize GQ (HY c t l*10)=n at*;have u:(n:Rat)<=((62*T:Nat):Rat):=by
  rw[Rat.natCast_mul];unfold HY at e;generalize (T:Rat)=N at*;generalize (c.1.length:Rat)*N=M at*;grind
 have v: -((62*T:Nat):Rat)<=(n:Rat):=by
  rw[Rat.natCast_mul];unfold HY at d;generalize (T:Rat)=N at*;generalize (c.1.length:Rat)*N=M at*;grind
 have u:n<=((62*T:Nat):Int):=by exact_mod_cast u
 have v: -((62*T:Nat):Int)<=n:=Rat.intCast_le_intCast.1 (by rw[Rat.intCast_neg,Rat.intCast_natCast];exact v);have w:62*T<10^125:=by rw[b];decide+kernel
 generalize 10^125=W at w ⊢;omega
theorem N3{c:At}{t l:Int}(h:DG c t l=true):Cz 127 (Iz<|HY c t l):=by
 have t:Cz 2 (10:Rat):=by unfold Cz;decide+kernel
 exact(OS (Aa5 h) af).z.div t (by decide+kernel)
theorem UH{c:At}(d:Gc c=true)(k:HR c=0)(f:KS c 6 4=true){t l:Nat}(e:t<c.2.1.length)(h:l<c.2.2.length):DG c (t:Int) (l:Int)=true:=by
 have a:ME c (t:Int)=false:=by
  unfold ME HS;rw[w8 ae,w8 ae];rfl
 have b:Hc c (l:Int)=false:=by
  unfold Hc HS;rw[w8 ae,w8 ae];rfl
 unfold DG En GD;rw[d,f,a,b,wc<|by rw[k];decide];rfl
theorem KX(c:At)(t:Int)(n:Nat):(Xg c t n).length=n:=by unfold Xg;rw[List.length_map,Dw]
theorem pV(c:At)(t:Int)(n:Nat):Xg c t (n+1)=Xg c t n++[Az<|Iz<|HY c t (n:Int)]:=by
 unfold Xg;rw[EC,List.map_append];rfl
theorem Mw(c:At)(n:Nat):(U0 c n).length=n:=by unfold U0;rw[List.length_map,Dw]
theorem sU(c:At)(n:Nat):U0 c (n+1)=U0 c n++[Xg c (n:Int) c.2.2.length]:=by
 unfold U0;rw[EC,List.map_append];rfl
end Go.Sp
namespace Go.Pe
open Sp
open Go.Det
open Go.Sp (At)
theorem nV:Cr Gj:=Aa T51.ok<|Aa T55.ok<|Aa T56.ok<|Aa T54.ok AI
namespace T23
variable {Q:PV->Ob->Prop}{c:At}
theorem row(d:Gc c=true)(k:HR c=0)(f:KS c 6 4=true)(t:Nat)(e:t<c.2.1.length)(F:Nat->Int->List Bm->Tr)(E:List Bm->Tr)
  (b:∀(n:Nat) (v:Int) (o:List Bm),stepT Gj (F n v o)=.ite (decide (v<(c.2.2.length:Int))) (.ite (DG c (t:Int) v) (.ite (Sp.okV<|Hj c (t:Int) v) (.ite (Sp.BJ<|Mf<|Hj c (t:Int) v) (.ite (EO (Mf<|Hj c (t:Int) v) !=(0:Int)) (.leaf (PV.tup [PV.nil,PV.dat i64<|EO<|Mf<|Hj c (t:Int) v]) [])<|.ite (decide (1<=1)&&true&&decide (n=o.length)&&decide ((3*(n+1)+2000)*16<=562949953421312)) (F (Nat.add n 1) (ze .i64<|v+1)<|o++[H8<|Mf<|Hj c (t:Int) v]) .fail) .fail) .fail) .fail) (E<|o.take n))
  (l:Ends Gj (E<|Xg c (t:Int) c.2.2.length) Q):∀(j i:Nat),i+j=c.2.2.length->Ends Gj (F i (i:Int)<|Xg c (t:Int) i) Q
 |0,i,a=>by
  have a:i=c.2.2.length:=a;rw[a];refine zf (b ..) (zl (w8 ae) ?_);rw[List.take_of_length_le<|by rw[KX];exact Nat.le_refl _];exact l
 |j+1,i,a=>by
  have s:=(HI d).2.2.1;have p:=wn (i:=i) ae;have nx:=row d k f t e F E b l j (i+1) ae;rw[pV]at nx;have h:=UH d k f e (show i<c.2.2.length by omega);have x:=Ly h;have u:RS 127 (Mf<|Hj c (t:Int) (i:Int)) (Iz<|HY c (t:Int) (i:Int)):=⟨(X5 x af).2.r,N3 h⟩;obtain⟨q,m⟩:=M0 u af;refine zf (b ..) ?_;conv=>zeta
  rw[p,q,m,KX];exact zc (w4 ae) (zc h<|zc (Us ⟨_,x.mono af⟩) (zc (u.BJ af) (zl rfl (zc (Ab (Ab rfl (w4 rfl))<|w4 ae) nx))))
theorem rows(d:Gc c=true)(k:HR c=0)(f:KS c 6 4=true)(l0:0<c.2.2.length)(q:∀(y:TypeId) (x:Obj) ob,ob=[(1,Obj.arr false y (.list .str)<|U0 c c.2.1.length),(0,x)]->Q (.tup [.sl 1 1 0 c.2.1.length none,.dat i64 0]) ob):∀(j i:Nat),i+j=c.2.1.length->Ends Gj (L6 i (c.2.1.length:Int) (i:Int) (U0 c i) c.1 c.2.1 c.2.2) Q
 |0,i,b=>by
  have b:i=c.2.1.length:=b;rw[b];exact zf (CL ..) (zl (w8 ae)<|zm<|q _ _ _ rfl)
 |j+1,i,b=>by
  have A:=(HI d).2.1;have z:=wn (i:=i) ae;have nx:=rows d k f l0 q j (i+1) ae;rw[sU]at nx;have e:Ends Gj (NI i (Xg c (i:Int) c.2.2.length) (c.2.1.length:Int) (i:Int) (U0 c i) c.1 c.2.1 c.2.2) Q:=by
   refine zf (G2 ..) ?_;conv=>zeta
   rw[z,Mw];exact zc (Ab (Ab rfl (w4 rfl))<|w4 ae) nx
  have h:=UH d k f (show i<c.2.1.length by omega) l0;have x:=Ly h;have u:RS 127 (Mf<|Hj c (i:Int) ((0:Nat):Int)) (Iz<|HY c (i:Int) ((0:Nat):Int)):=⟨(X5 x af).2.r,N3 h⟩;obtain⟨p,m⟩:=M0 u af;have s:=Us ⟨_,x.mono<|show 740<=2000 by decide⟩;have l:=u.BJ af;have a:=row (Q:=Q) d k f i ae (fun n v o=>L8 i (i:Int) n (c.2.1.length:Int) (i:Int) (c.2.2.length:Int) v o (U0 c i) c.1 c.2.1 c.2.2) (fun o=>NI i o (c.2.1.length:Int) (i:Int) (U0 c i) c.1 c.2.1 c.2.2) (fun n v o=>DM ..) e (c.2.2.length-1) 1 ae;rw[show((0:Nat):Int)=0 from rfl]at h p m s l;have t1:Xg c (i:Int) 1=[Az<|Iz<|HY c (i:Int) 0]:=rfl;rw[t1, <-p]at a;exact zf (CL ..) (zc (w4 ae)<|zf (C6 ..) (zc (w4 ae)<|zc h<|zc s<|zc l (zl (by rw[show EO (Mf<|Hj (c.1,c.2.1,c.2.2) (i:Int) 0)=0 from m];rfl)<|zc rfl a)))
theorem Aca(c:At):Fp c []=HR c:=by
 unfold Fp RN GD;split
 ·rfl
 ·next h=>rw[List.any_nil,wc af];exact(Classical.not_not.1 h).symm
theorem ok:Ae A1 23 QD:=by
 refine C3 nV<|fun(c:At) e=>?_;have e:GM c=true:=e;have a:=e;unfold GM at a;rw[Bool.and_eq_true,Bool.or_eq_true,w5]at a;obtain⟨d,m⟩:=a;refine Ends.eq (Ai c) ?_;conv=>zeta
 rw[Aca];refine zc (Ab d rfl)<|zj (fun k=>zm<|Ac.of rfl rfl ?_)<|fun k=>?_
 ·have k:HR c≠0:=by simpa using k
  show(([]:List (List Bm)),HR c)=(Td c,HR c);unfold Td;rw[wd k]
 ·have k:HR c=0:=by simpa using k
  have f:KS c 6 4=true:=m.resolve_left<|fun x=>x k;have C:=GV k;have t0:=List.length_pos_iff.2 C.t1.1;have l0:=List.length_pos_iff.2 C.l1.1;have fin:=rows (Q:=Ac QD c) d k f l0 (fun y x ob h=>by
   rw[h];refine Ac.of (Xi rfl (Mw c c.2.1.length).symm) rfl ?_;show(U0 c c.2.1.length,(0:Int))=(Td c,HR c);unfold Td;rw[wc<|fun x=>x k,k]) (c.2.1.length-1) 1 ae
  have p:Ends Gj (L5 (Xg c ((0:Nat):Int) c.2.2.length) (c.2.1.length:Int) ((0:Nat):Int) c.1 c.2.1 c.2.2) (Ac QD c):=zf (Dl ..)<|zc rfl fin;have h:=UH d k f t0 l0;have x:=Ly h;have u:RS 127 (Mf<|Hj c ((0:Nat):Int) ((0:Nat):Int)) (Iz<|HY c ((0:Nat):Int) ((0:Nat):Int)):=⟨(X5 x af).2.r,N3 h⟩;obtain⟨q,j⟩:=M0 u af;have l:=Us ⟨_,x.mono<|show 740<=2000 by decide⟩;have i:=u.BJ af;have b:=row (Q:=Ac QD c) d k f 0 t0 (fun n v o=>L3 ((0:Nat):Int) n (c.2.1.length:Int) ((0:Nat):Int) (c.2.2.length:Int) v o c.1 c.2.1 c.2.2) (fun o=>L5 o (c.2.1.length:Int) ((0:Nat):Int) c.1 c.2.1 c.2.2) (fun n v o=>Bo ..) p (c.2.2.length-1) 1 ae;have t1:Xg c ((0:Nat):Int) 1=[Az<|Iz<|HY c ((0:Nat):Int) ((0:Nat):Int)]:=rfl;rw[t1, <-q]at b;rw[show((0:Nat):Int)=0 from rfl]at h j l i b;exact zf (Al ..) (zc (w4 ae) (zf (AA ..)<|zc (w4 ae)<|zc h<|zc l<|zc i<|zl (by rw[show EO (Mf<|Hj (c.1,c.2.1,c.2.2) 0 0)=0 from j];rfl)<|zc rfl b))
end T23
theorem sB:Cr zT:=fun g sp h=>by cases h
namespace T26
theorem loop{Q:PV->Ob->Prop}(a b:List Int)(f:a.length<=1000000)(m:a.length=b.length)(l:∀ob,(∀j,j<a.length->a.getD j 0=b.getD j 0)->Q (.bl true) ob)(d:∀ob,a≠b->Q (.bl false) ob):∀(k i:Nat),i+k=a.length->(∀j,j<i->a.getD j 0=b.getD j 0)->Ends zT (L1 a b (i:Int)) Q
 |0,i,o,h=>(by simp_all [zf,Al])
 |k+1,i,o,h=>by
  have n:ze .i64 ((i:Int)+1)=((i+1:Nat):Int):=by grind [wr]
  refine zf (Al ..) ?_;conv=>zeta
  rw[n,zi];refine zc ah (zc (Hv ae) (zc (Hv ae)<|zj (fun z=>zm<|d _ fun e=>?_)<|fun z=>loop a b f m l d k (i+1) ae fun j p=>?_))
  ·grind
  grind
theorem ok:Ae A1 26 ZV:=by
 refine AX (X:=zT) rfl sB (d:=9) (by rfl) (by rfl) (by rfl) (fun(i:List Int×List Int) f=>?_) (Ak ag);obtain⟨a,b⟩:=i;have f:a.length<=1000000:=w6 f;have j:∀v ob,v=decide (a=b)->Ac ZV (a,b) (.bl v) ob:=fun v ob e=>Ac.of rfl rfl e
 refine Ends.eq (Ai a b)<|zj (fun z=>zm<|j _ _ ?_)<|fun z=>?_
 ·grind
 ·have z:(a.length:Int)=(b.length:Int):=ah
  refine loop a b f ae (fun ob h=>j _ _ (w4 ?_).symm) ah a.length 0 ae ae;grind [List.ext_getElem]
end T26
theorem rP:Cr FU:=Aa XH (Aa T7.ok<|Aa T9.ok<|Aa T10.ok (Aa T11.ok<|Aa T21.ok<|Aa T22.ok<|Aa T23.ok<|Aa T24.ok<|Aa T20.ok<|by grind [Aa,T16.ok,T15.ok,T25.ok,T27.ok,T26.ok,FM]))
abbrev Lw:Am:=LY
namespace T4
variable {Q:PV->Ob->Prop}{c:At}{t g w:Int}
theorem Agq{e:Int}(a:e≠0)(b:DW c t g w=e)(d:∀ob,Q (.dat .bool true) ob):Ends FU (L8 t c (g,w) c e (Vr c t g w) (DW c t g w) (Wx c t g w)<|DW c t g w) Q:=by
 simp_all [Vr,Wx,zf,DM,cA]
theorem Ah9(k:DW c t g w=0)(ok:jB c t g w=true)(b:∀ob,Q (.dat .bool true) ob):Ends FU (L8 t c (g,w) c 0 (Vr c t g w) (DW c t g w) (Wx c t g w)<|DW c t g w) Q:=by
 obtain⟨a,_,_,_⟩:=Wc ok;have d:=B6 a;have s:Vr c t g w=Sp.slR c t g w:=by
  unfold Vr;rw[wc ae];rfl
 have x:Wx c t g w=O5 c t g w:=by
  simp_all [Wx,AdA]
 have l:(O5 c t g w).length<=1000000:=by
  grind [O5,Dw]
 refine zf (DM ..) ?_;conv=>zeta
 rw[s,x,k];refine zl rfl (zc rfl (zc rfl (zc ok<|zc rfl (zc (AeD _)<|zc rfl (zc rfl (zc rfl (zc ok<|zc ah<|zm ?_)))))));grind
theorem SQ(h:Gc c=true)(k:HR c=0)(f:KS c 6 4=true){v9 d a:Int}{b:List Int}(s:Ends FU (L7 t c (g,w) c v9 d b a) Q):∀(j i:Nat),i+j=c.2.1.length->Ends FU (L5 t c (g,w) c v9 d b a (U0 c c.2.1.length) (i:Int)) Q
 |0,i,r=>(by simp_all [zf,Dl,Mw])
 |j+1,i,r=>by
  have z:=(HI h).2.1;have y:=(HI h).2.2.1;have x:ze .i64 ((i:Int)+1)=((i+1:Nat):Int):=by grind [wr]
  have nx:=SQ h k f s j (i+1) ae;have li:i<(U0 c c.2.1.length).length:=by rw[Mw];omega
  have o:(U0 c c.2.1.length).getD i []=Xg c (i:Int) c.2.2.length:=by
   grind [U0,BN]
  have e:=Hv (i:=(i:Int)) (n:=(U0 c c.2.1.length).length) ae;have inner:∀(u m:Nat),m+u=c.2.2.length->Ends FU (L6 t c (g,w) c v9 d b a (U0 c c.2.1.length) (i:Int) (m:Int)) Q:=by
   intro u;induction u with
   |zero=>
    simp_all [zf,CL,KX]
   |succ u q=>
    intro m A;have v:ze .i64 ((m:Int)+1)=((m+1:Nat):Int):=by grind [wr]
    have p:(Xg c (i:Int) c.2.2.length).getD m []=fO c (i:Int) (m:Int):=by
     have l:m<(Xg c (i:Int) c.2.2.length).length:=by rw[KX];omega
     grind [Xg,fO,BN]
    refine zf (CL ..)<|zc e ?_;rw[v,zi,zi,o,p,KX];exact zc ah (zc e<|zc (Hv ae)<|zc (by grind [UH]) (zl (by simp)<|q (m+1) ae))
  refine zf (Dl ..) (zc ah<|zc e ?_);rw[zi,o,KX];exact zl (by simp) (inner c.2.2.length 0 ae)
theorem ok:Ae A1 4 Lw:=by
 refine AX (X:=FU) rfl rP (d:=9) (by rfl) (by rfl) (by rfl) (fun(i:At×Int×Int×Int) j=>?_) (Ak ag);obtain⟨c,t,g,w⟩:=i;have j:(rQ c&&c.2.1.all PD)=true:=j;rw[Bool.and_eq_true]at j;obtain⟨hc,hT⟩:=j;have l:∀ob,Ac LY (c,(t,(g,w))) (.dat .bool true) ob:=fun ob=>Ac.of rfl rfl rfl
 have u:∀ob,Ac LY (c,(t,(g,w))) (.bl true) ob:=fun ob=>Ac.of rfl rfl rfl
 refine Ends.eq (Ai c t (g,w)) (zc hc<|zf (Al ..)<|zc rfl (zl rfl (zc rfl (zj (by simp_all)<|fun s=>?_))));have s:Gc c=true:=by
  grind
 refine zc s (zj (fun k=>zc (Ab rfl hT)<|zj (by simp_all)<|fun f=>?_)<|fun k=>?_)
 ·have f:KS c 6 4=true:=ah
  have h:GM c=true:=Ab s ah;have o:HR c=0:=ah
  have m:∀b:Bool,b=true->GD c b=10:=(by simp_all [GD]);have p:∀b:Bool,b=false->GD c b=0:=(by simp_all [GD]);have tb:Td c=U0 c c.2.1.length:=by
   simp_all [Td]
  have n:Ends FU (L7 t c (g,w) c (Vr c t g w) (DW c t g w) (Wx c t g w)<|DW c t g w) (Ac LY (c,(t,(g,w)))):=by
   refine zf (C6 ..)<|zc rfl (zj (fun a=>zc rfl ?_)<|fun a=>zc rfl (zc rfl (zj (fun b=>zc rfl ?_)<|fun b=>zc rfl (zc rfl (zc rfl ?_)))))
   ·have a:ME c t=true:=a;exact Agq (e:=10) af (m _ ah) l
   ·have b:Hc c g=true:=b;exact Agq (e:=10) af (m _ ah) l
   ·have a:ME c t=false:=a;have b:Hc c g=false:=b;by_cases d:Hc c w=true
    ·have e:CB (Hc c w) 10=10:=by rw[d];rfl
     show Ends FU (L8 t c (g,w) c (CB (Hc c w) 10) _ _ _ _) _;rw[e];exact Agq af (m _ ah) l
    ·have d:Hc c w=false:=ah
     have e:CB (Hc c w) 10=0:=by rw[d];rfl
     show Ends FU (L8 t c (g,w) c (CB (Hc c w) 10) _ _ _ _) _;rw[e];have z:DW c t g w=0:=p _ ah;exact Ah9 z (Ab ah f) l
  have q:=SQ (t:=t) (g:=g) (w:=w) s o f n c.2.1.length 0 ae;refine zf (AA ..)<|zc rfl (zc rfl (zc h<|zc rfl (zc rfl (zc h<|zc h ?_))));simp_all [zf,Bo,Mw,BX]
 ·have h:GM c=true:=Ab s ah;have r:DW c t g w=HR c:=by simp_all [DW,GD]
  have sl:Vr c t g w=0:=by
   simp_all [Vr]
  have x:Wx c t g w=[]:=by
   simp_all [Wx]
  have tb:Td c=[]:=by
   simp_all [Td]
  refine zf (AA ..)<|zc rfl (zc rfl (zc h<|zc rfl (zc rfl (zc h<|zc h ?_))));simp_all [zf,Bo,cA]
end T4
open Go.Sp (At Bw)
theorem Ah1{x:(BF LY.ins).T}(h:AaL LY.ins x):LY.pre x=true:=Ab (uZ h.1)<|iH h.1
end Go.Pe
