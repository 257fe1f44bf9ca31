import Derived.Test.YtknhdhchejmpgaaGreatDoorX14
import Derived.Test.YtknhdhchejmpgaaGreatDoorX15
/- A part of a proof (no law is stated here). Made by program out of texts by AI agents. -/
noncomputable section
open Go.Pe.Ends renaming tt -> zc, leaf -> zo, ite -> zu, ff -> zw, Av -> z7
open Go.IntKind renaming wrap -> ze, u64 -> zg, i64 -> yo
open Bool renaming and_eq_true -> zh, true_and -> yf
open Go.Pe.Sh renaming nlist -> zj, pair -> zl, int -> zn, str -> zq, list -> zz
open List renaming getD_eq_getElem?_getD -> zk, getElem?_eq_getElem -> zm, length_map -> zr, mem_cons_self -> zt, length_cons -> zx, mem_of_mem_drop -> zy, take_append_drop -> yc, all_eq_true -> yd, length_take -> ye, drop_eq_getElem_cons -> yi, length -> yj, map_cons -> ym, length_eq_zero_iff -> yn
open Int renaming toNat_natCast -> zp
open Nat renaming add_sub_cancel -> z8, zero_le -> yr, add -> yu
open Rat renaming le_of_lt -> ya, add_zero -> yb, lt_iff_sub_pos -> yg, sub_add_cancel -> yh, lt_irrefl -> yt, add_comm -> yv
open Classical renaming not_not -> yk
open Go.Sp renaming first -> yp, CF -> yq
namespace Go.Sp
abbrev B6:=List UInt8×List UInt8
def Cr:Option B6->List B6->Int
 |_,[]=>0
 |o,p::l=>if Fx p.1 p.2≠0 then Fx p.1 p.2 else match o with
  |some q=>if LD p.1 q.1<=0 then 11 else Cr (some p) l
  |none=>Cr (some p) l
def BT(t:List B6):Int:=if t=[]then 12 else if 64<t.length then 5 else Cr none t
def oE(s:List UInt8):Az:=((Er s,Ez s),(D6 s,Eb s))
def BM(p:B6):Az×Az:=(oE p.1,oE p.2)
def JB(t:List B6):List (Az×Az):=if BT t≠0 then[]else t.map BM
def OL:Option (Rat×Rat)->List (Rat×Rat)->Rat->Rat
 |none,[],_=>0
 |some p,[],_=>p.2
 |o,b::l,x=>if b.1<x then OL (some b) l x else match o with
  |none=>b.2
  |some a=>a.2+(b.2-a.2)*(x-a.1)/(b.1-a.1)
def Eg(t:List B6)(x:List UInt8):Rat:=OL none (t.map fun p=>(An p.1,An p.2)) (An x)
def TB(t:List B6)(x:List UInt8):Int:=if BT t≠0 then BT t else Au x
def WJ(t:List B6)(x:List UInt8):List UInt8:=Vx (TB t x) (Eg t x)
def Wh(t:List B6)(x:List UInt8):Int:=Wm (TB t x) (Eg t x)
def E2(k:Nat)(t:List B6):Bool:=t.all fun p=>decide (p.1.length<=k)&&decide (p.2.length<=k)
def JZ(t:List B6)(n d:Int):Bool:=decide ((t.length:Int)<=n)&&t.all fun p=>Bb p.1 d&&Bb p.2 d
end Go.Sp
namespace Go.Pe
open Sp
open Go.Det
abbrev YE:Sh:=.pair .str .str
abbrev W4:Sh:=.pair BH BH
def Yj:Ap:=⟨[.list YE],fun l=>decide (yj (α:=B6) l<=1000)&&E2 1000000 l,[.list W4,i64],fun l=>(JB l,BT l),false⟩
def RL:Ap:=⟨[.list YE],fun l=>decide (yj (α:=B6) l<=1000)&&E2 1000000 l,[i64],fun l=>BT l,false⟩
def Xt:Ap:=⟨[.list YE,.str],fun i=>decide (yj (α:=B6) i.1<=1000)&&E2 300 i.1&&decide (yj (α:=UInt8) i.2<=300),[.str,i64],fun i=>(WJ i.1 i.2,Wh i.1 i.2),false⟩
def SO:Ap:=⟨[.list YE,i64,i64],fun i=>decide ((i.2.1:Int)<=1000000)&&decide (0<=(i.2.2:Int))&&decide ((i.2.2:Int)<=1000),[.bool],fun i=>JZ i.1 i.2.1 i.2.2,false⟩
def vB:A1:=X7 [(83,Hf),(85,Qr),(84,Nd),(87,Up),(88,Tz)]
def dN:A1:=Z3 [(47,[12,13])] [] [(47,[(14,[6,8,27,28,29]),(12,[6,8,9,10]),(10,[6,8,9,10]),(8,[6,8,27,28,29]),(7,[6,8,27,28,29]),(5,[1,6]),(13,[8,10,11])])] [(114,Yj),(83,Hf),(77,DG),(87,Up),(88,Tz),(80,QD),(81,XV),(82,Tj),(86,Yr),(103,Nt)]
def pS:A1:=X7 [(24,DG),(30,pK),(46,Mc)]
end Go.Pe
namespace Go.Sp
def Va(t:List B6)(n d:Int):Bool:=JZ t n d&&decide (BT t=0)
end Go.Sp
namespace Go.Pe
open Go.Det
def Ym:Ap:=⟨[.list YE,i64,i64],fun i=>decide ((i.2.1:Int)<=1000)&&decide (0<=(i.2.2:Int))&&decide ((i.2.2:Int)<=1000),[.bool],fun i=>Sp.Va i.1 i.2.1 i.2.2,false⟩
def Mj:Ap:=⟨[.list YE,.int .u8,.int .u8],fun i=>decide (0<=(i.2.1:Int))&&decide ((i.2.1:Int)<256)&&decide (0<=(i.2.2:Int))&&decide ((i.2.2:Int)<256),[.bool],fun _=>true,false⟩
def XV1:A1:=X7 [(45,SO),(48,RL)]
def yI:A1:=X7 [(51,Ym),(17,Rr),(36,X4),(47,Xt),(27,Qv),(28,dM),(29,Qz)]
open Sp
section
open List Int Prod
namespace T9
def T(l:List (List UInt8×List UInt8))(p w:Int):Tr:=tree yI false 9 9 (Af ([zz (zl zq zq),zn IntKind.u8,zn IntKind.u8]) (l,p,w))
def L1(v0:List (List UInt8×List UInt8))(v7:List UInt8)(v31 v32:Int):Tr:=re ((T [] 0 0).L.R.L.L) (AG 164 [(0,.dat (zz (zl zq zq)) v0),(7,.dat zq v7),(31,.dat i64 v31),(32,.dat i64 v32)] [] 0)
theorem Am(l:List (List UInt8×List UInt8))(p w:Int):T l p w=let a':=ze .i64 (ze .i64 w+1);let b':=decide (ze .i64 (ze .i64 w+1)≠0);let c':=Int.tmod (ze .i64 p) a';.ite (decide (6<=1000)&&decide (0<=9)&&decide (9<=1000)) (.ite (!Va l 6 9) (.ite true (.leaf (.dat Sh.bool true) []) .fail) (.ite (b') (.ite (CG c'&&CG a'&&b') (L1 l (CM c' a') ((length l:Int)) 0) .fail) .fail)) .fail:=by kernel_rfl
theorem Ar(v0:List (List UInt8×List UInt8))(v7:List UInt8)(v31 v32:Int):stepT yI (L1 v0 v7 v31 v32)=let a':=getD v0 (toNat (ze .i64 (v32-1))) ([],[]);let b':=getD v0 (toNat v32) ([],[]);let e':=(length v0:Int);let f':Tr:=.leaf (.bl false) [];let k':=decide (length v0<=1000);let m':=L1 v0 v7 v31 (ze .i64 (v32+1));let p':=getD v0 0 ([],[]);let c':=decide (0<=ze .i64 (v32-1))&&decide (ze .i64 (v32-1)<e');let d':=getD v0 (toNat (ze .i64 (e'-1))) ([],[]);let h':=decide (0<=v32)&&decide (v32<e');let i':=decide (0<=ze .i64 (e'-1))&&decide (ze .i64 (e'-1)<e');let j':=HT (fst p') v7;let l':=HT (snd b') (snd a');let q':=HT (fst b') (fst a');let g':=Gz v7 q';let o':=D0 (fst d') v7;let n':=D0 (fst a') g';.ite (decide (v32<v31)) (.ite h' (.ite (k'&&E2 300 v0&&decide (length (fst b')<=300)) (.ite (Wh v0 (fst b') !=0) f' (.ite h' (.ite (!WJ v0 (fst b')==snd b') f' (.ite (v32==0) m' (.ite c' (.ite h' (.ite c' (.ite (Bh (fst b')&&FI (fst a')) (.ite (Bh v7&&Bh q') (.ite (Bh (fst a')&&Bh g') (.ite (k'&&E2 300 v0&&decide (length n'<=300)) (.ite (Wh v0 n' !=0) f' (.ite c' (.ite h' (.ite c' (.ite (Bh (snd b')&&FI (snd a')) (.ite (Bh v7&&Bh l') (.ite (Bh (snd a')&&Bh (Gz v7 l')) (.ite (!WJ v0 n'==D0 (snd a') (Gz v7 l')) f' m') .fail) .fail) .fail) .fail) .fail) .fail)) .fail) .fail) .fail) .fail) .fail) .fail) .fail))) .fail)) .fail) .fail) (.ite (decide (0<e')) (.ite (Bh (fst p')&&FI v7) (.ite (k'&&E2 300 v0&&decide (length j'<=300)) (.ite i' (.ite (Bh (fst d')&&Bh v7) (.ite (k'&&E2 300 v0&&decide (length o'<=300)) (.ite (ze .i64 (Wh v0 j'+Wh v0 o')==0) (.ite (decide (0<e')) (.ite (WJ v0 j'==snd p') (.ite i' (.ite (WJ v0 o'==snd d') (.ite true (.leaf (.dat Sh.bool true) []) .fail) f') .fail) f') .fail) f') .fail) .fail) .fail) .fail) .fail) .fail):=by kernel_rfl
end T9
namespace T51
def T(l:List (List UInt8×List UInt8))(n d:Int):Tr:=tree XV1 false 9 51 (Af ([zz (zl zq zq),zn yo,zn yo]) (l,n,d))
theorem Am(l:List (List UInt8×List UInt8))(n d:Int):T l n d=.ite (decide (n<=1000000)&&decide (0<=d)&&decide (d<=1000)) (.ite (Sp.JZ l n d) (.ite (decide (length l<=1000)&&Sp.E2 1000000 l) (.leaf (.dat Sh.bool (Sp.BT l==0)) []) .fail) (.leaf (.bl false) [])) .fail:=by kernel_rfl
end T51
namespace T47
def T(l:List (List UInt8×List UInt8))(x:List UInt8):Tr:=tree dN false 9 47 (Af ([zz (zl zq zq),zq]) (l,x))
def L1(v6:List (((Int×List Int)×Int×List Int)×(Int×List Int)×Int×List Int))(v27:List (((Int×List Int)×Int×List Int)×(Int×List Int)×Int×List Int))(v28 v29 o0:Int)(o0_1:List Int)(o0_2:Int)(o0_3:List Int):Tr:=re ((T [] []).L.L.L.R.L) (AG 84 [(6,.dat (zz (zl (zl (zl i64 (zj (zn zg))) (zl i64 (zj (zn zg)))) (zl (zl i64 (zj (zn zg))) (zl i64 (zj (zn zg)))))) v6),(8,.ptr 0 0),(27,.dat (zz (zl (zl (zl i64 (zj (zn zg))) (zl i64 (zj (zn zg)))) (zl (zl i64 (zj (zn zg))) (zl i64 (zj (zn zg)))))) v27),(28,.dat i64 v28),(29,.dat i64 v29)] [(0,.box [.dat i64 o0,.dat (zj (zn zg)) o0_1,.dat i64 o0_2,.dat (zj (zn zg)) o0_3])] 1)
theorem Am(l:List (List UInt8×List UInt8))(x:List UInt8):T l x=.ite (decide (length l<=1000)&&E2 1000000 l) (.ite (decide (length x<=1000000)) (.ite (decide (2<=2)&&true&&decide (2<=1000000)) (.ite (yp [BT l,Au x] !=0) (.leaf (.tup [.dat zq [],.dat i64 (yp [BT l,Au x])]) ([(0,.arr false 25 i64 [BT l,Au x])])) (.ite (FL x) (L1 (JB l) (JB l) ((↑(length (JB l)):Int)) 0 (Er x) (Ez x) (D6 x) (Eb x)) .fail)) .fail) .fail) .fail:=by kernel_rfl
def L2(v6:List (((Int×List Int)×Int×List Int)×(Int×List Int)×Int×List Int))(v9 o1:Int)(o1_1:List Int)(o1_2:Int)(o1_3:List Int)(o1_4:Int)(o1_5:List Int)(o1_6:Int)(o1_7:List Int)(o0:Int)(o0_1:List Int)(o0_2:Int)(o0_3:List Int):Tr:=re ((stepT dN (L1 [] [] 0 0 0 [] 0 [])).L.L.L.R.R) (AG 84 [(6,.dat (zz (zl (zl (zl i64 (zj (zn zg))) (zl i64 (zj (zn zg)))) (zl (zl i64 (zj (zn zg))) (zl i64 (zj (zn zg)))))) v6),(8,.ptr 0 0),(9,.dat i64 v9),(10,.ptr 1 0)] [(1,.box [.dat i64 o1,.dat (zj (zn zg)) o1_1,.dat i64 o1_2,.dat (zj (zn zg)) o1_3,.dat i64 o1_4,.dat (zj (zn zg)) o1_5,.dat i64 o1_6,.dat (zj (zn zg)) o1_7]),(0,.box [.dat i64 o0,.dat (zj (zn zg)) o0_1,.dat i64 o0_2,.dat (zj (zn zg)) o0_3])] 2)
theorem Ar(v6:List (((Int×List Int)×Int×List Int)×(Int×List Int)×Int×List Int))(v27:List (((Int×List Int)×Int×List Int)×(Int×List Int)×Int×List Int))(v28 v29 o0:Int)(o0_1:List Int)(o0_2:Int)(o0_3:List Int):stepT dN (L1 v6 v27 v28 v29 o0 o0_1 o0_2 o0_3)=let c':=zj (zn zg);let j':=(length v6:Int);let l':=(((0,[]),0,[]),(0,[]),0,[]);let a':=getD v27 (toNat v29) l';let b':=snd (getD v6 (toNat (ze .i64 (j'-1))) l');let e':=((fst (fst b'),snd (fst b')),fst (snd b'),snd (snd b'));let f':=fst (fst a');let g':=snd (fst a');let h':=fst (snd a');let i':=snd (snd a');let d':=((fst h',snd h'),fst i',snd i');let k':=((fst f',snd f'),fst g',snd g');.ite (decide (v29<v28)) (.ite (decide (0<=v29)&&decide (v29<(length v27:Int))) (.ite (Sp.Dm ((o0,o0_1),o0_2,o0_3)&&Sp.Dm k') (.ite (decide (KM ((o0,o0_1),o0_2,o0_3) k'>0)) (L1 v6 v27 v28 (ze .i64 (v29+1)) o0 o0_1 o0_2 o0_3) (.ite (v29==0) (.ite (Sp.Dm d') (.leaf (.tup [.dat zq (Jr d'),.dat i64 (Ju d')]) ([(1,.box [.dat i64 (fst f'),.dat c' (snd f'),.dat i64 (fst g'),.dat c' (snd g'),.dat i64 (fst h'),.dat c' (snd h'),.dat i64 (fst i'),.dat c' (snd i')]),(0,.box [.dat i64 o0,.dat c' o0_1,.dat i64 o0_2,.dat c' o0_3])])) .fail) (L2 v6 v29 (fst f') (snd f') (fst g') (snd g') (fst h') (snd h') (fst i') (snd i') o0 o0_1 o0_2 o0_3))) .fail) .fail) (.ite (decide (0<=ze .i64 (j'-1))&&decide (ze .i64 (j'-1)<j')) (.ite (Sp.Dm e') (.leaf (.tup [.dat zq (Jr e'),.dat i64 (Ju e')]) ([(0,.box [.dat i64 o0,.dat c' o0_1,.dat i64 o0_2,.dat c' o0_3])])) .fail) .fail):=by kernel_rfl
def L3(o2:Int)(o2_1:List Int)(o2_2:Int)(o2_3:List Int)(o2_4:Int)(o2_5:List Int)(o2_6:Int)(o2_7:List Int)(o1:Int)(o1_1:List Int)(o1_2:Int)(o1_3:List Int)(o1_4:Int)(o1_5:List Int)(o1_6:Int)(o1_7:List Int)(o0:Int)(o0_1:List Int)(o0_2:Int)(o0_3:List Int):Tr:=re ((stepT dN (L2 [] 0 0 [] 0 [] 0 [] 0 [] 0 [] 0 [])).L) (AG 84 [(8,.ptr 0 0),(10,.ptr 1 0),(11,.ptr 2 0)] [(2,.box [.dat i64 o2,.dat (zj (zn zg)) o2_1,.dat i64 o2_2,.dat (zj (zn zg)) o2_3,.dat i64 o2_4,.dat (zj (zn zg)) o2_5,.dat i64 o2_6,.dat (zj (zn zg)) o2_7]),(1,.box [.dat i64 o1,.dat (zj (zn zg)) o1_1,.dat i64 o1_2,.dat (zj (zn zg)) o1_3,.dat i64 o1_4,.dat (zj (zn zg)) o1_5,.dat i64 o1_6,.dat (zj (zn zg)) o1_7]),(0,.box [.dat i64 o0,.dat (zj (zn zg)) o0_1,.dat i64 o0_2,.dat (zj (zn zg)) o0_3])] 3)
theorem AZ(v6:List (((Int×List Int)×Int×List Int)×(Int×List Int)×Int×List Int))(v9 o1:Int)(o1_1:List Int)(o1_2:Int)(o1_3:List Int)(o1_4:Int)(o1_5:List Int)(o1_6:Int)(o1_7:List Int)(o0:Int)(o0_1:List Int)(o0_2:Int)(o0_3:List Int):stepT dN (L2 v6 v9 o1 o1_1 o1_2 o1_3 o1_4 o1_5 o1_6 o1_7 o0 o0_1 o0_2 o0_3)=let a':=getD v6 (toNat (ze .i64 (v9-1))) (((0,[]),0,[]),(0,[]),0,[]);.ite (decide (0<=ze .i64 (v9-1))&&decide (ze .i64 (v9-1)<(length v6:Int))) (L3 (fst (fst (fst a'))) (snd (fst (fst a'))) (fst (snd (fst a'))) (snd (snd (fst a'))) (fst (fst (snd a'))) (snd (fst (snd a'))) (fst (snd (snd a'))) (snd (snd (snd a'))) o1 o1_1 o1_2 o1_3 o1_4 o1_5 o1_6 o1_7 o0 o0_1 o0_2 o0_3) .fail:=by kernel_rfl
theorem C2(o2:Int)(o2_1:List Int)(o2_2:Int)(o2_3:List Int)(o2_4:Int)(o2_5:List Int)(o2_6:Int)(o2_7:List Int)(o1:Int)(o1_1:List Int)(o1_2:Int)(o1_3:List Int)(o1_4:Int)(o1_5:List Int)(o1_6:Int)(o1_7:List Int)(o0:Int)(o0_1:List Int)(o0_2:Int)(o0_3:List Int):stepT dN (L3 o2 o2_1 o2_2 o2_3 o2_4 o2_5 o2_6 o2_7 o1 o1_1 o1_2 o1_3 o1_4 o1_5 o1_6 o1_7 o0 o0_1 o0_2 o0_3)=let b':=zj (zn zg);let c':=((o2,o2_1),o2_2,o2_3);let d':=((o2_4,o2_5),o2_6,o2_7);let f':=((o1,o1_1),o1_2,o1_3);let g':=((o1_4,o1_5),o1_6,o1_7);let h':=((o0,o0_1),o0_2,o0_3);let e':=P5 (PI g' d') (PI h' c');let a':=MV e' (PI f' c');let i':=Li d' a';.ite (yq g'&&yq d') (.ite (yq h'&&yq c') (.ite (yq (PI g' d')&&yq (PI h' c')) (.ite (yq f'&&yq c') (.ite (yq e'&&yq (PI f' c')&&decide (Sp.vI (qO f' c',rB f' c')≠0)) (.ite (yq d'&&yq a') (.ite (Sp.Dm i') (.leaf (.tup [.dat zq (Jr i'),.dat i64 (Ju i')]) ([(2,.box [.dat i64 o2,.dat b' o2_1,.dat i64 o2_2,.dat b' o2_3,.dat i64 o2_4,.dat b' o2_5,.dat i64 o2_6,.dat b' o2_7]),(1,.box [.dat i64 o1,.dat b' o1_1,.dat i64 o1_2,.dat b' o1_3,.dat i64 o1_4,.dat b' o1_5,.dat i64 o1_6,.dat b' o1_7]),(0,.box [.dat i64 o0,.dat b' o0_1,.dat i64 o0_2,.dat b' o0_3])])) .fail) .fail) .fail) .fail) .fail) .fail) .fail:=by kernel_rfl
end T47
namespace T114
def T(l:List (List UInt8×List UInt8)):Tr:=tree vB false 9 114 (Af ([zz (zl zq zq)]) l)
def L1(v23:List (List UInt8×List UInt8))(v24 v25:Int):Tr:=re ((T []).L.L.L.R) (AG 66 [(5,.nil),(23,.dat (zz (zl zq zq)) v23),(24,.dat i64 v24),(25,.dat i64 v25)] [] 0)
theorem Am(l:List (List UInt8×List UInt8)):T l=let a':=(length l:Int);let b':=decide (a'>64);.ite true (.ite true (.ite (decide (2<=2)&&true&&decide (2<=1000000)) (.ite (yp [Lq (a'==0) 12,Lq b' 5] !=0) (.leaf (.tup [.nil,.dat i64 (yp [Lq (a'==0) 12,Lq b' 5])]) ([(0,.arr false 25 i64 [Lq (a'==0) 12,Lq b' 5])])) (L1 l (a') 0)) .fail) .fail) .fail:=by kernel_rfl
def L2(v5n:Nat)(v23:List (List UInt8×List UInt8))(v24 v25:Int)(o0:List (((Int×List Int)×Int×List Int)×(Int×List Int)×Int×List Int)):Tr:=re ((stepT vB (L1 [] 0 0)).L.L.L.R.L.L.R.L) (AG 66 [(5,.sl 0 8 0 v5n none),(23,.dat (zz (zl zq zq)) v23),(24,.dat i64 v24),(25,.dat i64 v25)] [(0,.arr false 142 (zl (zl (zl i64 (zj (zn zg))) (zl i64 (zj (zn zg)))) (zl (zl i64 (zj (zn zg))) (zl i64 (zj (zn zg))))) o0)] 1)
theorem Ar(v23:List (List UInt8×List UInt8))(v24 v25:Int):stepT vB (L1 v23 v24 v25)=let a':=getD v23 (toNat v25) ([],[]);.ite (decide (v25<v24)) (.ite (decide (0<=v25)&&decide (v25<(length v23:Int))) (.ite (decide (2<=2)&&true&&(decide (2<=1000)&&List.all [fst a',snd a'] fun s=>decide (length s<=1000000))) (.ite (CX [fst a',snd a'] !=0) (.leaf (.tup [.nil,.dat i64 (CX [fst a',snd a'])]) ([(yu 0 1,.arr false 22 zq [fst a',snd a']),(0,.box [.dat zq (fst a'),.dat zq (snd a')])])) (.ite (FL (fst a')) (.ite (FL (snd a')) (.ite (decide (v25>0)) .fail (.ite (decide (1<=1)&&decide (0<1)&&decide ((2*1+1000)*128<=281474976710656)) (L2 1 v23 v24 (ze .i64 (v25+1)) ([((oE (fst a')),(Er (snd a'),Ez (snd a')),D6 (snd a'),Eb (snd a'))])) .fail)) .fail) .fail)) .fail) .fail) (.leaf (.tup [.nil,.dat i64 (0:Int)]) []):=by kernel_rfl
theorem AZ(v5n:Nat)(v23:List (List UInt8×List UInt8))(v24 v25:Int)(o0:List (((Int×List Int)×Int×List Int)×(Int×List Int)×Int×List Int)):stepT vB (L2 v5n v23 v24 v25 o0)=let a':=getD v23 (toNat v25) ([],[]);let e':=zj (zn zg);let i':=ze .i64 (v25-1);let b':=fst (getD o0 (toNat i') (((0,[]),0,[]),(0,[]),0,[]));let c':=zl (zl i64 e') (zl i64 e');let g':=oE (fst a');let d':Tr:=.ite (decide (1<=1)&&true&&decide (v5n=length o0)&&decide ((2*(v5n+1)+1000)*128<=281474976710656)) (L2 (yu v5n 1) v23 v24 (ze .i64 (v25+1)) (o0++[(g',(Er (snd a'),Ez (snd a')),D6 (snd a'),Eb (snd a'))])) .fail;let f':=((fst (fst b'),snd (fst b')),fst (snd b'),snd (snd b'));let h':=zl c' c';.ite (decide (v25<v24)) (.ite (decide (0<=v25)&&decide (v25<(length v23:Int))) (.ite (decide (2<=2)&&true&&(decide (2<=1000)&&List.all [fst a',snd a'] fun s=>decide (length s<=1000000))) (.ite (CX [fst a',snd a'] !=0) (.leaf (.tup [.nil,.dat i64 (CX [fst a',snd a'])]) ([(yu 1 1,.arr false 22 zq [fst a',snd a']),(1,.box [.dat zq (fst a'),.dat zq (snd a')]),(0,.arr false 142 h' o0)])) (.ite (FL (fst a')) (.ite (FL (snd a')) (.ite (decide (v25>0)) (.ite (decide (0<=ze .i64 (v25-1))&&decide (ze .i64 (v25-1)<(↑v5n:Int))) (.ite (decide (toNat i'<length o0)) (.ite (Sp.Dm g'&&Sp.Dm f') (.ite (decide (KM g' f'<=0)) (.leaf (.tup [.nil,.dat i64 (11:Int)]) ([(yu (yu 1 1) 1,.box [.dat i64 (Er (fst a')),.dat e' (Ez (fst a')),.dat i64 (D6 (fst a')),.dat e' (Eb (fst a')),.dat i64 (Er (snd a')),.dat e' (Ez (snd a')),.dat i64 (D6 (snd a')),.dat e' (Eb (snd a'))]),(yu 1 1,.arr false 22 zq [fst a',snd a']),(1,.box [.dat zq (fst a'),.dat zq (snd a')]),(0,.arr false 142 h' o0)])) d') .fail) .fail) .fail) d') .fail) .fail)) .fail) .fail) (.leaf (.tup [.sl 0 8 0 v5n none,.dat i64 (0:Int)]) ([(0,.arr false 142 h' o0)])):=by kernel_rfl
end T114
namespace T48
def T(l:List (List UInt8×List UInt8)):Tr:=tree pS false 9 48 (Af ([zz (zl zq zq)]) l)
def L1(v0:List (List UInt8×List UInt8))(v3:Int):Tr:=re ((T []).R.R) (AG 55 [(0,.dat (zz (zl zq zq)) v0),(3,.dat i64 v3)] [] 0)
theorem Am(l:List (List UInt8×List UInt8)):T l=.ite ((length l:Int)==0) (.leaf (.dat i64 (12:Int)) []) (.ite (decide ((length l:Int)>64)) (.leaf (.dat i64 (5:Int)) []) (L1 l 0)):=by kernel_rfl
theorem Ar(v0:List (List UInt8×List UInt8))(v3:Int):stepT pS (L1 v0 v3)=let a':=getD v0 (toNat v3) ([],[]);let b':=L1 v0 (ze .i64 (v3+1));let c':=fst (getD v0 (toNat (ze .i64 (v3-1))) ([],[]));let k':=(length v0:Int);let d':Tr:=.ite (Au (snd a') !=0) (.leaf (.dat i64 (Au (snd a'))) []) b';let e':Tr:=.ite (Au (fst a') !=0) (.leaf (.dat i64 (Au (fst a'))) []) b';let f':=decide (0<=v3)&&decide (v3<k');let g':=decide (0<=ze .i64 (v3-1))&&decide (ze .i64 (v3-1)<k');let h':Tr:=.ite true (.leaf (.dat i64 (11:Int)) []) b';let i':=decide (LD c' (fst a')>=0);let j':=Bh c'&&FI (fst a');.ite (decide (v3<k')) (.ite f' (.ite (decide (length (fst a')<=1000000)) (.ite (Au (fst a')==0) (.ite f' (.ite (decide (length (snd a')<=1000000)) (.ite (Au (snd a')==0) (.ite (decide (v3>0)) (.ite g' (.ite f' (.ite j' (.ite i' h' d') .fail) .fail) .fail) d') d') .fail) .fail) (.ite (Au (fst a')==0) (.ite (decide (v3>0)) (.ite g' (.ite f' (.ite j' (.ite i' h' e') .fail) .fail) .fail) e') e')) .fail) .fail) (.leaf (.dat i64 (0:Int)) []):=by kernel_rfl
end T48
namespace T45
def T(l:List (List UInt8×List UInt8))(n d:Int):Tr:=tree pS false 9 45 (Af ([zz (zl zq zq),zn yo,zn yo]) (l,n,d))
def L1(v0:List (List UInt8×List UInt8))(v2 v7:Int):Tr:=re ((T [] 0 0).R) (AG 36 [(0,.dat (zz (zl zq zq)) v0),(2,.dat i64 v2),(7,.dat i64 v7)] [] 0)
theorem Am(l:List (List UInt8×List UInt8))(n d:Int):T l n d=.ite (decide ((length l:Int)>n)) (.leaf (.bl false) []) (L1 l d 0):=by kernel_rfl
theorem Ar(v0:List (List UInt8×List UInt8))(v2 v7:Int):stepT pS (L1 v0 v2 v7)=let a':=decide (v7<(length v0:Int));let b':=decide (0<=v2)&&decide (v2<=1000);let c':=getD v0 (toNat v7) ([],[]);.ite (a') (.ite (decide (0<=v7)&&a') (.ite b' (.ite (!Bb (fst c') v2) (.leaf (.bl false) []) (.ite (decide (0<=v7)&&a') (.ite b' (.ite (!Bb (snd c') v2) (.leaf (.bl false) []) (L1 v0 v2 (ze .i64 (v7+1)))) .fail) .fail)) .fail) .fail) (.leaf (.bl true) []):=by kernel_rfl
end T45
end
end Go.Pe
namespace Go.Sp
theorem Ka{k:Nat}{t:List B6}(h:E2 k t=true):∀p∈t,p.1.length<=k/\p.2.length<=k:=by
 unfold E2 at h;rw[yd]at h;intro p hp;have:=h p hp;rw[zh,w5,w5]at this;exact this
theorem Ly{j k:Nat}{t:List B6}(h:E2 j t=true)(hk:j<=k):E2 k t=true:=by
 have h:=Ka h;unfold E2;rw[yd];intro p hp;have:=h p hp;rw[w4 (by omega),w4 (by omega)];rfl
theorem Uv(a b:List UInt8):LD a b<=0↔0<=LD b a:=by
 unfold LD;rw[Z8 (An a) (An b)];omega
theorem NV(a b:List UInt8):LD a b<=0↔¬An b<An a:=by
 unfold LD;by_cases h:An a<An b
 ·rw[wd h];exact⟨fun _=>Rat.not_lt.2 (ya h),fun _=>by decide⟩
 ·rw[wc h];by_cases k:An b<An a
  ·rw[wd k];exact⟨fun x=>wh x (by decide),fun x=>wh k x⟩
  ·rw[wc k];exact⟨fun _=>k,fun _=>by decide⟩
def G0(t:List B6)(i:Nat):Option B6:=if i=0 then none else some (t.getD (i-1) ([],[]))
theorem Fp(p:B6)(l:List B6):Cr none (p::l)=if Fx p.1 p.2≠0 then Fx p.1 p.2 else Cr (some p) l:=by
 rw[Cr]
theorem GL(q p:B6)(l:List B6):Cr (some q) (p::l)=if Fx p.1 p.2≠0 then Fx p.1 p.2 else if LD p.1 q.1<=0 then 11 else Cr (some p) l:=by
 rw[Cr]
theorem S5(o:Option B6):Cr o []=0:=by rw[Cr]
theorem J1{t:List B6}{i:Nat}{p:B6}(h:t.getD i ([],[])=p):G0 t (i+1)=some p:=by
 unfold G0;rw[wc (by omega),z8,h]
end Go.Sp
namespace Go.Pe
open Sp
open Go.Det
theorem iL{s:Sh}{sz:Nat}(hs:s.sz=sz){id n:Nat}{tail:Ob}{fz:Bool}{t:TypeId}{o:List s.T}{e:Int}(hn:n=o.length):QO [.list s,i64] (.tup [.sl id sz 0 n none,.dat i64 e]) ((id,.arr fz t s o)::tail)=some (true,(o,e)):=by
 subst hn hs;have h1:AO ((id,Obj.arr fz t s o)::tail) id=some (.arr fz t s o):=by unfold AO;rw[Nat.beq_refl];rfl
 have h0:Ii ⟨0,.leaf,(id,.arr fz t s o)::tail,0⟩ (.list s) (.sl id s.sz 0 o.length none)=some (true,o):=by
  unfold Ii;have h2:EA ⟨0,.leaf,(id,.arr fz t s o)::tail,0⟩ (PV.cells (.sl id s.sz 0 o.length none))=some (true,[.dat (.list s) o]):=by
   show(match CD ⟨0,.leaf,(id,.arr fz t s o)::tail,0⟩ (.sl id s.sz 0 o.length none),some (true,[])with|some (c,x),some (d,xs)=>some (c&&d,x::xs)|_,_=>none)=_;have:CD ⟨0,.leaf,(id,.arr fz t s o)::tail,0⟩ (.sl id s.sz 0 o.length none)=some (true,.dat (.list s) o):=by
    unfold CD AK.obj;simp only[h1,Nat.beq_refl,we];simp
   rw[this];rfl
  simp only[Kt,Sh.PW];show(match EA ⟨0,.leaf,(id,.arr fz t s o)::tail,0⟩ (PV.cells (.sl id s.sz 0 o.length none))with|some (c,cs)=>_|none=>none)=_;rw[h2];have:C1 (.list s) [PV.dat (.list s) o]=some o:=by
   unfold C1 Ct nY DU;simp
  simp only[Pu,this,yf]
 unfold QO I3;simp only;unfold D9;rw[h0];rfl
theorem lR:DM vB:=Ab T83.ok (Ab T85.ok (Ab T84.ok (Ab T87.ok (Ab T88.ok AP))))
theorem Xo{a b:List UInt8}(ha:Au a=0)(hb:Au b=0):KM (MS a) (MS b)=LD a b:=by
 rw[Dz.cmp (GQ (Eo ha).1) (GQ (Eo hb).1)];rfl
theorem LP{a:List UInt8}(ha:Au a=0):Sp.Dm (MS a)=true/\FL a=true:=by
 obtain⟨n,z⟩:=Eo ha;exact⟨(GQ n).Dm (Cs z (by decide)),(Dj n).2.2.2.2.2.2.1⟩
namespace T114
variable {Q:PV->Ob->Prop}
theorem wB{p:B6}{k:Nat}(h:p.1.length<=k/\p.2.length<=k)(hk:k<=1000000):(decide ((2:Nat)<=2)&&true&&(decide ((2:Nat)<=1000)&&List.all [p.1,p.2] fun s=>decide (yj s<=1000000)))=true:=by
 show(decide (p.1.length<=1000000)&&(decide (p.2.length<=1000000)&&true))=true;rw[w4 (by omega),w4 (by omega)];rfl
theorem Y5(t:List B6)(i:Nat)(p:B6)(h:i<t.length)(hp:t.getD i ([],[])=p):(t.take i).map BM++[(oE p.1,oE p.2)]=(t.take (i+1)).map BM:=by
 rw[List.take_add_one,List.map_append];congr 1;rw[zk]at hp;rw[zm h]at hp ⊢;have hp:t[i]=p:=hp;rw[hp];rfl
set_option maxRecDepth 10000 in
theorem AQ(t:List B6)(h64:t.length<=64)(hl:E2 1000000 t=true)(hbad:∀e ob,e≠0->Cr none t=e->Q (.tup [.nil,.dat i64 e]) ob)
  (hok:Cr none t=0->Q (.tup [.sl 0 8 0 ((t.take t.length).map BM).length none,.dat i64 0]) [(0,.arr false 142 W4 ((t.take t.length).map BM))]):
  ∀(r:List B6) (i n:Nat) (q:B6),t.drop i=r->1<=i->i<=t.length->n=((t.take i).map BM).length->t.getD (i-1) ([],[])=q->Au q.1=0->Cr none t=Cr (some q) r->Ends vB (L2 n t (t.length:Int) (i:Int) ((t.take i).map BM)) Q
 |[],i,n,q,h,h1,hi,hn,hq,hc,he=>by
  have:=drop_nil h hi;have e:i=t.length:=by omega
  subst e;rw[S5]at he;rw[hn];exact z7 (AZ ..) (zw (w8 (by omega)) (zo (hok he)))
 |p::r,i,n,q,h,h1,hi,hn,hq,hc,he=>by
  obtain⟨g1,g2,g3⟩:=drop_cons (d:=(([],[]):B6)) h;have hm:p∈t:=zy (by rw[h];exact zt ..);have hp:=Ka hl p hm;have hni:n=i:=by rw[hn,zr,ye];omega
  have e1:ze .i64 ((i:Int)+1)=((i+1:Nat):Int):=by rw[wr _ (by omega) (by omega)];omega
  have e2:ze .i64 ((i:Int)-1)=((i-1:Nat):Int):=by rw[wr _ (by omega) (by omega)];omega
  have eo:∀d,((t.take i).map BM).getD (i-1) d=BM q:=by
   intro d;rw[zk,List.getElem?_map,List.getElem?_take_of_lt (by omega)];rw[zk,zm (by omega)]at hq;rw[zm (by omega)];have hq:t[i-1]=q:=hq;rw[hq];rfl
  have hol:((t.take i).map BM).length=i:=by rw[zr,ye];omega
  rw[GL]at he;refine z7 (AZ ..) ?_;conv=>zeta
  rw[e1,e2,zp,zp,g2,eo];refine zc (w4 (by omega)) (zc (Aa (w4 (by omega)) (w4 (by omega))) (zc (wB hp (Nat.le_refl _)) (zu (fun c=>zo ?_) (fun c=>?_))))
  ·have c:CX [p.1,p.2]≠0:=by simpa using c
   have c2:Fx p.1 p.2≠0:=c;rw[wd c2]at he;exact hbad _ _ c2 he
  ·have c:CX [p.1,p.2]=0:=by simpa using c
   have c2:Fx p.1 p.2=0:=c;rw[wc (by rw[c2];decide)]at he;obtain⟨k1,k2⟩:=Fo c2;have f1:=LP k1;have f2:=LP k2;have fq:=LP hc;have hcmp:KM (oE p.1) (BM q).1=LD p.1 q.1:=Xo k1 hc;refine zc f1.2 (zc f2.2 (zc (w4 (by omega)) (zc (Aa (w4 (by omega)) (w4 (by omega))) (zc (w4 (by omega)) (zc (Aa f1.1 fq.1) (zu (fun d=>zo ?_) (fun d=>?_)))))))
   ·have d:=w6 d;have d:KM (oE p.1) (BM q).1<=0:=d;rw[hcmp]at d;rw[wd d]at he;exact hbad 11 _ (by decide) he
   ·have d:=w7 d;have d:¬KM (oE p.1) (BM q).1<=0:=d;rw[hcmp]at d;rw[wc d]at he;have go:=AQ t h64 hl hbad hok r (i+1) (n+1) p g3 (by omega) g1 (by rw[zr,ye];omega) (by rw[z8];exact g2) k1 he;rw[<-Y5 t i p g1 g2]at go;refine zc (Aa (Aa (Aa rfl rfl) (w4 (by omega))) (w4 (by omega))) go
set_option maxRecDepth 10000 in
theorem ok:Ag Bg 114 Yj:=by
 refine B1 lR (fun(t:List (List UInt8×List UInt8)) hi=>?_);have hi:(decide (t.length<=1000)&&E2 1000000 t)=true:=hi;rw[zh,w5]at hi;obtain⟨hl,hp⟩:=hi;have hbad:∀e ob,e≠0->BT t=e->Ad Yj t (.tup [.nil,.dat i64 e]) ob:=fun e ob h k=>Ad.of (y:=([],e)) rfl rfl (by
  show([],e)=(JB t,BT t);unfold JB;rw[wd (by rw[k];exact h),k])
 have ef:yp [Lq ((t.length:Int)==0) 12,Lq (decide ((t.length:Int)>64)) 5]=if t=[]then 12 else if 64<t.length then 5 else 0:=by
  rw[Mh];by_cases h:t=[]
  ·rw[wd h,h];rfl
  ·have h1:((t.length:Int)==0)=false:=by
    have:t.length≠0:=fun k=>h (yn.1 k)
    simp;omega
   rw[wc h,h1,wc (by decide)];by_cases k:64<t.length
   ·rw[wd k,w4 (show(t.length:Int)>64 by omega)];rfl
   ·rw[wc k,w8 (show ¬(t.length:Int)>64 by omega)];rfl
 refine Ends.eq (Am t) ?_;conv=>zeta
 rw[ef];refine zc rfl (zc rfl (zc rfl ?_));by_cases h:t=[]
 ·rw[wd h];exact zc rfl (zo (hbad 12 _ (by decide) (by unfold BT;rw[wd h])))
 ·rw[wc h];by_cases k:64<t.length
  ·rw[wd k];exact zc rfl (zo (hbad 5 _ (by decide) (by unfold BT;rw[wc h,wd k])))
  ·rw[wc k];have ec:BT t=Cr none t:=by unfold BT;rw[wc h,wc k]
   refine zw rfl ?_;obtain⟨p,r,rfl⟩:∃p r,t=p::r:=by
    cases t with
    |nil=>exact wh rfl h
    |cons p r=>exact⟨p,r,rfl⟩
   have g2:(p::r).getD 0 ([],[])=p:=rfl;have hpp:=Ka hp p (zt ..);refine z7 (Ar ..) ?_;conv=>zeta
   rw[show Int.toNat 0=0 from rfl,g2];refine zc (w4 (by rw[zx];omega)) (zc (Aa rfl (w4 (by rw[zx];omega))) (zc (wB hpp (Nat.le_refl _)) (zu (fun c=>zo ?_) (fun c=>?_))))
   ·have c:CX [p.1,p.2]≠0:=by simpa using c
    have c2:Fx p.1 p.2≠0:=c;exact hbad _ _ c2 (by rw[ec,Fp,wd c2];rfl)
   ·have c:CX [p.1,p.2]=0:=by simpa using c
    have c2:Fx p.1 p.2=0:=c;obtain⟨k1,k2⟩:=Fo c2;have f1:=LP k1;have f2:=LP k2;have e1:ze .i64 ((0:Int)+1)=((1:Nat):Int):=rfl;rw[e1];have go:=AQ (Q:=Ad Yj (p::r)) (p::r) (by omega) hp (fun e ob h1 h2=>hbad e ob h1 (by rw[ec];exact h2)) (fun h0=>Ad.of (iL rfl rfl) rfl (by
     show(((p::r).take (p::r).length).map BM,(0:Int))=(JB (p::r),BT (p::r));unfold JB;rw[ec,h0,wc (by decide),List.take_length])) r 1 1 p rfl (by decide) (by rw[zx];omega) (by rw[zr,ye,zx];omega) rfl k1 (by rw[Fp,wc (by rw[c2];decide)])
    exact zc f1.2 (zc f2.2 (zw rfl (zc rfl go)))
end T114
theorem XZ:DM pS:=Ab T24.ok (Ab T30.ok (Ab T46.ok AP))
namespace T48
variable {Q:PV->Ob->Prop}
set_option maxRecDepth 10000 in
theorem Aj(t:List B6)(h64:t.length<=64)(hl:E2 1000000 t=true)(hq:∀ob,Q (.dat i64 (Cr none t)) ob):
  ∀(r:List B6) (i:Nat),t.drop i=r->i<=t.length->(0<i->Au (t.getD (i-1) ([],[])).1=0)->Cr none t=Cr (G0 t i) r->Ends pS (L1 t (i:Int)) Q
 |[],i,h,hi,hc,he=>by
  have:=drop_nil h hi;rw[S5]at he;rw[he]at hq;exact z7 (Ar ..) (zw (w8 (by omega)) (zo (hq _)))
 |p::r,i,h,hi,hc,he=>by
  obtain⟨g1,g2,g3⟩:=drop_cons (d:=(([],[]):B6)) h;have hm:p∈t:=zy (by rw[h];exact zt ..);obtain⟨l1,l2⟩:=Ka hl p hm;have e1:ze .i64 ((i:Int)+1)=((i+1:Nat):Int):=by rw[wr _ (by omega) (by omega)];omega
  have hx:(decide ((0:Int)<=(i:Int))&&decide ((i:Int)<(t.length:Int)))=true:=Aa (w4 (by omega)) (w4 (by omega));have ee:=Rq p.1 p.2;refine z7 (Ar ..) ?_;conv=>zeta
  rw[e1,zp,g2];refine zc (w4 (by omega)) (zc hx (zc (w4 l1) (zu (fun c=>zc hx (zc (w4 l2) (zu (fun d=>?_) (fun d=>?_)))) (fun c=>?_))))
  ·have c:Au p.1=0:=by simpa using c
   have d:Au p.2=0:=by simpa using d
   rw[wc (by rw[c];decide),d]at ee;have db:(Au p.2 !=0)=false:=by rw[d];rfl
   have n1:=Kl c;have nx:∀i',i'=i+1->Cr none t=Cr (some p) r->Ends pS (L1 t ((i+1:Nat):Int)) Q:=fun i' _ h2=>
    Aj t h64 hl hq r (i+1) g3 g1 (fun _=>by rw[z8,g2];exact c) (by rw[J1 g2];exact h2)
   by_cases h0:i=0
   ·subst h0;refine zw rfl (zw db (nx _ rfl ?_));rw[he];show Cr none (p::r)=_;rw[Fp,wc (by rw[ee];decide)]
   ·have e2:ze .i64 ((i:Int)-1)=((i-1:Nat):Int):=by rw[wr _ (by omega) (by omega)];omega
    have hc:=hc (by omega);have ep:G0 t i=some (t.getD (i-1) ([],[])):=by unfold G0;rw[wc h0]
    rw[ep,GL,wc (by rw[ee];decide)]at he;rw[e2,zp];generalize t.getD (i-1) ([],[])=q at*;have n0:=Kl hc;refine zc (w4 (by omega)) (zc (Aa (w4 (by omega)) (w4 (by omega))) (zc hx (zc (Aa (n0.num (by decide)) (n1.FI (by decide))) (zu (fun k=>zc rfl (zo ?_)) (fun k=>zw db (nx _ rfl ?_))))))
    ·have k:=w6 k;rw[wd ((Uv _ _).2 k)]at he;rw[he]at hq;exact hq _
    ·have k:=w7 k;rw[wc (fun x=>k ((Uv _ _).1 x))]at he;exact he
  ·have c:Au p.1=0:=by simpa using c
   have d2:Au p.2≠0:=by simpa using d
   rw[wc (by rw[c];decide)]at ee;refine zc (by simpa using d2) (zo ?_);have:Cr none t=Au p.2:=by
    rw[he];cases G0 t i with
    |none=>rw[Fp,wd (by rw[ee];exact d2),ee]
    |some q=>rw[GL,wd (by rw[ee];exact d2),ee]
   rw[<-this];exact hq _
  ·have c2:Au p.1≠0:=by simpa using c
   rw[wd c2]at ee;have:Cr none t=Au p.1:=by
    rw[he];cases G0 t i with
    |none=>rw[Fp,wd (by rw[ee];exact c2),ee]
    |some q=>rw[GL,wd (by rw[ee];exact c2),ee]
   refine zw (by simpa using c2) (zc (by simpa using c2) (zo ?_));rw[<-this];exact hq _
theorem ok:Ag Bg 48 RL:=by
 refine B1 XZ (fun(t:List (List UInt8×List UInt8)) hi=>?_);have hi:(decide (t.length<=1000)&&E2 1000000 t)=true:=hi;rw[zh,w5]at hi;have hq:∀e ob,BT t=e->Ad RL t (.dat i64 e) ob:=fun e ob h=>Ad.of rfl rfl h.symm
 unfold BT at hq;refine Ends.eq (Am t) (zu (fun c=>zo (hq _ _ ?_)) (fun c=>zu (fun d=>zo (hq _ _ ?_)) (fun d=>?_)))
 ·have:t=[]:=yn.1 (by have:(t.length:Int)=0:=(by simpa using c);omega);rw[wd this]
 ·have c:(t.length:Int)≠0:=by simpa using c
  have d:=w6 d;rw[wc (by rintro rfl;exact c rfl),wd (by omega)]
 ·have c:(t.length:Int)≠0:=by simpa using c
  have d:=w7 d;rw[wc (by rintro rfl;exact c rfl),wc (by omega)]at hq;exact Aj t (by omega) hi.2 (fun ob=>hq _ ob rfl) t 0 rfl (yr _) (fun h=>wh h (by decide)) rfl
end T48
namespace T45
theorem Aj{Q:PV->Ob->Prop}(t:List B6)(d:Int)(hn:t.length<=1000000)(hd:0<=d/\d<=1000):∀(r:List B6) (i:Nat),t.drop i=r->i<=t.length->(∀ob,Q (.bl (r.all fun p=>Bb p.1 d&&Bb p.2 d)) ob)->Ends pS (L1 t d (i:Int)) Q
 |[],i,h,hi,hq=>by
  have:=drop_nil h hi;exact z7 (Ar ..) (zw (w8 (by omega)) (zo (hq _)))
 |p::r,i,h,hi,hq=>by
  obtain⟨g1,g2,g3⟩:=drop_cons (d:=(([],[]):B6)) h;have e1:ze .i64 ((i:Int)+1)=((i+1:Nat):Int):=by rw[wr _ (by omega) (by omega)];omega
  have hx:(decide ((0:Int)<=(i:Int))&&decide ((i:Int)<(t.length:Int)))=true:=Aa (w4 (by omega)) (w4 (by omega));have hdd:(decide ((0:Int)<=d)&&decide (d<=1000))=true:=Aa (w4 hd.1) (w4 hd.2);rw[List.all_cons]at hq;refine z7 (Ar ..) ?_;conv=>zeta
  rw[e1,zp,g2];refine zc (w4 (by omega)) (zc hx (zc hdd (zu (fun c=>zo ?_) (fun c=>zc hx (zc hdd (zu (fun e=>zo ?_) (fun e=>Aj t d hn hd r (i+1) g3 g1 ?_)))))))
  ·have c:Bb p.1 d=false:=by simpa using c
   rw[c]at hq;exact hq _
  ·have c:Bb p.1 d=true:=by simpa using c
   have e:Bb p.2 d=false:=by simpa using e
   rw[c,e]at hq;exact hq _
  ·have c:Bb p.1 d=true:=by simpa using c
   have e:Bb p.2 d=true:=by simpa using e
   rw[c,e,yf,yf]at hq;exact hq
theorem ok:Ag Bg 45 SO:=by
 refine B1 XZ (fun(i:List (List UInt8×List UInt8)×Int×Int) hi=>?_);obtain⟨t,n,d⟩:=i;have hi:(decide (n<=1000000)&&decide (0<=d)&&decide (d<=1000))=true:=hi;rw[zh,zh,w5,w5,w5]at hi;have hq:∀v ob,v=JZ t n d->Ad SO (t,n,d) (.bl v) ob:=fun v ob h=>Ad.of rfl rfl h
 unfold JZ at hq;refine Ends.eq (Am t n d) (zu (fun c=>zo (hq _ _ ?_)) (fun c=>?_))
 ·have c:=w6 c;rw[w8 (by omega)];rfl
 ·have c:=w7 c;rw[w4 (by omega),yf]at hq;exact Aj t d (by omega) ⟨hi.1.2,hi.2⟩ t 0 rfl (yr _) (fun ob=>hq _ ob rfl)
end T45
end Go.Pe
namespace Go.Sp
theorem uR{s:List UInt8}(h:Bh s=true){k:Nat}(hl:s.length<=k)(hk:1<=k):Nu k s (An s):=by
 obtain⟨h1,_⟩:=Ff h;have e:(AW (An s)).length<=k:=by rw[h1];exact hl
 refine⟨h1.symm,?_⟩;generalize An s=q at*;have h3:(Lib.decDigits q.num.natAbs).length<=(Lib.itoa q.num).length:=by
  unfold Lib.itoa;split
  ·rw[zx];omega
  ·rw[show q.num.toNat=q.num.natAbs by omega];exact Nat.le_refl _
 unfold AW at e;split at e
 ·next c=>exact⟨BY (k:=k) _ (by omega),by rw[c];exact JL k (by omega)⟩
 ·rw[List.length_append,zx]at e;exact⟨BY (k:=k) _ (by omega),BY (k:=k) _ (by omega)⟩
theorem eB{s:List UInt8}(h:Au s=0){k:Nat}(hl:s.length<=k)(hk:1<=k):Nu k s (An s):=uR (Eo h).1 hl hk
def pt(p:B6):Rat×Rat:=(An p.1,An p.2)
theorem Oo(t:List B6)(x:List UInt8):Eg t x=OL none (t.map pt) (An x):=rfl
theorem Ll(p:Rat×Rat)(l:List (Rat×Rat))(x:Rat):OL none (p::l) x=if p.1<x then OL (some p) l x else p.2:=by rw[OL]
theorem K9(a b:Rat×Rat)(l:List (Rat×Rat))(x:Rat):OL (some a) (b::l) x=if b.1<x then OL (some b) l x else a.2+(b.2-a.2)*(x-a.1)/(b.1-a.1):=by rw[OL]
theorem W3(p:Rat×Rat)(x:Rat):OL (some p) [] x=p.2:=by rw[OL]
theorem Y0{t:List B6}{x:List UInt8}(h:TB t x=0):BT t=0/\Au x=0:=by
 unfold TB at h;split at h
 ·next k=>exact wh h k
 ·next k=>exact⟨by omega,h⟩
theorem Ms{t:List B6}(h:BT t=0):t≠[]/\t.length<=64/\Cr none t=0:=by
 unfold BT at h;split at h
 ·exact wh h (by decide)
 ·next k=>
  split at h
  ·exact wh h (by decide)
  ·exact⟨k,by omega,h⟩
theorem CS{q p:B6}{l:List B6}(h:Cr (some q) (p::l)=0):Au p.1=0/\Au p.2=0/\An q.1<An p.1/\Cr (some p) l=0:=by
 rw[GL]at h;split at h
 ·next k=>exact wh h k
 ·next k=>
  split at h
  ·exact wh h (by decide)
  ·next d=>
   obtain⟨k1,k2⟩:=Fo (a:=p.1) (b:=p.2) (by omega);rw[NV]at d;exact⟨k1,k2,yk.1 d,h⟩
theorem ER{p:B6}{l:List B6}(h:Cr none (p::l)=0):Au p.1=0/\Au p.2=0/\Cr (some p) l=0:=by
 rw[Fp]at h;split at h
 ·next k=>exact wh h k
 ·next k=>
  obtain⟨k1,k2⟩:=Fo (a:=p.1) (b:=p.2) (by omega);exact⟨k1,k2,h⟩
theorem sV{p q:Rat}(h:q<p):p-q≠0:=fun e=>by
 have:=(yg q p).1 h;rw[e]at this;exact yt this
end Go.Sp
namespace Go.Pe
open Sp
open Go.Det
theorem lP:DM dN:=Ab T114.ok (Ab T83.ok (Ab T77.ok (Ab T87.ok (Ab T88.ok (Ab T80.ok (Ab T81.ok (Ab T82.ok (Ab T86.ok (Ab T103.ok AP)))))))))
structure NF(s:List UInt8):Prop where
 c:Au s=0
 r:Dz (MS s) (An s)
 z:E1 300 (An s)
 s:JR 4000 (An s)
theorem cI{s:List UInt8}(h:Au s=0)(hl:s.length<=300):NF s:=by
 have n:=eB h hl (by decide);exact⟨h,GQ (n.num (by decide)),n.z,Cs n.z (by decide)⟩
namespace T47
variable {Q:PV->Ob->Prop}
set_option maxRecDepth 10000 in
theorem Cz(q p:B6)(x:List UInt8)(a1:NF q.1)(a2:NF q.2)(b1:NF p.1)(b2:NF p.2)(nx:NF x)(hlt:An q.1<An p.1)
  (hq:∀f ob,Dz f (An q.2+(An p.2-An q.2)*(An x-An q.1)/(An p.1-An q.1))->Q (.tup [.dat .str (Jr f),.dat i64 (Ju f)]) ob):
  Ends dN (L3 (Er q.1) (Ez q.1) (D6 q.1) (Eb q.1) (Er q.2) (Ez q.2) (D6 q.2) (Eb q.2) (Er p.1) (Ez p.1) (D6 p.1) (Eb p.1) (Er p.2) (Ez p.2) (D6 p.2) (Eb p.2) (Er x) (Ez x) (D6 x) (Eb x)) Q:=by
 have hne:=sV hlt;have r1:=Dz.sub b2.r a2.r b2.s a2.s;have z1:=b2.z.sub a2.z;have s1:=Cs z1 (by decide);have r2:=Dz.sub nx.r a1.r nx.s a1.s;have z2:=nx.z.sub a1.z;have s2:=Cs z2 (by decide);have r3:=Dz.mul r1 r2 s1 s2;have z3:=z1.mul z2;have s3:=Cs z3 (by decide);have r4:=Dz.sub b1.r a1.r b1.s a1.s;have z4:=b1.z.sub a1.z;have s4:=Cs z4 (by decide);have r5:=Dz.div r3 r4 s3 s4 (Cs (z4.inv hne) (by decide)) hne;have z5:=z3.div z4 hne;have s5:=Cs z5 (by decide);have r6:=Dz.add a2.r r5 a2.s s5;have z6:=a2.z.add z5;refine z7 (C2 ..) ?_;conv=>zeta
 have fe:∀s:List UInt8,((Er s,Ez s),(D6 s,Eb s))=MS s:=fun _=>rfl
 simp only[fe];exact zc (Aa (b2.r.CF b2.s) (a2.r.CF a2.s)) (zc (Aa (nx.r.CF nx.s) (a1.r.CF a1.s)) (zc (Aa (r1.CF s1) (r2.CF s2)) (zc (Aa (b1.r.CF b1.s) (a1.r.CF a1.s)) (zc (Aa (Aa (r3.CF s3) (r4.CF s4)) (r4.Hw.trans (w4 hne))) (zc (Aa (a2.r.CF a2.s) (r5.CF s5)) (zc (r6.Dm (Cs z6 (by decide))) (zo (hq _ _ r6))))))))
theorem get_map(t:List B6)(i:Nat)(p:B6)(h:i<t.length)(hp:t.getD i ([],[])=p)(d):(t.map BM).getD i d=BM p:=by
 rw[zk,List.getElem?_map];rw[zk,zm h]at hp;rw[zm h];have hp:t[i]=p:=hp;rw[hp];rfl
set_option maxRecDepth 10000 in
theorem AQ(t:List B6)(q p:B6)(x:List UInt8)(i:Nat)(h1:1<=i)(hi:i<t.length)(h64:t.length<=64)(hqi:t.getD (i-1) ([],[])=q)(a1:NF q.1)(a2:NF q.2)(b1:NF p.1)(b2:NF p.2)(nx:NF x)(hlt:An q.1<An p.1)
  (hq:∀f ob,Dz f (An q.2+(An p.2-An q.2)*(An x-An q.1)/(An p.1-An q.1))->Q (.tup [.dat .str (Jr f),.dat i64 (Ju f)]) ob):
  Ends dN (L2 (t.map BM) (i:Int) (Er p.1) (Ez p.1) (D6 p.1) (Eb p.1) (Er p.2) (Ez p.2) (D6 p.2) (Eb p.2) (Er x) (Ez x) (D6 x) (Eb x)) Q:=by
 have e2:ze .i64 ((i:Int)-1)=((i-1:Nat):Int):=by rw[wr _ (by omega) (by omega)];omega
 have l3:=Cz (Q:=Q) q p x a1 a2 b1 b2 nx hlt hq;refine z7 (AZ ..) ?_;conv=>zeta
 rw[e2,zp,get_map t (i-1) q (by omega) hqi];exact zc (Aa (w4 (by omega)) (w4 (by rw[zr];omega))) l3
set_option maxRecDepth 10000 in
theorem Aj(t:List B6)(x:List UInt8)(h64:t.length<=64)(hl:E2 300 t=true)(nx:NF x)(hq:∀f ob,Dz f (Eg t x)->Q (.tup [.dat .str (Jr f),.dat i64 (Ju f)]) ob):
  ∀(r:List B6) (i:Nat),t.drop i=r->i<=t.length->(i=0->r≠[])->(0<i->NF (t.getD (i-1) ([],[])).1/\NF (t.getD (i-1) ([],[])).2)->Cr (G0 t i) r=0->Eg t x=OL ((G0 t i).map Sp.pt) (r.map Sp.pt) (An x)->Ends dN (L1 (t.map BM) (t.map BM) (t.length:Int) (i:Int) (Er x) (Ez x) (D6 x) (Eb x)) Q
 |[],i,h,hi,hne,hp,he,hv=>by
  have:=drop_nil h hi;have h0:0<i:=by
   rcases Nat.eq_zero_or_pos i with e|e
   ·exact wh rfl (hne e)
   ·exact e
  have e:i=t.length:=by omega
  have ep:G0 t i=some (t.getD (i-1) ([],[])):=by unfold G0;rw[wc (by omega)]
  have e2:ze .i64 ((t.length:Int)-1)=((i-1:Nat):Int):=by rw[wr _ (by omega) (by omega)];omega
  obtain⟨p1,p2⟩:=hp h0;have gm:=get_map t (i-1) (t.getD (i-1) ([],[])) (by omega) rfl;rw[ep]at hv;have hv:Eg t x=An (t.getD (i-1) ([],[])).2:=by rw[hv];exact W3 _ _
  refine z7 (Ar ..) (zw (w8 (by omega)) ?_);rw[zr,e2,zp,gm];refine(zc (Aa (w4 (by omega)) (w4 (by omega))) (zc (p2.r.Dm p2.s) (zo (hq (MS (t.getD (i-1) ([],[])).2) _ (by rw[hv];exact p2.r)))))
 |p::r,i,h,hi,hne,hp,he,hv=>by
  obtain⟨g1,g2,g3⟩:=drop_cons (d:=(([],[]):B6)) h;have hm:p∈t:=zy (by rw[h];exact zt ..);obtain⟨l1,l2⟩:=Ka hl p hm;have e1:ze .i64 ((i:Int)+1)=((i+1:Nat):Int):=by rw[wr _ (by omega) (by omega)];omega
  have gm:=get_map t i p g1 g2;have step:∀(k1:Au p.1=0) (k2:Au p.2=0),NF p.1/\NF p.2:=fun k1 k2=>⟨cI k1 l1,cI k2 l2⟩
  have hcmp:∀k1:Au p.1=0,KM (MS x) (BM p).1=LD x p.1:=fun k1=>Xo nx.c k1
  have next:Au p.1=0->Au p.2=0->Cr (some p) r=0->Eg t x=OL (some (Sp.pt p)) (r.map Sp.pt) (An x)->Ends dN (L1 (t.map BM) (t.map BM) (t.length:Int) ((i+1:Nat):Int) (Er x) (Ez x) (D6 x) (Eb x)) Q:=fun k1 k2 h2 hv2=>
   Aj t x h64 hl nx hq r (i+1) g3 g1 (fun k=>wh k (by omega)) (fun _=>by rw[z8,g2];exact step k1 k2) (by rw[J1 g2];exact h2) (by rw[J1 g2];exact hv2)
  refine z7 (Ar ..) ?_;conv=>zeta
  rw[e1,zp,gm,zr];by_cases h0:i=0
  ·subst h0;have he:Cr none (p::r)=0:=he;have hv:Eg t x=OL none ((p::r).map Sp.pt) (An x):=hv;obtain⟨k1,k2,h2⟩:=ER he;obtain⟨b1,b2⟩:=step k1 k2;rw[ym,Ll]at hv;refine zc (w4 (by omega)) (zc (Aa rfl (w4 (by omega))) (zc (Aa (nx.r.Dm nx.s) (b1.r.Dm b1.s)) (zu (fun c=>?_) (fun c=>?_))))
   ·have c:=w6 c;have c:KM (MS x) (BM p).1>0:=c;rw[hcmp k1]at c;have c2:An p.1<An x:=yk.1 (fun k=>by have:=(NV x p.1).2 k;omega);rw[wd (show(Sp.pt p).1<An x from c2)]at hv;exact next k1 k2 h2 hv
   ·have c:=w7 c;have c:¬KM (MS x) (BM p).1>0:=c;rw[hcmp k1]at c;have c2:=(NV x p.1).1 (by omega);rw[wc (show ¬(Sp.pt p).1<An x from c2)]at hv;exact zc rfl (zc (b2.r.Dm b2.s) (zo (hq (MS p.2) _ (by rw[hv];exact b2.r))))
  ·have ep:G0 t i=some (t.getD (i-1) ([],[])):=by unfold G0;rw[wc h0]
   obtain⟨a1,a2⟩:=hp (by omega);rw[ep]at he hv;have hv:Eg t x=OL (some (Sp.pt (t.getD (i-1) ([],[])))) ((p::r).map Sp.pt) (An x):=hv;have hqi:t.getD (i-1) ([],[])=t.getD (i-1) ([],[]):=rfl;obtain⟨k1,k2,hlt,h2⟩:=CS he;obtain⟨b1,b2⟩:=step k1 k2;rw[ym,K9]at hv;refine zc (w4 (by omega)) (zc (Aa (w4 (by omega)) (w4 (by omega))) (zc (Aa (nx.r.Dm nx.s) (b1.r.Dm b1.s)) (zu (fun c=>?_) (fun c=>?_))))
   ·have c:=w6 c;have c:KM (MS x) (BM p).1>0:=c;rw[hcmp k1]at c;have c2:An p.1<An x:=yk.1 (fun k=>by have:=(NV x p.1).2 k;omega);rw[wd (show(Sp.pt p).1<An x from c2)]at hv;exact next k1 k2 h2 hv
   ·have c:=w7 c;have c:¬KM (MS x) (BM p).1>0:=c;rw[hcmp k1]at c;have c2:=(NV x p.1).1 (by omega);rw[wc (show ¬(Sp.pt p).1<An x from c2)]at hv;refine zw (by simp;omega) ?_;exact AQ t (t.getD (i-1) ([],[])) p x i (by omega) g1 h64 hqi a1 a2 b1 b2 nx hlt (fun f ob hr=>hq f ob (by rw[hv];exact hr))
theorem ok:Ag Bg 47 Xt:=by
 refine B1 lP (fun(i:List (List UInt8×List UInt8)×List UInt8) hi=>?_);obtain⟨t,x⟩:=i;have hi:(decide (t.length<=1000)&&E2 300 t&&decide (x.length<=300))=true:=hi;rw[zh,zh,w5,w5]at hi;obtain⟨⟨h1000,hl⟩,hx⟩:=hi;have ef:yp [BT t,Au x]=TB t x:=by rw[Mh];rfl
 refine Ends.eq (Am t x) ?_;conv=>zeta
 rw[ef];refine zc (Aa (w4 h1000) (Ly hl (by decide))) (zc (w4 (by omega)) (zc rfl (zu (fun c=>zo (Ad.of rfl rfl (Vf (by simpa using c) _))) (fun c=>?_))));have c:TB t x=0:=by simpa using c
 obtain⟨ht,hcx⟩:=Y0 c;obtain⟨hne,h64,h0⟩:=Ms ht;have nx:=cI hcx hx;have eo:JB t=t.map BM:=by unfold JB;rw[wc (by rw[ht];decide)]
 rw[eo,zr];exact zc (LP hcx).2 (Aj t x h64 hl nx (fun f ob hr=>Ad.of rfl rfl (gO hr c)) t 0 rfl (yr _) (fun _=>hne) (fun h=>wh h (by decide)) h0 rfl)
end T47
end Go.Pe
namespace Go.Sp
theorem Fb{a:List UInt8}{n:Int}(h:Bb a n=true):a.length<=40/\(Au a=0->MY a n=true):=by
 unfold Bb at h;rw[zh,w5,Bool.or_eq_true,w5]at h;refine⟨h.1,fun k=>?_⟩;rcases h.2 with x|x
 ·exact wh k x
 ·exact x
theorem QT{t:List B6}{n d:Int}(h:JZ t n d=true):(t.length:Int)<=n/\E2 40 t=true/\∀p∈t,Bb p.1 d=true/\Bb p.2 d=true:=by
 unfold JZ at h;rw[zh,w5,yd]at h;have h2:∀p∈t,Bb p.1 d=true/\Bb p.2 d=true:=fun p hp=>by
  have:=h.2 p hp;rwa [zh]at this
 refine⟨h.1,?_,h2⟩;unfold E2;rw[yd];intro p hp;have:=h2 p hp;rw[w4 (Fb this.1).1,w4 (Fb this.2).1];rfl
end Go.Sp
namespace Go.Pe
open Go.Det
theorem mD:DM XV1:=Ab T45.ok (Ab T48.ok AP)
theorem T51.ok:Ag Bg 51 Ym:=by
 refine B1 mD (fun(i:List (List UInt8×List UInt8)×Int×Int) hi=>?_);obtain⟨t,n,d⟩:=i;have hi:(decide (n<=1000)&&decide (0<=d)&&decide (d<=1000))=true:=hi;rw[zh,zh,w5,w5,w5]at hi;obtain⟨⟨h1,h2⟩,h3⟩:=hi;have hq:∀v ob,v=Sp.Va t n d->Ad Ym (t,n,d) (.dat .bool v) ob:=fun v ob h=>Ad.of rfl rfl h
 have hqb:∀v ob,v=Sp.Va t n d->Ad Ym (t,n,d) (.bl v) ob:=fun v ob h=>Ad.of rfl rfl h
 unfold Sp.Va at hq hqb;refine Ends.eq (T51.Am t n d) (zc (Aa (Aa (w4 (by omega)) (w4 h2)) (w4 h3)) (zu (fun c=>?_) (fun c=>zo (hqb _ _ (by rw[c];rfl)))));obtain⟨l1,l2,_⟩:=Sp.QT c;refine zc (Aa (w4 (by omega)) (Sp.Ly l2 (by decide))) (zo (hq _ _ ?_));rw[c,yf];by_cases h:Sp.BT t=0
 ·rw[h];rfl
 ·rw[w8 h];simpa using h
end Go.Pe
namespace Go.Sp
theorem bY{a b c:Rat}(h1:a<b)(h2:b<=c):a<c:=Rat.not_le.1 fun k=>Rat.not_le.2 h1 (Rat.le_trans h2 k)
theorem Ul:∀(a:List B6) (c q:B6) (r:List B6),Cr (some c) (a++q::r)=0->An c.1<An q.1
 |[],c,q,r,h=>(CS h).2.2.1
 |d::a,c,q,r,h=>by
  obtain⟨_,_,h1,h2⟩:=CS (l:=a++q::r) h;exact bY h1 (ya (Ul a d q r h2))
theorem SC:∀(a:List B6) (o:Option B6) (q:B6) (r:List B6) (X:Rat),Cr o (a++q::r)=0->An q.1<X->OL (o.map pt) ((a++q::r).map pt) X=OL (some (pt q)) (r.map pt) X/\Cr (some q) r=0
 |[],o,q,r,X,h,hX=>by
  have hX:(pt q).1<X:=hX;cases o with
  |none=>
   refine⟨?_,(ER h).2.2⟩;show OL none (pt q::r.map pt) X=_;rw[Ll,wd hX]
  |some c=>
   refine⟨?_,(CS h).2.2.2⟩;show OL (some (pt c)) (pt q::r.map pt) X=_;rw[K9,wd hX]
 |d::a,o,q,r,X,h,hX=>by
  have key:Cr (some d) (a++q::r)=0:=by
   cases o with
   |none=>exact(ER (l:=a++q::r) h).2.2
   |some c=>exact(CS (l:=a++q::r) h).2.2.2
  have hd:(pt d).1<X:=bY (Ul a d q r key) (ya hX);obtain⟨i1,i2⟩:=SC a (some d) q r X key hX;refine⟨?_,i2⟩;rw[<-i1];cases o with
  |none=>
   show OL none (pt d::(a++q::r).map pt) X=_;rw[Ll,wd hd];rfl
  |some c=>
   show OL (some (pt c)) (pt d::(a++q::r).map pt) X=_;rw[K9,wd hd];rfl
theorem QQ{t:List B6}{x:List UInt8}{X:Rat}(hx:An x=X)(h0:Cr none t=0){a:List B6}{q p:B6}{b:List B6}(ht:t=a++q::p::b)(h1:An q.1<X)(h2:¬An p.1<X):Eg t x=An q.2+(An p.2-An q.2)*(X-An q.1)/(An p.1-An q.1):=by
 subst ht;have:=(SC a none q (p::b) X h0 h1).1;rw[Oo,hx];have e:OL none ((a++q::p::b).map pt) X=_:=this;rw[e,ym,K9,wc (show ¬(pt p).1<X from h2)];rfl
theorem QA{t:List B6}{x:List UInt8}{X:Rat}(hx:An x=X){p:B6}{b:List B6}(ht:t=p::b)(h:¬An p.1<X):Eg t x=An p.2:=by
 subst ht;rw[Oo,hx,ym,Ll,wc (show ¬(pt p).1<X from h)];rfl
theorem V3{t:List B6}{x:List UInt8}{X:Rat}(hx:An x=X)(h0:Cr none t=0){a:List B6}{q:B6}(ht:t=a++[q])(h:An q.1<X):Eg t x=An q.2:=by
 subst ht;have:=(SC a none q [] X h0 h).1;rw[Oo,hx];have e:OL none ((a++[q]).map pt) X=_:=this;rw[e,List.map_nil,W3];rfl
theorem WM:∀(l:List B6) (o:Option B6),Cr o l=0->∀p∈l,Au p.1=0/\Au p.2=0
 |[],_,_,p,hp=>by cases hp
 |c::l,o,h,p,hp=>by
  have key:(Au c.1=0/\Au c.2=0)/\Cr (some c) l=0:=by
   cases o with
   |none=>exact⟨⟨(ER h).1,(ER h).2.1⟩,(ER h).2.2⟩
   |some d=>exact⟨⟨(CS h).1,(CS h).2.1⟩,(CS h).2.2.2⟩
  rcases List.mem_cons.1 hp with rfl|hp
  ·exact key.1
  ·exact WM l (some c) key.2 p hp
theorem R0:∀(a:List B6) (o:Option B6) (q p:B6) (b:List B6),Cr o (a++q::p::b)=0->An q.1<An p.1
 |[],o,q,p,b,h=>by
  cases o with
  |none=>exact(CS (ER (l:=p::b) h).2.2).2.2.1
  |some c=>exact(CS (CS (l:=p::b) h).2.2.2).2.2.1
 |d::a,o,q,p,b,h=>by
  cases o with
  |none=>exact R0 a (some d) q p b (ER (l:=a++q::p::b) h).2.2
  |some c=>exact R0 a (some d) q p b (CS (l:=a++q::p::b) h).2.2.2
theorem Sc{t:List B6}{x:List UInt8}{V X:Rat}{k m:Nat}(ht:BT t=0)(nx:Nu k x X)(hk:k<=600)(hv:Eg t x=V)(z:E1 m V)(hm:m<=600):Wh t x=0/\WJ t x=AW V:=by
 have e:TB t x=0:=by unfold TB;rw[ht,wc (by decide)];exact nx.check hk
 unfold Wh WJ;rw[e,hv];exact⟨(bO z hm).2,(bO z hm).1⟩
structure qA(v:List UInt8)(s:Rat):Prop where
 n:Nu 3 v s
 lo:0<=s
 hi:s<1
theorem aR{a m:Int}(h0:0<=a)(h1:a<m)(h2:m<=256):qA (CM a m) (Rat.divInt a m):=by
 have hm:(0:Rat)<(m:Rat):=Rat.intCast_pos.2 (by omega);refine⟨⟨rfl,Hy (by omega) (by have:10^3=1000:=rfl;omega) (by have:10^3=1000:=rfl;omega)⟩,?_,?_⟩
 ·rw[Rat.divInt_eq_div,Rat.div_def];exact Rat.mul_nonneg (Rat.intCast_nonneg.2 h0) (ya (Rat.inv_pos.2 hm))
 ·rw[Rat.divInt_eq_div,Rat.div_lt_iff hm,Rat.one_mul];exact Rat.intCast_lt_intCast.2 h1
theorem Z6{a b s d:Rat}(hd:d≠0):a+b*(s*d)/d=a+s*b:=by
 rw[<-Rat.mul_assoc,Rat.mul_div_cancel hd,Rat.mul_comm]
theorem Ri(a b:Rat):a+b-a=b:=by rw[yv,Rat.add_sub_cancel]
theorem UI{t:List B6}{x:List UInt8}{s:Rat}(h0:Cr none t=0){a:List B6}{q p:B6}{b:List B6}(ht:t=a++q::p::b)(hx:An x=An q.1+s*(An p.1-An q.1))(s0:0<=s)(s1:s<1)(hq:s=0->Eg t x=An q.2):Eg t x=An q.2+s*(An p.2-An q.2):=by
 have hlt:An q.1<An p.1:=R0 a none q p b (by rw[<-ht];exact h0);have hd:0<An p.1-An q.1:=(yg _ _).1 hlt;by_cases h:s=0
 ·rw[hq h,h,Rat.zero_mul,yb]
 ·have sp:0<s:=Rat.lt_of_le_of_ne s0 (fun k=>h k.symm);have h1:An q.1<An q.1+s*(An p.1-An q.1):=by
   have:=Rat.add_lt_add_left (c:=An q.1) (a:=0) (b:=s*(An p.1-An q.1));rw[yb]at this;exact this.2 (Rat.mul_pos sp hd)
  have h2:¬An p.1<An q.1+s*(An p.1-An q.1):=by
   rw[Rat.not_lt];have:=Rat.mul_le_mul_of_nonneg_right (ya s1) (ya hd);rw[Rat.one_mul]at this;have k:=(Rat.add_le_add_left (c:=An q.1)).2 this;rw[yv (An q.1) (An p.1-An q.1),yh]at k;exact k
  rw[QQ hx h0 ht h1 h2,Ri,Z6 (Rat.ne_of_gt hd)]
theorem Pm{t:List B6}(h0:Cr none t=0){a:List B6}{p:B6}{b:List B6}(ht:t=a++p::b){x:List UInt8}(hx:An x=An p.1):Eg t x=An p.2:=by
 rcases List.eq_nil_or_concat a with rfl|⟨a',q,rfl⟩
 ·exact QA hx ht (yt)
 ·rw[List.concat_eq_append,List.append_assoc]at ht;have ht:t=a'++q::p::b:=ht;have hlt:An q.1<An p.1:=R0 a' none q p b (by rw[<-ht];exact h0);have hd:0<An p.1-An q.1:=(yg _ _).1 hlt;rw[QQ hx h0 ht hlt yt,Rat.mul_div_cancel (Rat.ne_of_gt hd),yv,yh]
end Go.Sp
namespace Go.Pe
open Sp
open Go.Det
abbrev Rp:Ap:=Mj
theorem oV:DM yI:=Ab T51.ok (Ab TO (Ab T36.ok (Ab T47.ok (Ab T27.ok (Ab T28.ok (Ab T29.ok AP))))))
namespace T9
variable {Q:PV->Ob->Prop}
structure BS(t:List B6):Prop where
 l6:t.length<=6
 ne:t≠[]
 len:E2 300 t=true
 ht:BT t=0
 h0:Cr none t=0
 n:∀p∈t,Sp.Nu 9 p.1 (An p.1)/\Sp.Nu 9 p.2 (An p.2)
theorem rM{t:List B6}(h:Va t 6 9=true):BS t:=by
 unfold Va at h;rw[zh,w5]at h;obtain⟨h1,h2⟩:=h;obtain⟨l1,l2,l3⟩:=QT h1;obtain⟨k1,k2,k3⟩:=Ms h2;refine⟨by omega,k1,Ly l2 (by decide),h2,k3,fun p hp=>?_⟩;obtain⟨c1,c2⟩:=WM t none k3 p hp;exact⟨(jD (n:=9) ((Fb (l3 p hp).1).2 c1)).1,(jD (n:=9) ((Fb (l3 p hp).2).2 c2)).1⟩
theorem IX{k:Nat}{s:List UInt8}{q:Rat}(n:Sp.Nu k s q)(hk:k<=149)(h1:1<=k):s.length<=300:=by
 have:=KZ n.z h1;rw[<-n.t]at this;omega
theorem gJ{t r:List B6}{i:Nat}{p:B6}(h:t.drop i=p::r):t=t.take i++p::r:=by rw[<-h,yc]
theorem ZB{t r:List B6}{i:Nat}{p:B6}(h1:1<=i)(hi:i<t.length)(h:t.drop i=p::r):t=t.take (i-1)++t.getD (i-1) ([],[])::p::r:=by
 have e:t.drop (i-1)=t.getD (i-1) ([],[])::p::r:=by
  rw[<-h];have:=yi (l:=t) (i:=i-1) (by omega);rw[this,show i-1+1=i by omega,zk,zm (by omega)];rfl
 rw[<-e,yc]
set_option maxRecDepth 10000 in
theorem Aj(t:List B6)(T:BS t)(v:List UInt8)(s:Rat)(S:qA v s)(hq:∀ob,Q (.dat .bool true) ob):∀(r:List B6) (i:Nat),t.drop i=r->i<=t.length->Ends yI (L1 t v (t.length:Int) (i:Int)) Q
 |[],i,h,hi=>by
  have:=drop_nil h hi;have h6:=T.l6;have hpos:0<t.length:=List.length_pos_iff.2 T.ne;have ok3:∀ {y:List UInt8},y.length<=300->(decide (t.length<=1000)&&E2 300 t&&decide (y.length<=300))=true:=fun hy=>Aa (Aa (w4 (by omega)) T.len) (w4 hy)
  have e2:ze .i64 ((t.length:Int)-1)=((t.length-1:Nat):Int):=by rw[wr _ (by omega) (by omega)];omega
  obtain⟨p,b,htp⟩:∃p b,t=p::b:=by
   cases t with
   |nil=>exact wh rfl T.ne
   |cons p b=>exact⟨p,b,rfl⟩
  have g0:t.getD 0 ([],[])=p:=by rw[htp];rfl
  have hta:t=t.take (t.length-1)++[t.getD (t.length-1) ([],[])]:=by
   have e:=yc (t.length-1) t;have d:t.drop (t.length-1)=[t.getD (t.length-1) ([],[])]:=by
    have:=yi (l:=t) (i:=t.length-1) (by omega);rw[this,List.drop_eq_nil_of_le (by omega),zk,zm (by omega)];rfl
   rw[d]at e;exact e.symm
  have hml:t.getD (t.length-1) ([],[])∈t:=by
   rw[zk,zm (by omega)];exact List.getElem_mem _
  obtain⟨n1,n2⟩:=T.n p (by rw[htp];exact zt ..);obtain⟨m1,m2⟩:=T.n _ hml;refine z7 (Ar ..) (zw (w8 (by omega)) ?_);rw[e2,zp,g0];generalize t.getD (t.length-1) ([],[])=w at*;have a1:=n1.HT S.n;have a2:=m1.D0 S.n;have v1:Eg t (HT p.1 v)=An p.2:=by
   refine QA a1.rat htp ?_;rw[Rat.not_lt];have k:=(Rat.add_le_add_left (c:=An p.1-s)).2 S.lo;rw[yb,yh]at k;exact k
  have v2:Eg t (D0 w.1 v)=An w.2:=by
   by_cases hs:s=0
   ·refine Pm T.h0 hta ?_;rw[a2.rat,hs,yb]
   ·refine V3 a2.rat T.h0 hta ?_;have sp:0<s:=Rat.lt_of_le_of_ne S.lo (fun k=>hs k.symm);have:=Rat.add_lt_add_left (c:=An w.1) (a:=0) (b:=s);rw[yb]at this;exact this.2 sp
  obtain⟨x1,x2⟩:=Sc T.ht a1 (by decide) v1 n2.z (by decide);obtain⟨y1,y2⟩:=Sc T.ht a2 (by decide) v2 m2.z (by decide);rw[<-n2.t]at x2;rw[<-m2.t]at y2;rw[x1,x2,y1,y2];have i0:(decide ((0:Int)<=((t.length-1:Nat):Int))&&decide (((t.length-1:Nat):Int)<(t.length:Int)))=true:=Aa (w4 (by omega)) (w4 (by omega));exact zc (w4 (by omega)) (zc (Aa (n1.num (by decide)) (S.n.FI (by decide))) (zc (ok3 (IX a1 (by decide) (by decide))) (zc i0 (zc (Aa (m1.num (by decide)) (S.n.num (by decide))) (zc (ok3 (IX a2 (by decide) (by decide))) (zc rfl (zc (w4 (by omega)) (zc (by simp) (zc i0 (zc (by simp) (zc rfl (zo (hq _)))))))))))))
 |p::r,i,h,hi=>by
  obtain⟨g1,g2,g3⟩:=drop_cons (d:=(([],[]):B6)) h;have h6:=T.l6;have hm:p∈t:=zy (by rw[h];exact zt ..);obtain⟨n1,n2⟩:=T.n p hm;have ok3:∀ {y:List UInt8},y.length<=300->(decide (t.length<=1000)&&E2 300 t&&decide (y.length<=300))=true:=fun hy=>Aa (Aa (w4 (by omega)) T.len) (w4 hy)
  have e1:ze .i64 ((i:Int)+1)=((i+1:Nat):Int):=by rw[wr _ (by omega) (by omega)];omega
  have hx:(decide ((0:Int)<=(i:Int))&&decide ((i:Int)<(t.length:Int)))=true:=Aa (w4 (by omega)) (w4 (by omega));have go:=Aj t T v s S hq r (i+1) g3 g1;obtain⟨x1,x2⟩:=Sc T.ht n1 (by decide) (Pm T.h0 (gJ h) rfl) n2.z (by decide);rw[<-n2.t]at x2;refine z7 (Ar ..) ?_;conv=>zeta
  rw[e1,zp,g2,x1,x2];refine zc (w4 (by omega)) (zc hx (zc (ok3 (IX n1 (by decide) (by decide))) (zw rfl (zc hx (zw (by simp) ?_)))));by_cases h0:i=0
  ·subst h0;exact zc rfl go
  ·have e2:ze .i64 ((i:Int)-1)=((i-1:Nat):Int):=by rw[wr _ (by omega) (by omega)];omega
   have hs2:=ZB (by omega) g1 h;have hmq:t.getD (i-1) ([],[])∈t:=by
    rw[zk,zm (by omega)];exact List.getElem_mem _
   obtain⟨m1,m2⟩:=T.n _ hmq;rw[e2,zp];generalize t.getD (i-1) ([],[])=q at*;have a1:=n1.HT m1;have a2:=S.n.Gz a1;have a3:=m1.D0 a2;have b1:=n2.HT m2;have b2:=S.n.Gz b1;have b3:=m2.D0 b2;have cv:Eg t (D0 q.1 (Gz v (HT p.1 q.1)))=An q.2+s*(An p.2-An q.2):=by
    refine UI T.h0 hs2 a3.rat S.lo S.hi (fun hz=>Pm T.h0 hs2 ?_);rw[a3.rat,hz,Rat.zero_mul,yb]
   obtain⟨y1,y2⟩:=Sc T.ht a3 (by decide) cv b3.z (by decide);rw[<-b3.t]at y2;have hy:(decide ((0:Int)<=((i-1:Nat):Int))&&decide (((i-1:Nat):Int)<(t.length:Int)))=true:=Aa (w4 (by omega)) (w4 (by omega));rw[y1,y2];exact zw (by simp;omega) (zc hy (zc hx (zc hy (zc (Aa (n1.num (by decide)) (m1.FI (by decide))) (zc (Aa (S.n.num (by decide)) (a1.num (by decide))) (zc (Aa (m1.num (by decide)) (a2.num (by decide))) (zc (ok3 (IX a3 (by decide) (by decide))) (zw rfl (zc hy (zc hx (zc hy (zc (Aa (n2.num (by decide)) (m2.FI (by decide))) (zc (Aa (S.n.num (by decide)) (b1.num (by decide))) (zc (Aa (m2.num (by decide)) (b2.num (by decide))) (zw (by simp) go)))))))))))))))
set_option maxRecDepth 10000 in
theorem ok:Ag Bg 9 Mj:=by
 refine B1 oV (fun(i:List (List UInt8×List UInt8)×Int×Int) hi=>?_);obtain⟨t,p,w⟩:=i;have hi:(decide (0<=p)&&decide (p<256)&&decide (0<=w)&&decide (w<256))=true:=hi;rw[zh,zh,zh,w5,w5,w5,w5]at hi;obtain⟨⟨⟨p0,p1⟩,w0⟩,w1⟩:=hi;have hq:∀ob,Ad Mj (t,p,w) (.dat .bool true) ob:=fun ob=>Ad.of rfl rfl rfl
 have e1:ze .i64 p=p:=wr _ (by omega) (by omega);have e2:ze .i64 (ze .i64 w+1)=w+1:=by rw[wr w (by omega) (by omega)];exact wr _ (by omega) (by omega)
 have e3:Int.tmod p (w+1)=p % (w+1):=Int.tmod_eq_emod_of_nonneg p0;have m0:=Int.emod_nonneg p (show w+1≠0 by omega);have m1:=Int.emod_lt_of_pos p (show 0<w+1 by omega);refine Ends.eq (Am t p w) (zc rfl (zu (fun _=>zc rfl (zo (hq _))) (fun c=>?_)));have T:=rM (t:=t) (by simpa using c);rw[e1,e2,e3];exact zc (w4 (by omega)) (zc (Aa (Aa (C3 (by omega) (by omega)) (C3 (by omega) (by omega))) (w4 (by omega))) (Aj t T _ _ (aR m0 m1 (by omega)) hq t 0 rfl (yr _)))
end T9
theorem yO{x:(BC Mj.ins).T}(h:zA Mj.ins x):Mj.pre x=true:=by
 obtain⟨_,h1,h2⟩:=h;have h1:0<=x.2.1/\x.2.1<=255:=h1;have h2:0<=x.2.2/\x.2.2<=255:=h2;exact Aa (Aa (Aa (w4 h1.1) (w4 (Int.lt_of_le_of_lt h1.2 (by decide)))) (w4 h2.1)) (w4 (Int.lt_of_le_of_lt h2.2 (by decide)))
end Go.Pe
