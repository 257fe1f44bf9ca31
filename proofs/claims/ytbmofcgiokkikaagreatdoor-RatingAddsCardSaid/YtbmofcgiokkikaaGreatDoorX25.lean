import Derived.Test.YtbmofcgiokkikaaGreatDoorX16
/- A part of a proof; no law is stated here. -/
noncomputable section
open Go.Pe.Ends renaming tt -> zc, ff -> zf, Ah -> zl, leaf -> zm, ite -> zr
open Go.IntKind renaming wrap -> zd
open Go.Pe.Sh renaming str -> ze, pair -> zo, list -> zp, bool -> zy
open Int renaming toNat_natCast -> zh, toNat -> z7
open List renaming getD_eq_getElem?_getD -> zi, all_cons -> zk, all -> zn, replicate -> zu
open Bool renaming and_eq_true -> zj
open Go.Sp renaming Nu -> zq
open Go.Sp.Nu renaming op -> zt
open Rat renaming add_assoc -> zz
open Nat renaming zero_add -> z6
namespace Go.Pe
open Go.Det
def LX:Am:=⟨[AT,i64,.pair i64 i64],fun i=>Sp.rQ i.1&&zn (α:=Sp.Bw) (Prod.fst<|Prod.snd (i.1:Sp.At)) Sp.PD,[.bool],fun _=>true,false⟩
def GR:AG:=SV [(5,[3,8,20,30])] [(5,[(3,[(3,AT),(5,.pair i64 i64)]),(8,[(14,i64)])])] [(5,[(8,[1,3,5,7,8,9,10,11,12,13,14,15,16,17]),(30,[7,9,10,12,18]),(29,[1,3,5,7,9,10,12,14,18,19,20,144,145]),(25,[1,3,5,7,9,10,12,14,18,19,20,21,26,144,145]),(26,[1,3,5,7,9,10,12,14,18,19,20,21,26,144,145]),(24,[1,3,5,7,9,10,12,14,18,19,20,21,26,144,145]),(20,[1,3,5,7,9,10,12,14,18,19,20,21,22,24,144,145]),(15,[1,3,5,7,9,10,12,14,18,19,20,144,145]),(14,[1,3,5,7,9,10,12,14,18,19,20,144,145]),(10,[1,3,5,7,9,10,12,14]),(3,[1,3,5])])] [(8,UE),(7,Jt),(11,xZ),(16,qY),(12,uU),(14,tP),(13,eF),(22,Jz),(21,Wj),(28,Ahn),(29,cHo),(30,Jg),(31,R5),(32,Lp),(33,Xd)]
open Sp
section
open List Int Prod
namespace T5
def T(c:At)(t:Int)(a:Int×Int):Tr:=tree GR false 9 5<|Af ([AT,Sh.int IntKind.i64,zo i64 i64]) (c,t,a)
def L1(v1:Int)(v3:At)(v5:Int×Int):Tr:=re ((T ([],([],[])) 0 (0,0)).L.R.L.L.R.L.R.L.L.R.L.L.R)<|Ap 280 [(1,.dat i64 v1),(3,PV.AV AT v3 0),(5,PV.AV (zo i64 i64) v5 0)] [] 0
theorem Ai(c:At)(t:Int)(a:Int×Int):T c t a=let b:Tr:=.ck true<|.leaf (.dat zy true) [];let b':=(↑(length<|snd<|snd c):Int);.ck true (.ite false b<|.ck (rQ c)<|.ck (YZ 5 4&&zn (fst<|snd c) PD)<|.ite (!KS c 5 4) b<|.ck true<|.ite (HS t (↑(length<|fst<|snd c):Int)) b<|.ck true<|.ck true<|.ite (HS (fst a) b') b<|.ck true<|.ck true<|.ite (HS (snd a) b') b<|L1 t c a):=by kernel_rfl
def L2(v1:Int)(v3:At)(v5:Int×Int)(l:Z)(k:Int)(v9 i:Z)(e:Int)(a:Z)(f:Int)(b:List Int)(j h d:Int):Tr:=re ((stepT GR<|L1 0 ([],([],[])) (0,0)).L.L.L.L.L.L.L.L.L.L.L.L)<|Ap 280 [(1,.dat i64 v1),(3,PV.AV AT v3 0),(5,PV.AV (zo i64 i64) v5 0),(7,.dat ze l),(8,.dat i64 k),(9,.dat ze v9),(10,.dat ze i),(11,.dat i64 e),(12,.dat ze a),(13,.dat i64 f),(14,.dat (zp i64) b),(15,.dat i64 j),(16,.dat i64 h),(17,.dat i64 d)] [] 0
theorem Al(v1:Int)(v3:At)(v5:Int×Int):stepT GR (L1 v1 v3 v5)=let a:=DW v3 v1 (fst v5)<|snd v5;.ck true (.ck (GM v3)<|.ck true<|.ck (GM v3)<|.ck true<|.ck (GM v3)<|.ck true<|.ck true<|.ck (GM v3)<|.ck true<|.ck true<|.ck (GM v3)<|L2 v1 v3 v5 (Sp.exT v3 v1<|fst v5) (Sp.exE v3 v1<|fst v5) (Sp.niA v3 v1<|fst v5) (Sp.niB v3 v1<|fst v5) (En v3 v1<|fst v5) (Sp.raT v3 v1<|fst v5) (Sp.raE v3 v1<|fst v5) (Wx v3 v1 (fst v5)<|snd v5) a (Vr v3 v1 (fst v5)<|snd v5) a):=by kernel_rfl
def L3(v1:Int)(v3:At)(v5:Int×Int)(k v9 h e:Z)(f:List Int)(i:Z)(b:Nat)(d a:Int)(j:List Bool):Tr:=re ((stepT GR<|L2 0 ([],([],[])) (0,0) [] 0 [] [] 0 [] 0 [] 0 0 0).R.L.R.R.R.R.L)<|Ap 280 [(1,.dat i64 v1),(3,PV.AV AT v3 0),(5,PV.AV (zo i64 i64) v5 0),(7,.dat ze k),(9,.dat ze v9),(10,.dat ze h),(12,.dat ze e),(14,.dat (zp i64) f),(18,.dat ze i),(19,.sl 0 1 0 b none),(20,.nil),(144,.dat i64 d),(145,.dat i64 a)] [(0,.arr false 4 zy j)] 1
theorem AA(v1:Int)(v3:At)(v5:Int×Int)(l:Z)(m:Int)(v9 d:Z)(i:Int)(a:Z)(j:Int)(e:List Int)(k f h:Int):stepT GR (L2 v1 v3 v5 l m v9 d i a j e k f h)=let b:=(length e:Int);let b':Tr:=.leaf (.bl false) [];.ite (zd .i64 (zd .i64 (zd .i64 (zd .i64 (m+i)+j)+k)+h) !=0) b' (.ck (decide (4<=4)&&true&&(decide (4<=1000000)&&zn [l,v9,d,a] fun s=>decide (length s<=9223372036854775807)))<|.ite (B8 [l,v9,d,a] !=0) b'<|.di (f<55) b'<|.di (f>155) b'<|.ite (b !=(↑(length<|fst v3):Int)) b'<|.ck (decide (0<=b)&&decide (b=b)&&decide (1*toNat b<=281474976710656)&&decide (b<9223372036854775808))<|L3 v1 v3 v5 l v9 d a e ([(48:UInt8)]) (toNat b) b 0<|replicate (toNat b) false):=by kernel_rfl
def L4(v1:Int)(v3:At)(v5:Int×Int)(n v9 k f:Z)(h:List Int)(l:Z)(b:Nat)(i:Int)(e j:Z)(d a:Int)(m:List Bool):Tr:=re ((stepT GR<|L3 0 ([],([],[])) (0,0) [] [] [] [] [] [] 0 0 0 []).L.L.L.L.L.R.L.R.L.R.L.R.L.L.L.R)<|Ap 280 [(1,.dat i64 v1),(3,PV.AV AT v3 0),(5,PV.AV (zo i64 i64) v5 0),(7,.dat ze n),(9,.dat ze v9),(10,.dat ze k),(12,.dat ze f),(14,.dat (zp i64) h),(18,.dat ze l),(19,.sl 0 1 0 b none),(20,.nil),(21,.dat i64 i),(22,.dat ze e),(24,.dat ze j),(144,.dat i64 d),(145,.dat i64 a)] [(0,.arr false 4 zy m)] 1
def L5(e v9 a b d:Z):Tr:=re ((stepT GR<|L3 0 ([],([],[])) (0,0) [] [] [] [] [] [] 0 0 0 []).R)<|Ap 280 [(7,.dat ze e),(9,.dat ze v9),(10,.dat ze a),(12,.dat ze b),(18,.dat ze d)] [] 0
theorem Bo(v1:Int)(v3:At)(v5:Int×Int)(m v9 h f:Z)(b:List Int)(i:Z)(e:Nat)(d a:Int)(k:List Bool):stepT GR (L3 v1 v3 v5 m v9 h f b i e d a k)=let l:=decide (0<=a)&&decide (a<(length b:Int));let b':Tr:=.leaf (.bl false) [];let j:=getD b (toNat a) 0-1;.di (a<d) (.ck true<|.ck (Gc v3)<|.ck true<|.ck (Gc v3)<|.ite (zd .i64 (wT v3 v1 a (fst v5)+wT v3 v1 a (snd v5)) !=0) b'<|.ck (decide (2<=2)&&true&&(decide (2<=1000000)&&zn [VB v3 v1 a<|fst v5,VB v3 v1 a<|snd v5] fun s=>decide (length s<=9223372036854775807)))<|.ite (B8 [VB v3 v1 a<|fst v5,VB v3 v1 a<|snd v5] !=0) b'<|.ck l<|.di (getD b (toNat a) 0<1) b'<|.ck l<|.di (getD b (toNat a) 0>(length b:Int)) b'<|.ck l<|.ck (decide (0<=zd .i64 j)&&decide (zd .i64 j<(↑e:Int)))<|.cd (toNat (zd .i64 j)<length k)<|.ite (getD k (toNat<|zd .i64 j) false) b'<|L4 v1 v3 v5 m v9 h f b i e a (VB v3 v1 a<|fst v5) (VB v3 v1 a<|snd v5) d a k) (L5 m v9 h f i):=by kernel_rfl
def L6(v1:Int)(v3:At)(v5:Int×Int)(n v9 k h:Z)(i:List Int)(l:Z)(d b:Nat)(j f e a:Int)(o1:List Z)(m:List Bool):Tr:=re ((stepT GR<|L4 0 ([],([],[])) (0,0) [] [] [] [] [] [] 0 0 [] [] 0 0 []).L.L.L.L.L.L)<|Ap 280 [(1,.dat i64 v1),(3,PV.AV AT v3 0),(5,PV.AV (zo i64 i64) v5 0),(7,.dat ze n),(9,.dat ze v9),(10,.dat ze k),(12,.dat ze h),(14,.dat (zp i64) i),(18,.dat ze l),(19,.sl 0 1 0 d none),(20,.sl 1 1 0 b none),(21,.dat i64 j),(26,.dat i64 f),(144,.dat i64 e),(145,.dat i64 a)] [(1,.arr false 39 ze o1),(0,.arr false 4 zy m)] 2
theorem BX(v1:Int)(v3:At)(v5:Int×Int)(o v9 l k:Z)(e:List Int)(j:Z)(d:Nat)(b:Int)(a i:Z)(h f:Int)(n:List Bool):stepT GR (L4 v1 v3 v5 o v9 l k e j d b a i h f n)=let m:=getD e (toNat b) 0-1;.ck (decide (0<=b)&&decide (b<(length e:Int))) (.ck (decide (0<=zd .i64 m)&&decide (zd .i64 m<(↑d:Int)))<|.cd (toNat (zd .i64 m)<length n)<|.ck (AR j&&AR a)<|.ck (AR i&&BV a)<|.ck (aa 16)<|L6 v1 v3 v5 o v9 l k e (BW j a) d 1 b 0 h f ([DS i a])<|set n (toNat<|zd .i64 m) true):=by kernel_rfl
theorem Dl(d v9 a b e:Z):stepT GR (L5 d v9 a b e)=let f:=([49,47,50,48]:Z);let b':=DS b d;.ite (e==d) (.ck (AR v9&&AR a)<|.ite (BW v9 a==d) (.ck (AR b&&BV d)<|.cd (length b'<=1000000)<|.ck (AR (A9 b')&&BV f)<|.leaf (.dat zy<|decide (CW (A9 b') f<=0)) [])<|.leaf (.bl false) []) (.leaf (.bl false) []):=by kernel_rfl
def L7(v1:Int)(v3:At)(v5:Int×Int)(l v9 i f:Z)(h:List Int)(j:Z)(d b:Nat)(e a:Int)(o1:List Z)(k:List Bool):Tr:=re ((stepT GR<|L6 0 ([],([],[])) (0,0) [] [] [] [] [] [] 0 0 0 0 0 0 [] []).R)<|Ap 280 [(1,.dat i64 v1),(3,PV.AV AT v3 0),(5,PV.AV (zo i64 i64) v5 0),(7,.dat ze l),(9,.dat ze v9),(10,.dat ze i),(12,.dat ze f),(14,.dat (zp i64) h),(18,.dat ze j),(19,.sl 0 1 0 d none),(20,.sl 1 1 0 b none),(144,.dat i64 e),(145,.dat i64 a)] [(1,.arr false 39 ze o1),(0,.arr false 4 zy k)] 2
theorem CL(v1:Int)(v3:At)(v5:Int×Int)(n v9 k j:Z)(d:List Int)(l:Z)(i e:Nat)(a b h f:Int)(o1:List Z)(o:List Bool):stepT GR (L6 v1 v3 v5 n v9 k j d l i e a b h f o1 o)=let b':=L6 v1 v3 v5 n v9 k j d l i e a (zd .i64<|b+1) h f o1 o;let r:=decide (0<=b)&&decide (b<(length d:Int));let q:=decide (0<=a)&&decide (a<(length d:Int));let p:=getD o1 (toNat b) [];let m:=getD o1 (toNat a) [];let s:Tr:=.di (CW p m<0) (.ck r<|.ck q<|.di (getD d (toNat b) 0<getD d (toNat a) 0) (.leaf (.bl false) []) b') b';.di (b<a) (.ck (decide (0<=b)&&decide (b<(↑e:Int)))<|.cd (toNat b<length o1)<|.ck (decide (0<=a)&&decide (a<(↑e:Int)))<|.cd (toNat a<length o1)<|.ck (AR p&&BV m)<|.di (CW p m>=0) (.ck r<|.ck q<|.di (getD d (toNat b) 0>getD d (toNat a) 0) (.leaf (.bl false) []) s) s) (L7 v1 v3 v5 n v9 k j d l i e h (zd .i64<|f+1) o1 o):=by kernel_rfl
def L8(v1:Int)(v3:At)(v5:Int×Int)(o v9 l h:Z)(i:List Int)(m:Z)(d b:Nat)(j:Int)(f k:Z)(e a:Int)(o1:List Z)(n:List Bool):Tr:=re ((stepT GR<|L7 0 ([],([],[])) (0,0) [] [] [] [] [] [] 0 0 0 0 [] []).L.L.L.L.L.R.L.R.L.R.L.R.L.L.L.R)<|Ap 280 [(1,.dat i64 v1),(3,PV.AV AT v3 0),(5,PV.AV (zo i64 i64) v5 0),(7,.dat ze o),(9,.dat ze v9),(10,.dat ze l),(12,.dat ze h),(14,.dat (zp i64) i),(18,.dat ze m),(19,.sl 0 1 0 d none),(20,.sl 1 1 0 b none),(21,.dat i64 j),(22,.dat ze f),(24,.dat ze k),(144,.dat i64 e),(145,.dat i64 a)] [(1,.arr false 39 ze o1),(0,.arr false 4 zy n)] 2
theorem C6(v1:Int)(v3:At)(v5:Int×Int)(m v9 i h:Z)(b:List Int)(j:Z)(e f:Nat)(d a:Int)(o1:List Z)(l:List Bool):stepT GR (L7 v1 v3 v5 m v9 i h b j e f d a o1 l)=let n:=decide (0<=a)&&decide (a<(length b:Int));let b':Tr:=.leaf (.bl false) [];let k:=getD b (toNat a) 0-1;.di (a<d) (.ck true<|.ck (Gc v3)<|.ck true<|.ck (Gc v3)<|.ite (zd .i64 (wT v3 v1 a (fst v5)+wT v3 v1 a (snd v5)) !=0) b'<|.ck (decide (2<=2)&&true&&(decide (2<=1000000)&&zn [VB v3 v1 a<|fst v5,VB v3 v1 a<|snd v5] fun s=>decide (length s<=9223372036854775807)))<|.ite (B8 [VB v3 v1 a<|fst v5,VB v3 v1 a<|snd v5] !=0) b'<|.ck n<|.di (getD b (toNat a) 0<1) b'<|.ck n<|.di (getD b (toNat a) 0>(length b:Int)) b'<|.ck n<|.ck (decide (0<=zd .i64 k)&&decide (zd .i64 k<(↑e:Int)))<|.cd (toNat (zd .i64 k)<length l)<|.ite (getD l (toNat<|zd .i64 k) false) b'<|L8 v1 v3 v5 m v9 i h b j e f a (VB v3 v1 a<|fst v5) (VB v3 v1 a<|snd v5) d a o1 l) (L5 m v9 i h j):=by kernel_rfl
theorem DM(v1:Int)(v3:At)(v5:Int×Int)(p v9 m l:Z)(f:List Int)(k:Z)(e a:Nat)(b:Int)(d j:Z)(i h:Int)(o1:List Z)(o:List Bool):stepT GR (L8 v1 v3 v5 p v9 m l f k e a b d j i h o1 o)=let n:=getD f (toNat b) 0-1;.ck (decide (0<=b)&&decide (b<(length f:Int))) (.ck (decide (0<=zd .i64 n)&&decide (zd .i64 n<(↑e:Int)))<|.cd (toNat (zd .i64 n)<length o)<|.ck (AR k&&AR d)<|.ck (AR j&&BV d)<|.ck (ac a (length o1) 16)<|L6 v1 v3 v5 p v9 m l f (BW k d) e (Nat.add a 1) b 0 i h (o1++[DS j d])<|set o (toNat<|zd .i64 n) true):=by kernel_rfl
end T5
end
end Go.Pe
namespace Go.Sp
theorem vN{x y:Z}(h:x≠[]):A9 (x++y)=A9 x++y:=by
 cases x with
 |nil=>exact wh rfl h
 |cons a x=>
  unfold A9;show(if a=45 then x++y else a::(x++y))=(if a=45 then x else a::x)++y;split<;>rfl
theorem cI{n:Int}(h:0<=n):Lib.itoa n=Lib.decDigits n.natAbs:=by
 unfold Lib.itoa;rw[wc ae,show n.toNat=n.natAbs by omega]
def VK(q:Rat):Rat:=if q<0 then -q else q
theorem xF(q:Rat):A9 (Az q)=Az (VK q):=by
 have i:=(Dp q.num).2.1;have a:Lib.itoa q.num≠[]:=fun h=>by
  rw[h]at i;exact RY _ i.symm
 have e:Lib.itoa (VK q).num=Lib.decDigits q.num.natAbs:=by
  unfold VK;split
  ·next h=>
   have:=(neg_num q).1.2 h;rw[Rat.neg_num,cI ae,Int.natAbs_neg]
  ·next h=>
   have:¬q.num<0:=fun x=>h<|(neg_num q).1.1 x
   rw[cI ae]
 have d:(VK q).den=q.den:=by
  unfold VK;split
  ·rfl
  ·rfl
 unfold Az;rw[d];split
 ·rw[i,e]
 ·rw[vN a,i,e]
theorem Nu.abs{k:Nat}{s:Z}{q:Rat}(h:Nu k s q):Nu k (A9 s) (VK q):=by
 refine⟨by rw[h.t,xF],?_⟩;unfold VK;split
 ·exact h.z.neg
 ·exact h.z
theorem qX(q:Rat):VK (Iz q-q)<=1/20:=by
 have b:=Rat.floor_le<|q*10+1/2;have a:=Rat.lt_floor_add_one<|q*10+1/2;unfold VK Iz GQ;rw[Rat.div_def,show((10:Rat))⁻¹=1/10 by decide+kernel];split<;>grind
theorem AdZ:Nu 2 [49,47,50,48] (1/20):=by
 refine⟨by decide+kernel,?_⟩;unfold Cz;decide+kernel
theorem Qm{c:At}{t h l:Int}(f:KS c 5 4=true)(k:Nf c t h l=true):Cz 114 (CA c t h l):=by
 obtain⟨P,L,_,ko,h0,n0⟩:=Go.Pe.Ou k;obtain⟨f1,f2,_⟩:=LO f;have fs:=f1 (BC c h) (Gw (by have:=P.h0;omega));have S:=yI af fs;have V:=pD (f2 (CQ c l) (Gw (by have:=L.l0;omega)));have e:=AdB (Adi S P.te) V.head V.next S.roll h0 n0;obtain⟨h1,_,h3⟩:=DK L.lv.SQ;have v:=AbK e (CQ c l).2.2.2.1 none (fun q x=>by cases x) V.SQ (fun _=>h1) h3;have o:=AeG V.wts P.st.obs;have n:(BC c h).2.2.2.2.length<=5:=by
  unfold Il at fs;simp only[zj,w5]at fs;omega
 exact(v.add o).mono ae
theorem LK{c:At}{t l:Int}(a:∀i:Nat,i<c.1.length->Cz 114 (CA c t (i:Int) l)):∀(k i:Nat),i+k<=c.1.length->Cz (1+115*k) (Nc c t l i k)
 |0,_,_=>bM
 |k+1,i,b=>((a i ae).add<|LK a k (i+1) ae).mono ae
theorem gP(c:At)(t l:Int):∀(k i m:Nat),Nc c t l i (k+m)=Nc c t l i k+Nc c t l (i+k) m
 |0,i,m=>by rw[z6,Nat.add_zero];exact(Rat.zero_add _).symm
 |k+1,i,m=>by
  rw[show k+1+m=k+m+1 by omega];show CA c t (i:Int) l+Nc c t l (i+1) (k+m)=CA c t (i:Int) l+Nc c t l (i+1) k+Nc c t l (i+(k+1)) m;rw[gP c t l k (i+1) m,zz,show i+1+k=i+(k+1)by omega]
theorem Zo{p q:Int->Bool}:∀ {l:List Int},(∀x∈l,p x=true->q x=true)->(∃x∈l,q x=true/\p x=false)->l.countP p<l.countP q
 |[],_,⟨_,h,_⟩=>by cases h
 |a::l,h,⟨x,b,f,hp⟩=>by
  have m:=List.countP_mono_left (l:=l) fun y d=>h y<|List.mem_cons_of_mem _ d
  have k:=h a List.mem_cons_self;rw[List.countP_cons,List.countP_cons];rcases List.mem_cons.1 b with e|b
  ·rw[<-e,f,hp];simp;omega
  ·have i:=Zo (l:=l) (fun y d=>h y<|List.mem_cons_of_mem _ d) ⟨x,b,f,hp⟩;cases j:p a with
   |false=>simp;omega
   |true=>rw[k j];simp;omega
theorem Wk{c:At}{t g w:Int}{n:Nat}{a b:Int}(h:Bf (Uq c t g w) a b)(e:a∈BN n):NH c t g w n a<NH c t g w n b:=by
 have:=Zo (p:=Wd c t g w a) (q:=Wd c t g w b) (l:=BN n) (fun x _ d=>Ei.2<|W8 (Ei.1 d) h) ⟨a,e,Ei.2 h,Bool.eq_false_iff.2 fun z=>Nj (Ei.1 z)<|Ei.1 z⟩;unfold NH;omega
theorem Ow{c:At}{t g w:Int}{n:Nat}{a:Int}(b:a∈BN n):1<=NH c t g w n a/\NH c t g w n a<=(n:Int):=by
 have:=Zo (p:=Wd c t g w a) (q:=fun _=>true) (l:=BN n) (fun _ _ _=>rfl) ⟨a,b,rfl,Bool.eq_false_iff.2 fun z=>Nj (Ei.1 z)<|Ei.1 z⟩;rw[List.countP_true,Dw]at this;unfold NH;omega
theorem Aga{c:At}{t g w:Int}{n:Nat}{a b:Int}(f:a∈BN n)(e:b∈BN n)(h:a≠b):NH c t g w n a≠NH c t g w n b:=by
 have d:Bf (Uq c t g w) a b\/Bf (Uq c t g w) b a:=by
  unfold Bf;grind
 rcases d with x|x
 ·have:=Wk x f;omega
 ·have:=Wk x e;omega
end Go.Sp
namespace Go.Pe
open Go.Det
section
open List Int Prod
namespace T28
def T(l:List Z):Tr:=tree fJ false 9 28<|Af ([zp ze]) l
def L1(v0:List Z)(v3:Int):Tr:=re ((T []))<|Ap 19 [(0,.dat (zp ze) v0),(3,.dat i64 v3)] [] 0
theorem Ai(l:List Z):T l=L1 l 0:=by kernel_rfl
theorem Al(v0:List Z)(v3:Int):stepT fJ (L1 v0 v3)=let a:=getD v0 (toNat v3) [];let b':=decide (v3<(length v0:Int));.ite b' (.ck (decide (0<=v3)&&b')<|.cd (length a<=9223372036854775807)<|.ite (Sp.Ao a !=0) (.leaf (.dat i64<|Sp.Ao a) [])<|L1 v0<|zd .i64<|v3+1) (.leaf (.dat i64 (0:Int)) []):=by kernel_rfl
end T28
end
end Go.Pe
namespace Go.Sp
theorem Xa(s:Z)(l:List Z):B8 (s::l)=if Ao s≠0 then Ao s else B8 l:=by rw[B8]
end Go.Sp
namespace Go.Pe
open Go.Det
theorem jO:Cr fJ:=Aa T78.zX AI
namespace T28
theorem loop{Q:PV->Ob->Prop}(l:List Z)(m:l.length<=1000000)(b:∀s∈l,s.length<=9223372036854775807):∀(r:List Z) (i:Nat),l.drop i=r->i<=l.length->(∀ob,Q (.dat i64<|Sp.B8 r) ob)->Ends fJ (L1 l (i:Int)) Q
 |[],i,h,e,a=>by
  have:=drop_nil h e;exact zl (Al ..) (zf (w8 ae)<|zm<|a _)
 |x::r,i,h,e,a=>by
  obtain⟨f,k,o⟩:=drop_cons (d:=([]:Z)) h;have j:=b x (List.mem_of_mem_drop<|by rw[h];exact List.mem_cons_self ..);have n:=wn (i:=i) ae;rw[Sp.Xa]at a;refine zl (Al ..) ?_;conv=>zeta
  rw[zh,k,n];refine zc (w4 ae) (zc (ad ae ae)<|zc (w4 j)<|zr (fun c=>zm ?_)<|fun c=>loop l m b r (i+1) o f ?_)
  ·have c:Sp.Ao x≠0:=by simpa using c
   rw[wd c]at a;exact a _
  ·have c:Sp.Ao x=0:=by simpa using c
   rw[wc<|by rw[c];decide]at a;exact a
theorem ok:Ae A1 28 Ahn:=by
 refine C3 jO<|fun(l:List Z) a=>?_;have a:(decide (l.length<=1000000)&&l.all fun s=>decide (s.length<=9223372036854775807))=true:=a;rw[zj,w5,List.all_eq_true]at a;exact Ends.eq (Ai l)<|loop l a.1 (fun s h=>w6<|a.2 s h) l 0 rfl (Nat.zero_le _) (fun ob=>Ac.of rfl rfl rfl)
end T28
end Go.Pe
namespace Go.Sp
theorem AbM{c:At}(f:KS c 5 4=true):KS c 6 4=true:=by
 unfold KS Il EH at f ⊢;simp only[zj,w5,List.all_eq_true]at f ⊢;obtain⟨⟨⟨a,b⟩,d⟩,s,l,e⟩:=f;refine⟨⟨⟨by omega,by omega⟩,by omega⟩,fun x i=>?_,fun x i=>?_,e⟩
 ·obtain⟨⟨⟨⟨h,p⟩,q⟩,r⟩,u⟩:=s x i;exact⟨⟨⟨⟨by omega,p⟩,q⟩,r⟩,u⟩
 ·obtain⟨⟨⟨⟨⟨m,h⟩,k⟩,p⟩,q⟩,r⟩:=l x i;exact⟨⟨⟨⟨⟨m,by omega⟩,by omega⟩,p⟩,q⟩,r⟩
theorem K2(c:At)(t g w:Int):(O5 c t g w).length=c.1.length:=by
 unfold O5;rw[List.length_map,Dw]
theorem Z0{c:At}{t g w:Int}{i:Nat}(h:i<c.1.length):(O5 c t g w).getD i 0=NH c t g w c.1.length (i:Int):=by
 have l:i<(O5 c t g w).length:=by rw[K2];exact h
 have e:(O5 c t g w)[i]=NH c t g w c.1.length (i:Int):=by simp[O5,BN]
 rw[zi,List.getElem?_eq_getElem l,Option.getD_some,e]
end Go.Sp
namespace Go.Pe
open Sp
open Go.Det
open Go.Sp (At)
theorem vD:Cr GR:=Aa XH<|Aa T7.ok<|Aa T11.ok<|Aa T16.ok<|Aa T12.ok<|Aa T14.ok<|Aa T13.ok<|Aa T22.ok<|Aa T21.ok<|Aa T28.ok<|Aa T29.ok<|Aa T30.ok<|Aa T31.ok<|Aa T32.ok<|Aa T33.ok AI
abbrev OX:Am:=LX
namespace T5
variable {Q:PV->Ob->Prop}{c:At}{t g w:Int}
theorem wrp(i:Nat)(a:i<100):zd .i64 ((i:Int)+1)=((i+1:Nat):Int):=by rw[wr _ ae ae];omega
theorem inner(f:DG c t g=true)(l:DG c t w=true){n:Nat}(H:n=c.1.length){i:Nat}(C:i<n){a b d e s:Bm}{sn:List Bool}(r:Ends GR (L7 t c (g,w) a b d e (O5 c t g w) s n (i+1) (n:Int) ((i+1:Nat):Int) (O9 c t g w<|i+1) sn) Q):∀u k:Nat,k+u=i->Ends GR (L6 t c (g,w) a b d e (O5 c t g w) s n (i+1) (i:Int) (k:Int) (n:Int) (i:Int) (O9 c t g w<|i+1) sn) Q
 |0,k,j=>by
  have B:=B6 f;have j:k=i:=j;refine zl (CL ..) (zf (w8 ae) ?_);rw[wrp i ae];exact r
 |u+1,k,j=>by
  have B:=B6 f;have D:=Vc (c:=c) (t:=t) (g:=g) (w:=w) (n:=i+1) (i:=k) ae;have E:=Vc (c:=c) (t:=t) (g:=g) (w:=w) (n:=i+1) (i:=i) ae;have y:=Z0 (c:=c) (t:=t) (g:=g) (w:=w) (i:=k) ae;have F:=Z0 (c:=c) (t:=t) (g:=g) (w:=w) (i:=i) ae;have m:=cH f l (i:=k) ae;have x:=cH f l (i:=i) ae;have v:=m.cmp x;have mk:(k:Int)∈BN c.1.length:=ER.2 ae;have G:(i:Int)∈BN c.1.length:=ER.2 ae;have p:(decide ((0:Int)<=(k:Int))&&decide ((k:Int)<((O5 c t g w).length:Int)))=true:=Hv (by rw[K2];omega);have q:(decide ((0:Int)<=(i:Int))&&decide ((i:Int)<((O5 c t g w).length:Int)))=true:=Hv (by rw[K2];omega);have nx:=inner f l H C r u (k+1) ae;refine zl (CL ..) ?_;conv=>zeta
  rw[zh,zh,D,E,y,F,wrp k ae,Qs];refine zc (w4 ae) (zc (Hv ae)<|zc (w4 ae) (zc (Hv ae)<|zc (w4 ae)<|zc (Ab (m.num af)<|x.BV af)<|zr (fun z=>?_)<|fun z=>?_))
  ·have z:=w6 z;have A:¬Uq c t g w (k:Int)<Uq c t g w (i:Int):=fun h=>by
    rw[v,wd h]at z;exact wh z af
   have o:=Wk (c:=c) (t:=t) (g:=g) (w:=w) (n:=c.1.length) (a:=(k:Int)) (b:=(i:Int)) (by unfold Sp.Bf;grind) mk;have z2:¬CW (Sp.gtT c t g w (k:Int)) (Sp.gtT c t g w (i:Int))<0:=ae
   exact zc p (zc q<|zf (w8 ae)<|zf (w8 z2) nx)
  ·have z:=w7 z;have A:Uq c t g w (k:Int)<Uq c t g w (i:Int):=by
    rw[v]at z;grind
   have o:=Wk (c:=c) (t:=t) (g:=g) (w:=w) (n:=c.1.length) (a:=(i:Int)) (b:=(k:Int)) (by unfold Sp.Bf;grind) G;have z2:CW (Sp.gtT c t g w (k:Int)) (Sp.gtT c t g w (i:Int))<0:=ae
   exact zc (w4 z2) (zc p<|zc q<|zf (w8 ae) nx)
structure Hol(c:At)(t g w:Int)(i:Nat)(j:Int)(sn:List Bool):Prop where
 tg:VB c t j g=NG c t j g
 tw:VB c t j w=NG c t j w
 ng:zq 114 (NG c t j g) (CA c t (i:Int) g)
 nw:zq 114 (NG c t j w) (CA c t (i:Int) w)
 e:(zd .i64 (wT c t j g+wT c t j w) !=0)=false
 l:(decide (2<=2)&&true&&(decide (2<=1000000)&&zn [NG c t j g,NG c t j w] fun s=>decide (s.length<=9223372036854775807)))=true
 r:(B8 [NG c t j g,NG c t j w] !=0)=false
 b:(decide ((0:Int)<=j)&&decide (j<((O5 c t g w).length:Int)))=true
 p:zd .i64 (List.getD (O5 c t g w) (z7 j) 0-1)=NH c t g w c.1.length (i:Int)-1
 p1:decide (List.getD (O5 c t g w) (z7 j) 0<1)=false
 p2:decide (List.getD (O5 c t g w) (z7 j) 0>((O5 c t g w).length:Int))=false
 o:(decide ((0:Int)<=NH c t g w c.1.length (i:Int)-1)&&decide (NH c t g w c.1.length (i:Int)-1<(c.1.length:Int)))=true
 o1:decide (z7 (NH c t g w c.1.length (i:Int)-1)<sn.length)=true
theorem hol(o:DG c t g=true)(r:DG c t w=true)(f:KS c 5 4=true){i:Nat}{j:Int}(s:j=(i:Int))(b:i<c.1.length){sn:List Bool}(y:sn.length=c.1.length):Hol c t g w i j sn:=by
 subst s;have v:=B6 o;have q:=Fg o b;have h:=Fg r b;have m:=Qm f q;have k:=Qm f h;have op:∀ {l:Int},Nf c t (i:Int) l=true->Cz 114 (CA c t (i:Int) l)->VB c t (i:Int) l=NG c t (i:Int) l/\wT c t (i:Int) l=0:=fun {l} a z=>by
  have e:SX c t (i:Int) l=0:=w6 ((zj _ _).mp a).2;unfold VB wT;rw[e];exact⟨(zt z af).1.t,(zt z af).2⟩
 have ng:zq 114 (NG c t (i:Int) g) (CA c t (i:Int) g):=⟨rfl,m⟩;have nw:zq 114 (NG c t (i:Int) w) (CA c t (i:Int) w):=⟨rfl,k⟩;have a1:=op q m;have a2:=op h k;have x:=ng.len af;have lw:=nw.len af;have d:=Z0 (c:=c) (t:=t) (g:=g) (w:=w) b;have u:=Ow (c:=c) (t:=t) (g:=g) (w:=w) (n:=c.1.length) (a:=(i:Int)) (ER.2 ae);refine⟨a1.1,a2.1,ng,nw,by rw[a1.2,a2.2];rfl,?_,?_,Hv (by rw[K2];omega),?_,?_,?_,Hv ae,w4 ae⟩
 ·rw[zk,zk,List.all_nil,w4 (p:=(NG c t (i:Int) g).length<=9223372036854775807) ae,w4 (p:=(NG c t (i:Int) w).length<=9223372036854775807) ae];rfl
 ·unfold B8 B8 B8;rw[ng.check af,nw.check af];rfl
 ·rw[zh,d];exact wr _ ae ae
 ·rw[zh,d];exact w8 ae
 ·rw[zh,d,K2];exact w8 ae
theorem fin(m:DG c t g=true)(f:KS c 5 4=true){s:Bm}(n:s=NL c t g)(l:∀ob,Q (.dat .bool true) ob):Ends GR (L5 (NL c t g) (Az<|SP c t g) (Az<|SY c t g) (fO c t g) s) Q:=by
 have u:(c.1.length:Int)<=5:=(LO f).2.2;have e:∀i:Nat,i<c.1.length->Cz 114 (CA c t (i:Int) g):=fun i j=>Qm f<|Fg m j
 have q:Oo c<=c.1.length:=Nat.div_le_self ..;have x:zq 576 (NL c t g) (HY c t g):=⟨rfl,(LK e c.1.length 0 ae).mono ae⟩;have a:zq 576 (Az<|SP c t g) (SP c t g):=⟨rfl,(LK e (Oo c) 0 ae).mono ae⟩;have b:zq 576 (Az<|SY c t g) (SY c t g):=⟨rfl,(LK e (c.1.length-Oo c) (Oo c) ae).mono ae⟩;have r:zq 582 (fO c t g) (Iz<|HY c t g):=⟨rfl,oA x.z⟩;have o:SP c t g+SY c t g=HY c t g:=by
  have:=gP c t g (Oo c) 0<|c.1.length-Oo c;rw[z6,show Oo c+(c.1.length-Oo c)=c.1.length by omega]at this;exact this.symm
 have h:=(a.BW b).t;rw[o]at h;have d:=r.DS x;have p:=d.abs.cmp AdZ;have k:=qX<|HY c t g;refine zl (Dl ..) ?_;conv=>zeta
 rw[n];refine zc (beq_self_eq_true _) (zc (Ab (a.num af)<|b.num af)<|zc (by rw[h];exact beq_self_eq_true _)<|zc (Ab (r.num af)<|x.BV af)<|zc (w4<|d.len af)<|zc (Ab (d.abs.num af)<|AdZ.BV af)<|zm ?_);rw[show decide (CW (A9<|DS (fO c t g)<|NL c t g) [49,47,50,48]<=0)=true from w4 (by
  rw[p];split
  ·decide
  ·rw[wc<|Rat.not_lt.2 k];decide)]
 exact l _
theorem WJ{sn:List Bool}{i:Nat}(d:∀j:Nat,i<=j->j<c.1.length->sn.getD (NH c t g w c.1.length (j:Int)-1).toNat false=false)(m:i<c.1.length):∀j:Nat,i+1<=j->j<c.1.length->(sn.set (NH c t g w c.1.length (i:Int)-1).toNat true).getD (NH c t g w c.1.length (j:Int)-1).toNat false=false:=fun j k e=>by
 have a:(i:Int)∈BN c.1.length:=ER.2 ae;have b:(j:Int)∈BN c.1.length:=ER.2 ae;have l:=Aga (c:=c) (t:=t) (g:=g) (w:=w) a b ae;have f:=Ow (c:=c) (t:=t) (g:=g) (w:=w) a;have h:=Ow (c:=c) (t:=t) (g:=g) (w:=w) b;have:=d j ae e;rw[zi]at this ⊢;rw[List.getElem?_set_ne ae];exact this
theorem loop(d:DG c t g=true)(m:DG c t w=true)(f:KS c 5 4=true)(u:∀ob,Q (.dat .bool true) ob):∀(k i:Nat) (s:Bm) (x:Rat) (sn:List Bool),i+k=c.1.length->zq (1+115*i) s x->x+Nc c t g i k=HY c t g->sn.length=c.1.length->(∀j:Nat,i<=j->j<c.1.length->sn.getD (NH c t g w c.1.length (j:Int)-1).toNat false=false)->Ends GR (L7 t c (g,w) (NL c t g) (Az<|SP c t g) (Az<|SY c t g) (fO c t g) (O5 c t g w) s c.1.length i (c.1.length:Int) (i:Int) (O9 c t g w i) sn) Q
 |0,i,s,x,sn,y,h,a,n,q=>by
  have a:x+0=HY c t g:=a;rw[Rat.add_zero]at a;refine zl (C6 ..) (zf (w8 ae)<|fin d f ?_ u);rw[h.t,a];rfl
 |k+1,i,s,x,sn,y,h,a,n,q=>by
  have sh:=(Ey d).1;have z:(c.1.length:Int)<=5:=(LO f).2.2;have H:=hol d m f (i:=i) rfl ae n;have a:x+(CA c t (i:Int) g+Nc c t g (i+1) k)=HY c t g:=a;rw[<-zz]at a;have nx:=loop d m f u k (i+1) _ _ (sn.set (NH c t g w c.1.length (i:Int)-1).toNat true) ae ((h.BW H.ng).mono ae) a (by rw[List.length_set];exact n) (WJ q ae);have v:=inner d m rfl ae nx i 0 (z6 _);rw[R8]at v;refine zl (C6 ..) ?_;conv=>zeta
  rw[H.tg,H.tw,H.p];refine zc (w4 ae) (zc rfl (zc sh<|zc rfl (zc sh<|zf H.e<|zc H.l<|zf H.r<|zc H.b<|zf H.p1<|zc H.b<|zf H.p2<|zc H.b<|zc H.o<|zc H.o1<|zf (q i (Nat.le_refl _) ae)<|zl (DM ..) ?_)));(conv=>zeta);rw[H.p,Qs];exact zc H.b (zc H.o<|zc H.o1<|zc (Ab (h.num ae)<|H.ng.num af)<|zc (Ab (H.nw.num af)<|H.ng.BV af)<|zc (Ab (Ab rfl (w4 rfl))<|w4 ae) v)
theorem start(d:DG c t g=true)(h:DG c t w=true)(f:KS c 5 4=true)(u:∀ob,Q (.dat .bool true) ob):Ends GR (L3 t c (g,w) (NL c t g) (Az<|SP c t g) (Az<|SY c t g) (fO c t g) (O5 c t g w) [48] c.1.length (c.1.length:Int) 0<|zu c.1.length false) Q:=by
 have sh:=(Ey d).1;have v:(c.1.length:Int)<=5:=(LO f).2.2;have n0:0<c.1.length:=List.length_pos_iff.2 (GV (Ey d).2.1).s1.1;have k:∀j:Nat,0<=j->j<c.1.length->(zu c.1.length false).getD (NH c t g w c.1.length (j:Int)-1).toNat false=false:=fun j _ _=>by
  rw[zi,List.getElem?_replicate];split<;>rfl
 have H:=hol d h f (i:=0) (j:=0) rfl n0 (List.length_replicate (n:=c.1.length) (a:=false));have e:(0:Rat)+(CA c t ((0:Nat):Int) g+Nc c t g 1 (c.1.length-1))=HY c t g:=by
  rw[Rat.zero_add];unfold HY;obtain⟨m,s⟩:∃m,c.1.length=m+1:=⟨c.1.length-1,by omega⟩;rw[s];rfl
 rw[<-zz]at e;have nx:=loop d h f u (c.1.length-1) 1 _ _ ((zu c.1.length false).set (NH c t g w c.1.length ((0:Nat):Int)-1).toNat true) ae ((IV.BW H.ng).mono ae) e (by rw[List.length_set,List.length_replicate])<|WJ k n0;have q:=inner d h rfl n0 nx 0 0 rfl;rw[R8]at q;refine zl (Bo ..) ?_;conv=>zeta
 rw[H.tg,H.tw,H.p];refine zc (w4 ae)<|zc rfl (zc sh<|zc rfl (zc sh<|zf H.e<|zc H.l<|zf H.r<|zc H.b<|zf H.p1<|zc H.b<|zf H.p2<|zc H.b<|zc H.o<|zc H.o1<|zf (k 0 (Nat.le_refl _) n0)<|zl (BX ..) ?_));(conv=>zeta);rw[H.p];exact zc H.b (zc H.o<|zc H.o1<|zc (Ab (IV.num af)<|H.ng.num af)<|zc (Ab (H.nw.num af)<|H.ng.BV af)<|zc rfl q)
theorem ok:Ae A1 5 OX:=by
 refine C3 vD<|fun(i:At×Int×Int×Int) h=>?_;obtain⟨c,t,g,w⟩:=i;have h:(rQ c&&c.2.1.all PD)=true:=h;rw[zj]at h;obtain⟨hc,hT⟩:=h;have l:∀ob,Ac LX (c,(t,(g,w))) (.dat .bool true) ob:=fun ob=>Ac.of rfl rfl rfl
 have v:YZ 5 4=true:=rfl;refine Ends.eq (Ai c t (g,w))<|zc rfl (zf rfl (zc hc<|zc (Ab v hT)<|zr (fun _=>zc rfl (zm<|l _))<|fun f=>zc rfl (zr (fun _=>zc rfl (zm<|l _))<|fun j=>zc rfl (zc rfl (zr (fun _=>zc rfl (zm<|l _))<|fun m=>zc rfl (zc rfl (zr (fun _=>zc rfl (zm<|l _))<|fun n=>?_)))))));have f:(!KS c 5 4)=false:=f;have f:KS c 5 4=true:=by simpa using f
 have j:ME c t=false:=j;have m:Hc c g=false:=m;have n:Hc c w=false:=n;obtain⟨k,sh⟩:=AfQ f v;have E:=AbM f;have e:GM c=true:=Ab sh (by rw[E,Bool.or_true]);have d:En c t g=0:=by unfold En;rw[j,m];exact rC k
 have L:En c t w=0:=by unfold En;rw[j,n];exact rC k
 have u:DW c t g w=0:=by unfold DW;rw[j,m,n];exact rC k
 have y:=(Hu e).2 t g d;have A:=(Hu e).2 t w L;have P:(c.1.length:Int)<=5:=(LO f).2.2;have q:∀i:Nat,i<c.1.length->Cz 114 (CA c t (i:Int) g):=fun i h=>Qm f<|Fg y h
 have O:Oo c<=c.1.length:=Nat.div_le_self ..;have o:Cz 576 (HY c t g):=(LK q c.1.length 0 ae).mono ae;have x:zq 576 (NL c t g) (HY c t g):=⟨rfl,o⟩;have a:zq 576 (Az<|SP c t g) (SP c t g):=⟨rfl,(LK q (Oo c) 0 ae).mono ae⟩;have b:zq 576 (Az<|SY c t g) (SY c t g):=⟨rfl,(LK q (c.1.length-Oo c) (Oo c) ae).mono ae⟩;have r:zq 582 (fO c t g) (Iz<|HY c t g):=⟨rfl,oA x.z⟩;have K:Sp.exT c t g=NL c t g:=by unfold Sp.exT;rw[d];exact(zt o af).1.t
 have B:Sp.exE c t g=0:=by unfold Sp.exE;rw[d];exact(zt o af).2
 have J:Sp.raT c t g=fO c t g:=by unfold Sp.raT;rw[d];exact(zt r.z af).1.t
 have C:Sp.raE c t g=0:=by unfold Sp.raE;rw[d];exact(zt r.z af).2
 have I:Sp.niA c t g=Az (SP c t g):=by unfold Sp.niA;rw[wc<|by rw[d];decide]
 have nb:Sp.niB c t g=Az (SY c t g):=by unfold Sp.niB;rw[wc<|by rw[d];decide]
 have M:Wx c t g w=O5 c t g w:=by
  unfold Wx;rw[wc<|by rw[u];decide];exact AdA ..
 have s1:55<=Vr c t g w/\Vr c t g w<=155:=by
  unfold Vr tQ;rw[wc<|by rw[u];decide];split
  ·omega
  ·split<;>omega
 have S:=a.len af;have N:=b.len af;have R:=x.len af;have lr:=r.len af;have G:(decide (4<=4)&&true&&(decide (4<=1000000)&&zn [NL c t g,Az<|SP c t g,Az<|SY c t g,fO c t g] fun s=>decide (s.length<=9223372036854775807)))=true:=by
  rw[zk,zk,zk,zk,List.all_nil,w4 (p:=(NL c t g).length<=9223372036854775807) ae,w4 (p:=(Az<|SP c t g).length<=9223372036854775807) ae,w4 (p:=(Az<|SY c t g).length<=9223372036854775807) ae,w4 (p:=(fO c t g).length<=9223372036854775807) ae];rfl
 have F:(B8 [NL c t g,Az<|SP c t g,Az<|SY c t g,fO c t g] !=0)=false:=by
  unfold B8 B8 B8 B8 B8;rw[x.check af,a.check af,b.check af,r.check af];rfl
 have st:=start (Q:=Ac LX (c,(t,(g,w)))) y A f l;have D:(O5 c t g w).length=c.1.length:=K2 ..;have H:Ends GR (L2 t c (g,w) (Sp.exT c t g) (Sp.exE c t g) (Sp.niA c t g) (Sp.niB c t g) (En c t g) (Sp.raT c t g) (Sp.raE c t g) (Wx c t g w) (DW c t g w) (Vr c t g w)<|DW c t g w) (Ac LX (c,(t,(g,w)))):=by
  refine zl (AA ..) ?_;conv=>zeta
  rw[K,B,I,nb,d,J,C,M,u,D,zh];exact zf rfl (zc G<|zf F<|zf (w8 ae)<|zf (w8 ae)<|zf (by simp)<|zc (Ab (Ab (Ab (w4 ae)<|w4 rfl)<|w4 ae)<|w4 ae) st)
 exact zl (Al ..)<|zc rfl (zc e<|zc rfl (zc e<|zc rfl (zc e<|zc rfl (zc rfl (zc e<|zc rfl (zc rfl (zc e H)))))))
end T5
open Go.Sp (At Bw)
theorem Aib{x:(BF LX.ins).T}(h:AaL LX.ins x):LX.pre x=true:=Ab (uZ h.1)<|iH h.1
end Go.Pe
