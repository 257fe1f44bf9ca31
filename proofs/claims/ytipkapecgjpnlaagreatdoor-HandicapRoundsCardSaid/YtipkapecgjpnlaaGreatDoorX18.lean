import Derived.Test.YtipkapecgjpnlaaGreatDoorX10
/- A part of a proof; no law is stated here. -/
noncomputable section
open Go.IntKind renaming wrap -> Za
open Go.Pe.Ends renaming tt -> Zb, ite -> Zp, ff -> Zq, leaf -> Zr, AO -> Zs
open List renaming take_of_length_le -> Zc, take_zero -> Ze, getD_eq_getElem?_getD -> Zf, getElem?_eq_getElem -> Zh, length_map -> Zj, mem_cons_of_mem -> Zk, mem_cons_self -> Zm, getElem_mem -> Zt, getD -> Zu
open Go.Pe.Sh renaming str -> Zd, pair -> Zg, list -> Zi
open Int renaming le_refl -> Zl, toNat -> Zn, toNat_natCast -> Zo
namespace Go.Pe
open Sp
open Go.Det
section
open List Int Prod
namespace T6
def T(h:List (Int×Int))(c:Y×List (Int×Y))(n:Int):Tr:=tree DB false 9 6<|Af ([Zi<|Zg i64 i64,Zg Zd<|Zi<|Zg i64 Zd,Sh.int IntKind.i64]) (h,c,n)
def L1(v0:List (Int×Int))(v2 m:Int)(v9 g:List Int)(e d f i b:Int)(k:List (Int×Y))(o1:Y)(j:Nat)(n:Y)(a:List (Int×Y)):Tr:=re ((T [] ([],[]) 0).L.R.R.L.R.L.R.R.R.L.L.L.R.R.R.L)<|Ba 248 [(0,.dat (Zi<|Zg i64 i64) v0),(2,.dat i64 v2),(4,.ptr 0 0),(7,.dat i64 m),(9,.dat (Zi i64) v9),(11,.dat (Zi i64) g),(13,.dat i64 e),(14,.dat i64 d),(15,.dat i64 f),(16,.bl true),(17,.ptr 1 0),(99,.dat i64 i),(100,.dat i64 b)] [(2,.arr false 58 (Zg i64 Zd) k),(1,.box [.dat Zd o1,.sl 2 2 0 j none]),(0,.box [.dat Zd n,.dat (Zi<|Zg i64 Zd) a])] 3
theorem AF(h:List (Int×Int))(c:Y×List (Int×Y))(n:Int):T h c n=let a:Tr:=.ck true<|.leaf (.dat Sh.bool true) [];let b':=decide (length h<=1000000);let d:=Za .i64<|n+1;let e:Tr:=.leaf (.bl false) [];let b:=(length h:Int);.ck true (.ite false a<|.di (b>18) a<|.ck b'<|.ite (Ap h !=0) a<|.cd (length h<=45)<|.ite (A0 h (fst c) (snd c) !=0) a<|.di (n<0) a<|.di (n>90) a<|.ck (decide (length h<=45)&&decide (length (fst c)<=100)&&decide (length (snd c)<=45))<|.ck b'<|.ck b'<|.ite (Za .i64 (Za .i64 (B9 h (fst c) (snd c) n+AZ h n)+AZ h d) !=0) e<|.ite ((↑(length<|Db h n):Int) !=b) e<|.ite ((↑(length<|Db h d):Int) !=b) e<|.cd ((3*(0+length (snd c))+2000)*24<=562949953421312)<|L1 h n (CB h (fst c) (snd c) n) (Db h n) (Db h d) 0 0 0 b 0 ([]++snd c) (fst c) (Nat.add 0<|length<|snd c) (fst c)<|snd c):=by kernel_rfl
def L2(v0:List (Int×Int))(v2 n:Int)(v9 i:List Int)(e d f:Int)(g:Bool)(j b:Int)(m:List (Int×Y))(o1:Y)(k:Nat)(o:Y)(a:List (Int×Y)):Tr:=re ((stepT DB<|L1 [] 0 0 [] [] 0 0 0 0 0 [] [] 0 [] []).L.L.L.L.L.L.L.R.L.L.R.L.L.L.L.L.L.L.L.L.L)<|Ba 248 [(0,.dat (Zi<|Zg i64 i64) v0),(2,.dat i64 v2),(4,.ptr 0 0),(7,.dat i64 n),(9,.dat (Zi i64) v9),(11,.dat (Zi i64) i),(13,.dat i64 e),(14,.dat i64 d),(15,.dat i64 f),(16,.dat Sh.bool g),(17,.ptr 1 0),(99,.dat i64 j),(100,.dat i64 b)] [(2,.arr false 58 (Zg i64 Zd) m),(1,.box [.dat Zd o1,.sl 2 2 0 k none]),(0,.box [.dat Zd o,.dat (Zi<|Zg i64 Zd) a])] 3
def L3(n g e i v20 k f a b:Int)(m:List (Int×Y))(o1:Y)(j:Nat)(o:Y)(d:List (Int×Y)):Tr:=re ((stepT DB<|L1 [] 0 0 [] [] 0 0 0 0 0 [] [] 0 [] []).R.L)<|Ba 248 [(4,.ptr 0 0),(7,.dat i64 n),(13,.dat i64 g),(14,.dat i64 e),(15,.dat i64 i),(16,.bl true),(17,.ptr 1 0),(20,.dat i64 v20),(21,.dat i64 k),(22,.dat i64 f),(196,.dat i64 a),(197,.dat i64 b)] [(2,.arr false 58 (Zg i64 Zd) m),(1,.box [.dat Zd o1,.sl 2 2 0 j none]),(0,.box [.dat Zd o,.dat (Zi<|Zg i64 Zd) d])] 3
theorem As(v0:List (Int×Int))(v2 m:Int)(v9 f:List Int)(j k i g a:Int)(e:List (Int×Y))(o1:Y)(d:Nat)(o:Y)(b:List (Int×Y)):stepT DB (L1 v0 v2 m v9 f j k i g a e o1 d o b)=let b':=getD b (toNat a) (0,[]);let n:=decide (0<=a)&&decide (a<(length v9:Int));let s:=getD f (toNat a) 0-getD v9 (toNat a) 0;let t:=decide (0<=a)&&decide (a<(length f:Int));let u:=Za .i64<|k+getD v9 (toNat a) 0;let h':=decide (0<=a)&&decide (a<(↑d:Int));let y:=decide (toNat a<length e);let l':=getD e (toNat a) (0,[]);let x:=Za .i64<|a+1;let w:=Za .i64<|i+Za .i64 s;let q:=decide (fst b'>0);let v:=Za .i64<|j+fst b';let r:=L2 v0 v2 m v9 f v u w q g x e o1 d o b;.di (a<g) (.ck (decide (0<=a)&&decide (a<(length b:Int)))<|.ck n<|.ck t<|.ck n<|.ck t<|.ck n<|.di (Za .i64 s<0) (.leaf (.bl false) [])<|.ck t<|.ck n<|.di (Za .i64 s>1) (.leaf (.bl false) [])<|.ite q (.di (fst b'<99) (.cd (0<(↑d:Int))<|.cd (0<length e)<|.cd (0<(length b:Int))<|.ite (fst (getD e 0 (0,[]))==fst (getD b 0 (0,[]))) (.ck h'<|.ck y<|.ck h'<|.ck y<|L2 v0 v2 m v9 f v u w q g x (set e (toNat a) (Za .i64<|fst l'+1,snd l')) o1 d o b) r) r) r) (.ck (decide (0+d<=length e)&&true&&true&&(decide (length v0<=45)&&decide (length o1<=100)&&decide (length (take d e)<=45)))<|L3 m j k i (CB v0 o1 (take d e) v2) (B9 v0 o1 (take d e) v2) 0 ((length v0:Int)) 0 e o1 d o b):=by kernel_rfl
def L4(v0:List (Int×Int))(v2 m:Int)(v9 g:List Int)(e d f i b:Int)(k:List (Int×Y))(o1:Y)(j:Nat)(n:Y)(a:List (Int×Y)):Tr:=re ((stepT DB<|L2 [] 0 0 [] [] 0 0 0 false 0 0 [] [] 0 [] []).L.L.R.L.L.L.L.L.R.L.L.R.L.L.L.L.L.L.L.L.L.L)<|Ba 248 [(0,.dat (Zi<|Zg i64 i64) v0),(2,.dat i64 v2),(4,.ptr 0 0),(7,.dat i64 m),(9,.dat (Zi i64) v9),(11,.dat (Zi i64) g),(13,.dat i64 e),(14,.dat i64 d),(15,.dat i64 f),(16,.bl false),(17,.ptr 1 0),(99,.dat i64 i),(100,.dat i64 b)] [(2,.arr false 58 (Zg i64 Zd) k),(1,.box [.dat Zd o1,.sl 2 2 0 j none]),(0,.box [.dat Zd n,.dat (Zi<|Zg i64 Zd) a])] 3
def L5(o g e j:Int)(i:Bool)(v20 m f a b:Int)(n:List (Int×Y))(o1:Y)(k:Nat)(q:Y)(d:List (Int×Y)):Tr:=re ((stepT DB<|L2 [] 0 0 [] [] 0 0 0 false 0 0 [] [] 0 [] []).R.L)<|Ba 248 [(4,.ptr 0 0),(7,.dat i64 o),(13,.dat i64 g),(14,.dat i64 e),(15,.dat i64 j),(16,.dat Sh.bool i),(17,.ptr 1 0),(20,.dat i64 v20),(21,.dat i64 m),(22,.dat i64 f),(196,.dat i64 a),(197,.dat i64 b)] [(2,.arr false 58 (Zg i64 Zd) n),(1,.box [.dat Zd o1,.sl 2 2 0 k none]),(0,.box [.dat Zd q,.dat (Zi<|Zg i64 Zd) d])] 3
theorem BV(v0:List (Int×Int))(v2 o:Int)(v9 e:List Int)(j k m:Int)(n:Bool)(g a:Int)(f:List (Int×Y))(o1:Y)(d:Nat)(r:Y)(b:List (Int×Y)):stepT DB (L2 v0 v2 o v9 e j k m n g a f o1 d r b)=let i:=decide (0<=a)&&decide (a<(length v9:Int));let z:=getD e (toNat a) 0-getD v9 (toNat a) 0;let u:=getD b (toNat a) (0,[]);let q:=decide (0<=a)&&decide (a<(length e:Int));let t:=Za .i64<|k+getD v9 (toNat a) 0;let s:=decide (0<=a)&&decide (a<(↑d:Int));let l':=decide (toNat a<length f);let w:=Za .i64<|a+1;let n':Tr:=.leaf (.bl false) [];let p':=fst (getD f 0 (0,[]))==fst (getD b 0 (0,[]));let x:=(length b:Int);let D:=getD f (toNat a) (0,[]);let h':=Za .i64<|m+Za .i64 z;let A:=set f (toNat a) (Za .i64<|fst D+1,snd D);let v:=Za .i64<|j+fst u;let o':=decide (fst u>0);let C:=decide (Za .i64 z<0);let B:=decide (Za .i64 z>1);let y:=L2 v0 v2 o v9 e v t h' o' g w f o1 d r b;let b':=L4 v0 v2 o v9 e v t h' g w f o1 d r b;.di (a<g) (.ck (decide (0<=a)&&decide (a<x))<|.ite n (.ck i<|.ck q<|.ck i<|.ck q<|.ck i<|.ite C n'<|.ck q<|.ck i<|.ite B n'<|.ite o' (.di (fst u<99) (.cd (0<(↑d:Int))<|.cd (0<length f)<|.cd (0<x)<|.ite p' (.ck s<|.ck l'<|.ck s<|.ck l'<|L2 v0 v2 o v9 e v t h' o' g w A o1 d r b) y) y) y)<|.ck i<|.ck q<|.ck i<|.ck q<|.ck i<|.ite C n'<|.ck q<|.ck i<|.ite B n'<|.ite o' (.di (fst u<99) (.cd (0<(↑d:Int))<|.cd (0<length f)<|.cd (0<x)<|.ite p' (.ck s<|.ck l'<|.ck s<|.ck l'<|L4 v0 v2 o v9 e v t h' g w A o1 d r b) b') b') b') (.ck (decide (0+d<=length f)&&true&&true&&(decide (length v0<=45)&&decide (length o1<=100)&&decide (length (take d f)<=45)))<|L5 o j k m n (CB v0 o1 (take d f) v2) (B9 v0 o1 (take d f) v2) 0 ((length v0:Int)) 0 f o1 d r b):=by kernel_rfl
def L6(n g e i v20 k f a b:Int)(m:List (Int×Y))(o1:Y)(j:Nat)(o:Y)(d:List (Int×Y)):Tr:=re ((stepT DB<|L4 [] 0 0 [] [] 0 0 0 0 0 [] [] 0 [] []).R.L)<|Ba 248 [(4,.ptr 0 0),(7,.dat i64 n),(13,.dat i64 g),(14,.dat i64 e),(15,.dat i64 i),(16,.bl false),(17,.ptr 1 0),(20,.dat i64 v20),(21,.dat i64 k),(22,.dat i64 f),(196,.dat i64 a),(197,.dat i64 b)] [(2,.arr false 58 (Zg i64 Zd) m),(1,.box [.dat Zd o1,.sl 2 2 0 j none]),(0,.box [.dat Zd o,.dat (Zi<|Zg i64 Zd) d])] 3
theorem UF(v0:List (Int×Int))(v2 m:Int)(v9 f:List Int)(j k i g a:Int)(e:List (Int×Y))(o1:Y)(d:Nat)(n:Y)(b:List (Int×Y)):stepT DB (L4 v0 v2 m v9 f j k i g a e o1 d n b)=let b':=decide (0<=a)&&decide (a<(length v9:Int));let o:=getD f (toNat a) 0-getD v9 (toNat a) 0;let r:=decide (0<=a)&&decide (a<(length f:Int));let s:=getD b (toNat a) (0,[]);let u:=Za .i64<|k+getD v9 (toNat a) 0;let h':=decide (0<=a)&&decide (a<(↑d:Int));let v:=decide (toNat a<length e);let x:=getD e (toNat a) (0,[]);let l':=Za .i64<|a+1;let w:=Za .i64<|i+Za .i64 o;let t:=Za .i64<|j+fst s;let q:=L4 v0 v2 m v9 f t u w g l' e o1 d n b;.di (a<g) (.ck (decide (0<=a)&&decide (a<(length b:Int)))<|.ck b'<|.ck r<|.ck b'<|.ck r<|.ck b'<|.di (Za .i64 o<0) (.leaf (.bl false) [])<|.ck r<|.ck b'<|.di (Za .i64 o>1) (.leaf (.bl false) [])<|.di (fst s>0) (.di (fst s<99) (.cd (0<(↑d:Int))<|.cd (0<length e)<|.cd (0<(length b:Int))<|.ite (fst (getD e 0 (0,[]))==fst (getD b 0 (0,[]))) (.ck h'<|.ck v<|.ck h'<|.ck v<|L4 v0 v2 m v9 f t u w g l' (set e (toNat a) (Za .i64<|fst x+1,snd x)) o1 d n b) q) q) q) (.ck (decide (0+d<=length e)&&true&&true&&(decide (length v0<=45)&&decide (length o1<=100)&&decide (length (take d e)<=45)))<|L6 m j k i (CB v0 o1 (take d e) v2) (B9 v0 o1 (take d e) v2) 0 ((length v0:Int)) 0 e o1 d n b):=by kernel_rfl
theorem UP(n g e j:Int)(i:Bool)(v20 m f d a:Int)(o:List (Int×Y))(o1:Y)(k:Nat)(q:Y)(b:List (Int×Y)):stepT DB (L5 n g e j i v20 m f d a o o1 k q b)=let b':Tr:=.leaf (.bl false) [];let r:Tr:=.di (v20>=n) (.leaf (.dat Sh.bool<|decide (Za .i64 (v20-n)<=f)) []) b';.di (a<d) (.ck (decide (0<=a)&&decide (a<(↑k:Int)))<|.cd (toNat a<length o)<|.ck (decide (0<=a)&&decide (a<(length b:Int)))<|L5 n g e j i v20 m (Za .i64<|f+Za .i64 (fst (getD o (toNat a) (0,[]))-fst (getD b (toNat a) (0,[])))) d (Za .i64<|a+1) o o1 k q b) (.ite (m==0) (.ite (j==1) (.di (n<=e) (.ite (!i) r<|.di (n<=g) r b') b') b') b'):=by kernel_rfl
theorem US(m k e g v20 j f d a:Int)(n:List (Int×Y))(o1:Y)(i:Nat)(q:Y)(b:List (Int×Y)):stepT DB (L6 m k e g v20 j f d a n o1 i q b)=let o:Tr:=.leaf (.bl false) [];.di (a<d) (.ck (decide (0<=a)&&decide (a<(↑i:Int)))<|.cd (toNat a<length n)<|.ck (decide (0<=a)&&decide (a<(length b:Int)))<|L6 m k e g v20 j (Za .i64<|f+Za .i64 (fst (getD n (toNat a) (0,[]))-fst (getD b (toNat a) (0,[])))) d (Za .i64<|a+1) n o1 i q b) (.ite (j==0) (.ite (g==1) (.di (m<=e) (.di (v20>=m) (.leaf (.dat Sh.bool<|decide (Za .i64 (v20-m)<=f)) []) o) o) o) o):=by kernel_rfl
end T6
end
end Go.Pe
namespace Go.Sp
theorem MV{x:CP}(h:Cf x=0):Vh x:=by
 unfold Cf at h;unfold Vh;by_cases a:x.2=[]\/x.2=[99]
 ·rw[wb a]at h;rw[wa<|by rintro(b|b)<;>rw[b]at a<;>simp at a];split at h
  ·cases h
  ·omega
 ·rw[wa a]at h;split at h
  ·next b=>
   rw[wb b];split at h
   ·assumption
   ·cases h
  ·cases h
theorem QU{x:CP}(h:Cf x=0)(b:Bool):Cf (JL b x)=0:=by
 unfold JL;split
 ·next k=>
  have o:=MV h;unfold Vh at o;unfold Cf at h ⊢;show(if x.2=[]\/x.2=[99]then _ else _)=(0:Int);by_cases a:x.2=[]\/x.2=[99]
  ·rw[wb a,wa];show ¬(x.1+1<1\/99<x.1+1);omega
  ·rw[wa a]at h;split at h
   ·next c=>
    rw[wb c]at o;omega
   ·cases h
 ·exact h
theorem Iy:∀ {l:List CP},(∀x∈l,Cf x=0)->Dd l=0
 |[],_=>rfl
 |x::l,h=>by
  rw[Dd,wb<|h x<|Zm ..];exact Iy fun y a=>h y<|Zk _ a
theorem OA{l:List CP}(h:∀x∈l,Cf x=0):∀x∈AI l,Cf x=0:=by
 cases l with
 |nil=>exact h
 |cons x l=>
  intro y a;rcases List.mem_cons.1 a with rfl|a
  ·exact QU (h x<|Zm ..) _
  ·obtain⟨z,b,rfl⟩:=List.mem_map.1 a;exact QU (h z<|Zk _ b) _
theorem Sb{p:Y}(h:isName p=true):p.length<=100:=by
 cases p with
 |nil=>exact Nat.zero_le _
 |cons x r=>
  simp only[isName,Bool.and_eq_true,w5]at h;rw[List.length_cons];omega
structure Rd(h:List (Int×Int))(p:Y)(l:List CP)(c:Int):Prop where
 H:Bo h
 he:Ap h=0
 n:h.length<=18
 lh:l.length=h.length
 e:∀x∈l,Cf x=0
 ce:A0 h p l=0
 c0:0<=c
 c1:c<=90
theorem Rd.Yx{h:List (Int×Int)}{p:Y}{l:List CP}{c:Int}(R:Rd h p l c):AZ h c=0/\AZ h (c+1)=0:=by
 have a:=R.c0;have b:=R.c1;rw[EN R.he,EN R.he];unfold Cb;rw[wa a8,wa a8];exact⟨rfl,rfl⟩
theorem Rd.mc{h:List (Int×Int)}{p:Y}{l:List CP}{c:Int}(R:Rd h p l c):A0 h p (AI l)=0:=by
 have k:=R.ce;unfold A0 at k ⊢;rw[A5,Iy<|OA R.e];rw[Iy R.e]at k;exact k
theorem Rd.Wi{h:List (Int×Int)}{p:Y}{l k:List CP}{c:Int}(R:Rd h p l c)(ck:A0 h p k=0):B9 h p k c=0/\CB h p k c=BN k (Ax h c):=by
 have e:B9 h p k c=0:=by
  have r:=R.Yx.1;rw[EN R.he]at r;unfold B9;rw[ck,r];rfl
 refine⟨e,?_⟩;unfold CB;rw[wb e]
end Go.Sp
namespace Go.Pe
open Sp
open Go.Det
open Go.Sp (CP)
theorem SB:Jx DB:=Ai Lr<|Ai T26.ok<|Ai T27.ok<|Ai T28.ok<|Ai T33.ok BB
namespace T6
abbrev B(i n:Int):Bool:=decide ((0:Int)<=i)&&decide (i<n)
def bd(M b:List Int)(l o:List CP)(on:Nat)(i s t r:Int)(K:Int->Int->Int->Int->List CP->Tr):Tr:=
 let g (a:List Int):=Zu a (Zn i) 0
 let x:=Zu l (Zn i) (0,[])
 let y:=Zu o (Zn i) (0,[])
 let d:=Za .i64 (g b-g M)
 let k:=K (Za .i64<|s+x.1) (Za .i64<|t+g M) (Za .i64<|r+d) (Za .i64<|i+1)
 .ite (B i M.length) (.ite (B i b.length) (.ite (B i M.length) (.ite (B i b.length) (.ite (B i M.length) (.ite (decide (d<0)) (.leaf (.bl false) [])<|.ite (B i b.length) (.ite (B i M.length) (.ite (decide (d>1)) (.leaf (.bl false) [])<|.ite (decide (x.1>0)) (.ite (decide (x.1<99)) (.ite (decide ((0:Int)<(on:Int))) (.ite (decide (0<o.length)) (.ite (decide ((0:Int)<(l.length:Int))) (.ite ((Zu o 0 (0,[])).1==(Zu l 0 (0,[])).1) (.ite (B i on) (.ite (decide (Zn i<o.length)) (.ite (B i on) (.ite (decide (Zn i<o.length)) (k<|List.set o (Zn i) (Za .i64<|y.1+1,y.2)) .fail) .fail) .fail) .fail)<|k o) .fail) .fail) .fail)<|k o)<|k o) .fail) .fail) .fail) .fail) .fail) .fail) .fail
variable {Q:PV->Ob->Prop}{h:List (Int×Int)}{p:Y}{l:List CP}{c:Int}
abbrev sS(l:List CP)(i:Nat):Int:=Bh<|l.take i
abbrev sM(h:List (Int×Int))(c:Int)(i:Nat):Int:=K5<|(Ax h c).take i
abbrev sR(h:List (Int×Int))(c:Int)(i:Nat):Int:=Ke (c % h.length+1)<|h.take i
theorem X4(R:Sp.Rd h p l c):∀i:Nat,i<=h.length->(0<=sS l i/\sS l i<=99*i)/\(-95*(i:Int)<=sM h c i/\sM h c i<=108*i)/\0<=sR h c i/\sR h c i<=i
 |0,_=>by
  unfold sS sM sR;rw[Ze,Ze,Ze];exact⟨⟨Zl _,Zl _⟩,⟨Zl _,Zl _⟩,Zl _,Zl _⟩
 |i+1,m=>by
  have k:=X4 R i a8;have lh:=R.lh;have o:(Ax h c).length=h.length:=Zj ..;have j:sS l (i+1)=sS l i+(l.getD i (0,[])).1:=CS l i a8;have e2:sM h c (i+1)=sM h c i+(Ax h c).getD i 0:=JW _ i a8;have d:sR h c (i+1)=sR h c i+if (h.getD i (0,0)).2=c % h.length+1 then 1 else 0:=Mn _ h i a8
  have a:i<l.length:=a8
  have b:i<(Ax h c).length:=a8
  have f:l.getD i (0,[])∈l:=by rw[Zf,Zh a];exact Zt a
  have g:(Ax h c).getD i 0∈Ax h c:=by rw[Zf,Zh b];exact Zt b
  have q:=EW<|R.e _ f;have n:=EZ R.H ⟨by have:=R.c0;omega,by have:=R.c1;omega⟩ _ g;rw[j,e2,d];split<;>omega
theorem body(R:Sp.Rd h p l c){i:Nat}(s:i<h.length){K:Int->Int->Int->Int->List CP->Tr}(q:Ends DB (K (sS l<|i+1) (sM h c<|i+1) (sR h c<|i+1) ((i+1:Nat):Int)<|CA l<|i+1) Q):
  Ends DB (bd (Ax h c) (Ax h<|c+1) l (CA l i) l.length (i:Int) (sS l i) (sM h c i) (sR h c i) K) Q:=by
 have lh:=R.lh;have n:=R.n;have d:i<l.length:=a8
 have k:(Ax h c).length=h.length:=Zj ..;have g:(Ax h<|c+1).length=h.length:=Zj ..;have L:=Sr l i;obtain⟨N,I,G⟩:=X4 R i a8;obtain⟨d1,d2,d3⟩:=X4 R (i+1) a8;have u:sS l (i+1)=sS l i+(l.getD i (0,[])).1:=CS l i d;have e2:sM h c (i+1)=sM h c i+(Ax h c).getD i 0:=JW _ i a8;have F:sR h c (i+1)=sR h c i+if (h.getD i (0,0)).2=c % h.length+1 then 1 else 0:=Mn _ h i s
 have o:=Sx R.H c s (x:=h.getD i (0,0)) rfl;have A:l.getD i (0,[])∈l:=by rw[Zf,Zh d];exact Zt d
 have M:=EW<|R.e _ A;have v:(CA l i).getD i (0,[])=l.getD i (0,[]):=SD d _;have j:∀m:List Int,m.length=h.length->B (i:Int) m.length=true:=fun m e=>Ek a8
 have r:B (i:Int) (l.length:Int)=true:=Ek a8;have C:=wn (i:=i) a8;have J:0<=(Ax h<|c+1).getD i 0-(Ax h c).getD i 0/\(Ax h<|c+1).getD i 0-(Ax h c).getD i 0<=1:=by rw[o];split<;>omega
 have q1:Za .i64 (sS l i+(l.getD i (0,[])).1)=sS l (i+1):=by rw[u,wr _ a8 a8]
 have w:Za .i64 (sM h c i+(Ax h c).getD i 0)=sM h c (i+1):=by rw[e2,wr _ a8 a8]
 have t:Za .i64 ((Ax h<|c+1).getD i 0-(Ax h c).getD i 0)=(Ax h<|c+1).getD i 0-(Ax h c).getD i 0:=wr _ a8 a8;have z:Za .i64 (sR h c i+((Ax h<|c+1).getD i 0-(Ax h c).getD i 0))=sR h c (i+1):=by rw[wr _ a8 a8,o,F]
 have E:Za .i64 ((l.getD i (0,[])).1+1)=(l.getD i (0,[])).1+1:=wr _ a8 a8;clear o;unfold bd;simp only[Zo,v,q1,w,t,z,E,C];generalize (Ax h<|c+1).getD i 0-(Ax h c).getD i 0=D at*;have same:JL (Jn l i) (l.getD i (0,[]))=l.getD i (0,[])->Ends DB (K (sS l<|i+1) (sM h c<|i+1) (sR h c<|i+1) ((i+1:Nat):Int)<|CA l i) Q:=fun e=>by
  rw[PB d e];exact q
 refine Zb (j _ k) (Zb (j _ g)<|Zb (j _ k)<|Zb (j _ g)<|Zb (j _ k)<|Zq (w8 a8)<|Zb (j _ g)<|Zb (j _ k)<|Zq (w8 a8) ?_);refine Zp (fun a=>Zp (fun b=>Zb (w4 a8)<|Zb (w4 a8)<|Zb (w4 a8)<|Zp (fun f=>Zb r<|Zb (w4 a8)<|Zb r<|Zb (w4 a8) ?_)<|fun f=>same ?_)<|fun b=>same ?_)<|fun a=>same ?_
 ·have a:=w6 a;have b:=w6 b;have f:Jn l i=true:=w4 (by simpa using f);rw[QM d (y:=((l.getD i (0,[])).1+1,(l.getD i (0,[])).2))<|by rw[f];unfold JL;rw[wb ⟨a,b,rfl⟩]];exact q
 ·have f:Jn l i=false:=w8 (by simpa using f);rw[f];unfold JL;rw[wa<|by simp]
 ·have b:=w7 b;unfold JL;rw[wa a8]
 ·have a:=w7 a;unfold JL;rw[wa a8]
structure Fin(h:List (Int×Int))(p:Y)(l:List CP)(c:Int)(a s t r a2 e2:Int):Prop where
 a:a=BN l (Ax h c)
 s:s=Bh l
 t:t=K5 (Ax h c)
 r:r=1
 a2:a2=BN (AI l) (Ax h c)
 e2:e2=0
theorem Fin.facts{a s t r a2 e2:Int}(R:Sp.Rd h p l c)(F:Fin h p l c a s t r a2 e2):a<=t/\((∀x∈l,0<x.1)->a<=s)/\a2>=a/\a2-a<=Bh (AI l)-Bh l:=by
 have i:(Ax h c).length=h.length:=Zj ..;obtain⟨j,g,f,q,o,n⟩:=F;subst j g f q o n;have lp:=TV R.H R.c0;have d:l.length=(Ax h c).length:=by rw[i,R.lh]
 have m:=QO (Oh l) (Ax h c)<|fun x b=>MV<|R.e x b;exact⟨OX l _ lp d,fun k=>JZ l _ (fun x b=>⟨MV<|R.e x b,k x b⟩) d,m.1,m.2⟩
theorem Nw(R:Sp.Rd h p l c):∀j:Nat,j<=h.length->0<=Bh ((AI l).take j)-sS l j/\Bh ((AI l).take j)-sS l j<=j
 |0,_=>by
  unfold sS;rw[Ze,Ze];exact⟨Zl _,Zl _⟩
 |j+1,d=>by
  have b:=Nw R j a8;have lh:=R.lh;have e:=A5 l;have a:sS l (j+1)=sS l j+(l.getD j (0,[])).1:=CS l j a8;have e2:Bh ((AI l).take<|j+1)=Bh ((AI l).take j)+((AI l).getD j (0,[])).1:=CS _ j a8;have g:=I4 (l:=l) (i:=j) a8;have u:=QP (Jn l j)<|l.getD j (0,[]);rw[<-g]at u;rw[a,e2];rcases u.2 with u|⟨_,_,u⟩
  ·rw[u];omega
  ·rw[u];omega
theorem step2(R:Sp.Rd h p l c){j:Nat}(a:j<h.length):Za .i64 ((Bh ((AI l).take j)-sS l j)+Za .i64 (((AI l).getD j (0,[])).1-(l.getD j (0,[])).1))=Bh ((AI l).take<|j+1)-sS l (j+1):=by
 have lh:=R.lh;have n:=R.n;have e:=A5 l;have d:=Nw R j a8;have b:=Nw R (j+1) a8;have f:sS l (j+1)=sS l j+(l.getD j (0,[])).1:=CS l j a8;have e2:Bh ((AI l).take<|j+1)=Bh ((AI l).take j)+((AI l).getD j (0,[])).1:=CS _ j a8;rw[wr (((AI l).getD j (0,[])).1-(l.getD j (0,[])).1) a8 a8,wr _ a8 a8];omega
theorem Rn(R:Sp.Rd h p l c)(k:List CP)(j:∀x∈k,0<=x.1/\x.1<=99)(o:k.length=h.length):(BN k<|Ax h c).natAbs<=4000:=by
 have n:=R.n;have i:=EZ R.H (c:=c) ⟨by have:=R.c0;omega,by have:=R.c1;omega⟩;have key:∀(k:List CP) (m:List Int),(∀x∈k,0<=x.1/\x.1<=99)->(∀v∈m,-95<=v/\v<=108)->(BN k m).natAbs<=108*k.length:=by
  intro k;induction k with
  |nil=>intro m _ _;exact Nat.zero_le _
  |cons x k g=>
   intro m e f;cases m with
   |nil=>exact Nat.zero_le _
   |cons v m=>
    have a:=g m (fun y d=>e y<|Zk _ d)<|fun y d=>f y<|Zk _ d;have b:=Lc (e x<|Zm ..)<|f v<|Zm ..;rw[BN,List.length_cons];omega
 have:=key k _ j i;omega
theorem fin{a s t r a2 e2:Int}(R:Sp.Rd h p l c)(F:Fin h p l c a s t r a2 e2):Za .i64 (a2-a)=a2-a:=by
 have d:=A5 l;have g:=Rn R l (fun x b=>EW<|R.e x b) R.lh;have f:=Rn R (AI l) (fun x b=>EW<|OA R.e x b) (by rw[d];exact R.lh);rw[F.a,F.a2,wr _ a8 a8]
theorem WH{a s t r a2 e2:Int}{b:Bool}(R:Sp.Rd h p l c)(F:Fin h p l c a s t r a2 e2)(k:b=true->∀x∈l,0<x.1)(g:∀ob,Q (.dat .bool true) ob):∀(f j:Nat),j+f=h.length->Ends DB (L5 a s t r b a2 e2 (Bh ((AI l).take j)-sS l j) (h.length:Int) (j:Int) (AI l) p l.length p l) Q
 |0,j,d=>by
  have d:j=h.length:=d;subst d;obtain⟨C,m,A,B⟩:=Fin.facts R F;have w:=fin R F;have v:=A5 l;have lh:=R.lh;have y:=F.e2;have u:=F.r;have o:Bh ((AI l).take h.length)-sS l h.length=Bh (AI l)-Bh l:=by
   unfold sS;rw[Zc a8,Zc a8]
  refine Zs (UP ..) ?_;conv=>zeta
  rw[o,w,y,u];refine Zq (w8 a8)<|Zb rfl (Zb rfl (Zb (w4 C) ?_));have e:=Zb (X:=DB) (Q:=Q) (a:=.leaf (.dat .bool<|decide (a2-a<=Bh (AI l)-Bh l)) []) (b:=.leaf (.bl false) []) (w4 A) (Zr<|by rw[w4 B];exact g _);refine Zp (fun _=>e)<|fun q=>?_;exact Zb (w4<|m<|k<|by simpa using q) e
 |f+1,j,d=>by
  have lh:=R.lh;have n:=R.n;have v:=A5 l;have z:=wn (i:=j) a8;have nx:=WH R F k g f (j+1) a8;refine Zs (UP ..) ?_;conv=>zeta
  rw[z,Zo,step2 R a8];exact Zb (w4 a8) (Zb (Ek a8)<|Zb (w4 a8) (Zb (Ek a8) nx))
theorem XD{a s t r a2 e2:Int}(R:Sp.Rd h p l c)(F:Fin h p l c a s t r a2 e2)(d:∀ob,Q (.dat .bool true) ob):∀(f j:Nat),j+f=h.length->Ends DB (L6 a s t r a2 e2 (Bh ((AI l).take j)-sS l j) (h.length:Int) (j:Int) (AI l) p l.length p l) Q
 |0,j,b=>by
  have b:j=h.length:=b;subst b;obtain⟨v,x,o,q⟩:=Fin.facts R F;have w:=fin R F;have k:=A5 l;have lh:=R.lh;have u:=F.e2;have g:=F.r;have e:Bh ((AI l).take h.length)-sS l h.length=Bh (AI l)-Bh l:=by
   unfold sS;rw[Zc a8,Zc a8]
  refine Zs (US ..) ?_;conv=>zeta
  rw[e,w,u,g];refine Zq (w8 a8)<|Zb rfl (Zb rfl (Zb (w4 v) ?_));exact Zb (w4 o) (Zr<|by rw[w4 q];exact d _)
 |f+1,j,b=>by
  have lh:=R.lh;have n:=R.n;have k:=A5 l;have m:=wn (i:=j) a8;have nx:=XD R F d f (j+1) a8;refine Zs (US ..) ?_;conv=>zeta
  rw[m,Zo,step2 R a8];exact Zb (w4 a8) (Zb (Ek a8) (Zb (w4 a8)<|Zb (Ek a8) nx))
theorem Rk(R:Sp.Rd h p l c):Fin h p l c (CB h p l c) (sS l h.length) (sM h c h.length) (sR h c h.length) (CB h p (AI l) c) (B9 h p (AI l) c):=by
 have a:(Ax h c).length=h.length:=Zj ..;refine⟨(R.Wi R.ce).2,?_,?_,?_,(R.Wi R.mc).2,(R.Wi R.mc).1⟩
 ·unfold sS;rw[Zc<|by rw[R.lh];exact Nat.le_refl _]
 ·unfold sM;rw[Zc<|by rw[a];exact Nat.le_refl _]
 ·unfold sR;rw[Zc<|Nat.le_refl _];exact Th R.H
theorem UH:Bh ((AI l).take 0)-sS l 0=0:=by
 unfold sS;rw[Ze,Ze];rfl
theorem last(R:Sp.Rd h p l c)(a:p.length<=100):(decide (0+l.length<=(CA l h.length).length)&&true&&true&&(decide (h.length<=45)&&decide (p.length<=100)&&decide ((List.take l.length<|CA l h.length).length<=45)))=true/\List.take l.length (CA l h.length)=AI l:=by
 have lh:=R.lh;have n:=R.n;have b:=A5 l;have e:CA l h.length=AI l:=by rw[<-lh];exact H2 l
 have e2:List.take l.length (AI l)=AI l:=Zc a8;rw[e,e2];refine⟨Br (Br (Br (w4 a8) rfl) rfl) (Br (Br (w4 a8)<|w4 a) (w4 a8)),rfl⟩
theorem W1(R:Sp.Rd h p l c)(b:p.length<=100)(d:∀ob,Q (.dat .bool true) ob):∀(f i:Nat),i+f=h.length->Ends DB (L4 h c (CB h p l c) (Ax h c) (Ax h<|c+1) (sS l i) (sM h c i) (sR h c i) (h.length:Int) (i:Int) (CA l i) p l.length p l) Q
 |0,i,a=>by
  have a:i=h.length:=a;subst a;obtain⟨c1,g⟩:=last R b;refine Zs (UF ..) (Zq (w8 a8)<|Zb c1 ?_);rw[g,show CA l h.length=AI l by rw[<-R.lh];exact H2 l];have st:=XD (Q:=Q) R (Rk R) d h.length 0 a8;rw[UH]at st;exact st
 |f+1,i,a=>by
  have lh:=R.lh;have e:i<l.length:=a8
  refine Zs (UF ..) (Zb (w4 a8)<|Zb (Ek a8) ?_);exact body R a8 (K:=fun s t r i o=>L4 h c (CB h p l c) (Ax h c) (Ax h<|c+1) s t r (h.length:Int) i o p l.length p l) (W1 R b d f (i+1) a8)
theorem nx{i:Nat}(b:i<l.length)(d:∀x∈l.take i,0<x.1):decide ((l.getD (Zn (i:Int)) (0,[])).1>0)=true->∀x∈l.take (i+1),0<x.1:=fun e x a=>by
 rw[Zo]at e;have e:=w6 e;rw[List.take_succ_eq_append_getElem b]at a;rcases List.mem_append.1 a with a|a
 ·exact d x a
 ·rw[List.mem_singleton.1 a];rw[Zf,Zh b]at e;exact e
theorem Wp(R:Sp.Rd h p l c)(d:p.length<=100)(g:∀ob,Q (.dat .bool true) ob):∀(f i:Nat) (b:Bool),i+f=h.length->(b=true->∀x∈l.take i,0<x.1)->Ends DB (L2 h c (CB h p l c) (Ax h c) (Ax h<|c+1) (sS l i) (sM h c i) (sR h c i) b (h.length:Int) (i:Int) (CA l i) p l.length p l) Q
 |0,i,b,a,n=>by
  have a:i=h.length:=a;subst a;obtain⟨c1,q⟩:=last R d;refine Zs (BV ..) (Zq (w8 a8)<|Zb c1 ?_);rw[q,show CA l h.length=AI l by rw[<-R.lh];exact H2 l];have st:=WH (b:=b) (Q:=Q) R (Rk R) (fun e x u=>n e x<|by rw[<-R.lh,List.take_length];exact u) g h.length 0 a8;rw[UH]at st;exact st
 |f+1,i,b,a,n=>by
  have lh:=R.lh;have k:i<l.length:=a8
  refine Zs (BV ..) (Zb (w4 a8) (Zb (Ek a8)<|Zp (fun m=>?_)<|fun _=>?_))
  ·exact body R a8 (K:=fun s t r j o=>L2 h c (CB h p l c) (Ax h c) (Ax h<|c+1) s t r (decide ((l.getD (Zn (i:Int)) (0,[])).1>0)) (h.length:Int) j o p l.length p l) (Wp R d g f (i+1) _ a8<|nx k<|n m)
  ·exact body R a8 (K:=fun s t r j o=>L4 h c (CB h p l c) (Ax h c) (Ax h<|c+1) s t r (h.length:Int) j o p l.length p l) (W1 R d g f (i+1) a8)
theorem ok:Al Cd 6 KN:=by
 refine Fy SB<|fun(i:List (Int×Int)×(Y×List (Int×Y))×Int) _=>?_;obtain⟨h,⟨p,l⟩,c⟩:=i;have a:∀ob,Ak KN (h,(p,l),c) (.dat .bool true) ob:=fun ob=>Ak.of rfl rfl rfl
 refine Ends.eq (AF h (p,l) c)<|Zb rfl (Zq rfl (Zp (fun _=>Zb rfl (Zr<|a _))<|fun n=>?_));have n:=w7 n;refine Zb (w4 a8) (Zp (fun _=>Zb rfl (Zr<|a _))<|fun he=>Zb (w4 a8)<|Zp (fun _=>Zb rfl (Zr<|a _))<|fun ce=>Zp (fun _=>Zb rfl (Zr<|a _))<|fun c0=>Zp (fun _=>Zb rfl (Zr<|a _))<|fun c1=>?_);have he:Ap h=0:=by simpa using he
 have ce:A0 h p l=0:=by simpa using ce
 have c0:=w7 c0;have c1:=w7 c1;obtain⟨_,lh,le⟩:=D2 ce;have R:Sp.Rd h p l c:=⟨CY he,he,by omega,lh,DY le,ce,by omega,by omega⟩;obtain⟨r1,r2⟩:=R.Yx;have g:=R.H.pos;have pl:p.length<=100:=by
  have k:=ce;unfold A0 at k;rw[he,Sp.first,wa aa,Sp.first]at k;have f:Sp.isName p=true:=by
   cases e:Sp.isName p with
   |true=>rfl
   |false=>rw[e]at k;cases k
  exact Sb f
 have m:Za .i64 (c+1)=c+1:=wr _ a8 a8;have d:∀v:Int,(Ax h v).length=h.length:=fun v=>Zj ..
 rw[m,(R.Wi R.ce).1,r1,r2,Kl r1,Kl r2,d,d];refine Zb (Br (Br (w4 a8)<|w4 pl)<|w4<|by dsimp only;omega) (Zb (w4 a8)<|Zb (w4 a8)<|Zq rfl (Zq (by simp)<|Zq (by simp)<|Zb (w4<|by dsimp only;omega) ?_));have st:=body (Q:=Ak KN (h,(p,l),c)) R (i:=0) g (K:=fun s t r j o=>L2 h c (CB h p l c) (Ax h c) (Ax h<|c+1) s t r (decide ((l.getD (Zn 0) (0,[])).1>0)) (h.length:Int) j o p l.length p l) (Wp R pl a (h.length-1) 1 _ a8<|nx (i:=0) a8<|fun x b=>by rw[Ze]at b;cases b);rw[JF]at st;refine Zs (As ..) (Zb (w4 a8) (Zb (Ek<|by dsimp only;omega) ?_));have z:Nat.add 0 l.length=l.length:=Nat.zero_add _;rw[z];exact st
end T6
abbrev Hr:Ay:=KN
end Go.Pe
