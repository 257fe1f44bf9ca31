import Derived.Test.YtipkapecgjpnlaaGreatDoorX15
/- A part of a proof; no law is stated here. -/
noncomputable section
open Go.Pe.Ends renaming tt -> zc, ff -> zg, leaf -> zh, An -> zk, ite -> zl
open Go.Sp renaming first -> zd
open Go.Pe.Sh renaming list -> ze, str -> zu, bool -> zw
open Int renaming toNat_natCast -> zf
open Go.IntKind renaming wrap -> zi
open List renaming take_length -> zj, length_cons -> zm, append_nil -> zo, find?_cons -> zr, length_set -> zt, mem_map -> z6, take_of_length_le -> z7
open Nat renaming add -> zn, zero_le -> zp, zero_add -> z8
open Bool renaming and_eq_true -> zq, false_or -> zz
open Option renaming getD -> zx, isSome -> zy
namespace Go.Sp
def pZ(l:List Am)(n:Int):Bool:=l.any fun s=>s.2.1==n
def Ff(a b:List Am):List Am:=b.filter fun s=> !pZ a s.2.1
def Fa(a b:List Am):Bool:=b.any fun s=>a.any fun t=>(t.2.1==s.2.1)&&decide (t≠s)
def Dl(a b:List Am):Int:=if first [A2 a,A2 b]≠0 then first [A2 a,A2 b]else if Fa a b=true then 29 else if 256<(a++Ff a b).length then 5 else 0
def EY(a b:List Am):List Am:=if Dl a b≠0 then[]else CQ<|a++Ff a b
def FF(l:List Am)(s:Am):Int:=if first [A2 l,DW s]≠0 then first [A2 l,DW s]else if Di l s.2.1<0 then 10 else 0
def Hb(l:List Am)(s:Am):List Am:=if FF l s≠0 then[]else CQ<|l.set (Di l s.2.1).toNat s
end Go.Sp
namespace Go.Pe
open Sp
open Go.Det
def jC:Ap:=⟨[.list Az,.list Az],fun i=>Kk i.1&&Kk i.2,[.list Az,i64],fun i=>(EY i.1 i.2,Dl i.1 i.2),false⟩
def cU:Ap:=⟨[.list Az,Az],fun i=>Kk i.1&&decide (List.length (α:=UInt8) i.2.2.2.2.1<=1000000),[.list Az,i64],fun i=>(Hb i.1 i.2,FF i.1 i.2),false⟩
def LM:Ap:=⟨[.list Az,.list Az,Az],fun i=>U9 i.1&&U9 i.2.1,[.bool],fun _=>true,false⟩
def MW:AR:=X7 [(11,Ku),(17,NO),(47,FE),(49,VG)]
def CC:AR:=cD [(4,[4,9,11])] [(4,[(4,[(8,Az)]),(9,[(12,Az)])])] [] [(8,RT),(9,U2),(10,Ku),(20,jC),(24,gE),(13,RQ),(14,Uj),(23,cU),(15,NO),(21,FE),(25,Ks)]
section
open List Int Prod
namespace T4
def T(l m:List Am)(s:Am):Tr:=tree CC false 9 4<|Ae ([ze Az,ze Az,Az]) (l,m,s)
def L1(l m:List Am)(s:Am)(v0:List Am)(v4 h d g:Int)(e:Z)(f c:Int):Tr:=re ((T l m s))<|AB 19 [(0,.dat (ze Az) v0),(3,.nil),(4,.dat i64 v4)] [(0,.box [.dat i64 h,.dat i64 d,.dat i64 g,.dat zu e,.dat i64 f,.dat i64 c])] 1
theorem Ai(l m:List Am)(s:Am):T l m s=L1 l m s l 0 s.1 s.2.1 s.2.2.1 s.2.2.2.1 s.2.2.2.2.1 s.2.2.2.2.2:=by kernel_rfl
def L2(l m:List Am)(s:Am)(v0:List Am)(h:Nat)(v4:Int)(o1:List Am)(i d g:Int)(e:Z)(f c:Int):Tr:=re ((stepT CC<|L1 l m s [] 0 0 0 0 [] 0 0).L.L.L)<|AB 19 [(0,.dat (ze Az) v0),(3,.sl 1 6 0 h none),(4,.dat i64 v4)] [(1,.arr false 38 Az o1),(0,.box [.dat i64 i,.dat i64 d,.dat i64 g,.dat zu e,.dat i64 f,.dat i64 c])] 2
def L3(l m:List Am)(s:Am)(v0:List Am)(v4 t i k:Int)(o:Z)(j h:Int)(p:List Am)(q:Int)(r:Int)(c:Int)(e:Int)(g:Z)(f:Int)(d:Int):Tr:=re ((stepT CC<|L1 l m s v0 v4 t i k o j h).R)<|AB 19 [(0,.dat (ze Az) p),(3,.nil),(4,.dat i64 q)] [(0,.box [.dat i64 r,.dat i64 c,.dat i64 e,.dat zu g,.dat i64 f,.dat i64 d])] 1
theorem Ar(l m:List Am)(s:Am)(v0:List Am)(v4 h d g:Int)(e:Z)(f c:Int):stepT CC (L1 l m s v0 v4 h d g e f c)=let i:=decide (v4<(length v0:Int));.ite i (.ck (decide (0<=v4)&&i)<|.ck (aa 56)<|L2 l m s v0 1 (zi .i64<|v4+1) ([(getD v0 (toNat v4) Dj)]) h d g e f c) (L3 l m s v0 v4 h d g e f c m 0 h d g e f c):=by kernel_rfl
def L4(l m:List Am)(s:Am)(v0:List Am)(r:Nat)(v4:Int)(o1:List Am)(v i k:Int)(o:Z)(j h:Int)(p:List Am)(q:Int)(t:List Am)(u:Int)(c:Int)(e:Int)(g:Z)(f:Int)(d:Int):Tr:=re ((stepT CC<|L2 l m s v0 r v4 o1 v i k o j h).R)<|AB 19 [(0,.dat (ze Az) p),(3,.nil),(4,.dat i64 q)] [(1,.arr false 38 Az t),(0,.box [.dat i64 u,.dat i64 c,.dat i64 e,.dat zu g,.dat i64 f,.dat i64 d])] 2
theorem AO(l m:List Am)(s:Am)(v0:List Am)(h:Nat)(v4:Int)(o1:List Am)(i d g:Int)(e:Z)(f c:Int):stepT CC (L2 l m s v0 h v4 o1 i d g e f c)=let j:=decide (v4<(length v0:Int));.ite j (.ck (decide (0<=v4)&&j)<|.ck (ac h (length o1) 56)<|L2 l m s v0 (zn h 1) (zi .i64<|v4+1) (o1++[(getD v0 (toNat v4) Dj)]) i d g e f c) (L4 l m s v0 h v4 o1 i d g e f c m 0 o1 i d g e f c):=by kernel_rfl
def L5(l m:List Am)(s:Am)(v0:List Am)(v4 u i k:Int)(o:Z)(j h:Int)(p:List Am)(r:Nat)(q:Int)(o1:List Am)(t:Int)(c:Int)(e:Int)(g:Z)(f:Int)(d:Int):Tr:=re ((stepT CC<|L3 l m s v0 v4 u i k o j h [] 0 0 0 0 [] 0 0).L.L.L)<|AB 19 [(0,.dat (ze Az) p),(3,.sl 1 6 0 r none),(4,.dat i64 q)] [(1,.arr false 38 Az o1),(0,.box [.dat i64 t,.dat i64 c,.dat i64 e,.dat zu g,.dat i64 f,.dat i64 d])] 2
def L6(v0 v1 h:List Am)(i d g:Int)(e:Z)(f c:Int):Tr:=re ((stepT CC<|L3 [] [] (0,(0,(0,([],(0,0))))) [] 0 0 0 0 [] 0 0 [] 0 0 0 0 [] 0 0).R.L.R.L.R.L.R.R)<|AB 101 [(0,.dat (ze Az) v0),(1,.dat (ze Az) v1),(5,.ptr 0 0),(7,.nil),(8,.dat (ze Az) h)] [(0,.box [.dat i64 i,.dat i64 d,.dat i64 g,.dat zu e,.dat i64 f,.dat i64 c])] 1
theorem Cr(l m:List Am)(s:Am)(v0:List Am)(v4 u k p:Int)(q:Z)(o j:Int)(i:List Am)(h:Int)(r:Int)(d:Int)(f:Int)(c:Z)(g:Int)(e:Int):stepT CC (L3 l m s v0 v4 u k p q o j i h r d f c g e)=let t:Tr:=.ck true<|.leaf (.dat zw true) [];let b':=decide (h<(↑(length i):Int));.ite b' (.ck (decide (0<=h)&&b')<|.ck (aa 56)<|L5 l m s v0 v4 u k p q o j i 1 (zi .i64<|h+1) ([(getD i (toNat h) Dj)]) r d f c g e) (.ck true<|.ite false t<|.ck true<|.ite false t<|.ck true<|.ite false t<|.di ((↑(length c):Int)>20) t<|L6 l m [] r d f c g e):=by kernel_rfl
def L7(l m:List Am)(s:Am)(v0:List Am)(t:Nat)(v4:Int)(o1:List Am)(x j o:Int)(p:Z)(k h:Int)(q:List Am)(i:Nat)(r:Int)(w:List Am)(u:List Am)(v:Int)(c:Int)(e:Int)(g:Z)(f:Int)(d:Int):Tr:=re ((stepT CC<|L4 l m s v0 t v4 o1 x j o p k h [] 0 [] 0 0 0 [] 0 0).L.L.L)<|AB 19 [(0,.dat (ze Az) q),(3,.sl 2 6 0 i none),(4,.dat i64 r)] [(2,.arr false 38 Az w),(1,.arr false 38 Az u),(0,.box [.dat i64 v,.dat i64 c,.dat i64 e,.dat zu g,.dat i64 f,.dat i64 d])] 3
def L8(v0 v1:List Am)(h:Nat)(i o1:List Am)(j d g:Int)(e:Z)(f c:Int):Tr:=re ((stepT CC<|L4 [] [] (0,(0,(0,([],(0,0))))) [] 0 0 [] 0 0 0 [] 0 0 [] 0 [] 0 0 0 [] 0 0).R.L.R.L.R.L.R.R)<|AB 101 [(0,.dat (ze Az) v0),(1,.dat (ze Az) v1),(5,.ptr 0 0),(7,.sl 1 6 0 h none),(8,.dat (ze Az) i)] [(1,.arr false 38 Az o1),(0,.box [.dat i64 j,.dat i64 d,.dat i64 g,.dat zu e,.dat i64 f,.dat i64 c])] 2
theorem CN(l m:List Am)(s:Am)(v0:List Am)(i:Nat)(v4:Int)(o1:List Am)(w p r:Int)(t:Z)(q o:Int)(k:List Am)(h:Int)(j:List Am)(u:Int)(d:Int)(f:Int)(c:Z)(g:Int)(e:Int):stepT CC (L4 l m s v0 i v4 o1 w p r t q o k h j u d f c g e)=let v:Tr:=.ck true<|.leaf (.dat zw true) [];let b':=decide (h<(↑(length k):Int));.ite b' (.ck (decide (0<=h)&&b')<|.ck (aa 56)<|L7 l m s v0 i v4 o1 w p r t q o k 1 (zi .i64<|h+1) ([(getD k (toNat h) Dj)]) j u d f c g e) (.ck true<|.ite false v<|.ck (decide (0+i<=length j)&&true&&true&&true)<|.ite (!Iq (take i j) 20) v<|.ck true<|.ite false v<|.di ((↑(length c):Int)>20) v<|L8 l m i [] j u d f c g e):=by kernel_rfl
theorem Fb(l m:List Am)(s:Am)(v0:List Am)(v4 v o q:Int)(r:Z)(p k:Int)(j:List Am)(g:Nat)(i:Int)(o1:List Am)(t:Int)(d:Int)(f:Int)(c:Z)(h:Int)(e:Int):stepT CC (L5 l m s v0 v4 v o q r p k j g i o1 t d f c h e)=let u:Tr:=.ck true<|.leaf (.dat zw true) [];let b':=decide (i<(↑(length j):Int));.ite b' (.ck (decide (0<=i)&&b')<|.ck (ac g (length o1) 56)<|L5 l m s v0 v4 v o q r p k j (zn g 1) (zi .i64<|i+1) (o1++[(getD j (toNat i) Dj)]) t d f c h e) (.ck true<|.ite false u<|.ck true<|.ite false u<|.ck (decide (0+g<=length o1)&&true&&true&&true)<|.ite (!Iq (take g o1) 20) u<|.di ((↑(length c):Int)>20) u<|L6 l m (take g o1) t d f c h e):=by kernel_rfl
def L9(v0 v1 r:List Am)(v i k:Int)(m:Z)(j h:Int)(q:List Am)(o:Nat)(t:Int)(u:List Am)(o1:List Int)(p:Int)(c:Int)(e:Int)(g:Z)(f:Int)(d:Int):Tr:=re ((stepT CC<|L6 v0 v1 r v i k m j h).L.L.L.L.L.L)<|AB 52 [(0,.nil),(1,.dat (ze Az) q),(6,.sl 2 6 0 o none),(7,.dat i64 t)] [(2,.arr false 38 Az u),(1,.arr false 3 i64 o1),(0,.box [.dat i64 p,.dat i64 c,.dat i64 e,.dat zu g,.dat i64 f,.dat i64 d])] 3
def sQ(v0 v9:List Am)(h j:Int)(i:List Am)(k d g:Int)(e:Z)(f c:Int):Tr:=re ((stepT CC<|L6 [] [] [] 0 0 0 [] 0 0).L.L.L.L.R)<|AB 101 [(0,.dat (ze Az) v0),(5,.ptr 0 0),(7,.nil),(9,.dat (ze Az) v9),(10,.dat i64 h),(11,.dat i64 j),(12,.dat (ze Az) i)] [(0,.box [.dat i64 k,.dat i64 d,.dat i64 g,.dat zu e,.dat i64 f,.dat i64 c])] 1
theorem Gu(v0 v1 h:List Am)(i d g:Int)(e:Z)(f c:Int):stepT CC (L6 v0 v1 h i d g e f c)=.ck (Kk v0&&Kk v1) (.ck true<|.ck (Kk h)<|.ck (decide (2<=2)&&true&&decide (2<=1000000))<|.ite (zd [A2 [],A2 h]==0) (.ck true<|L9 v0 v1 h i d g e f c h 0 0 ([]++[]) ([A2 [],A2 h]) i d g e f c)<|sQ v0 (EY v0 v1) (Dl v0 v1) (zd [A2 [],A2 h]) [] i d g e f c):=by kernel_rfl
theorem ES(l m:List Am)(s:Am)(v0:List Am)(j:Nat)(v4:Int)(o1:List Am)(y q t:Int)(u:Z)(r p:Int)(o:List Am)(c:Nat)(i:Int)(w:List Am)(k:List Am)(v:Int)(e:Int)(g:Int)(d:Z)(h:Int)(f:Int):stepT CC (L7 l m s v0 j v4 o1 y q t u r p o c i w k v e g d h f)=let x:Tr:=.ck true<|.leaf (.dat zw true) [];let b':=decide (i<(↑(length o):Int));.ite b' (.ck (decide (0<=i)&&b')<|.ck (ac c (length w) 56)<|L7 l m s v0 j v4 o1 y q t u r p o (zn c 1) (zi .i64<|i+1) (w++[(getD o (toNat i) Dj)]) k v e g d h f) (.ck true<|.ite false x<|.ck (decide (0+j<=length k)&&true&&true&&true)<|.ite (!Iq (take j k) 20) x<|.ck (decide (0+c<=length w)&&true&&true&&true)<|.ite (!Iq (take c w) 20) x<|.di ((↑(length d):Int)>20) x<|L8 l m j (take c w) k v e g d h f):=by kernel_rfl
def L11(v0 v1:List Am)(q:Nat)(v o1:List Am)(z i k:Int)(m:Z)(j h:Int)(p:Nat)(u:List Am)(o:Nat)(w:Int)(y:List Am)(x:List Int)(r:List Am)(t:Int)(c:Int)(e:Int)(g:Z)(f:Int)(d:Int):Tr:=re ((stepT CC<|L8 v0 v1 q v o1 z i k m j h).L.L.L.L.L.L)<|AB 52 [(0,.sl 1 6 0 p none),(1,.dat (ze Az) u),(6,.sl 3 6 0 o none),(7,.dat i64 w)] [(3,.arr false 38 Az y),(2,.arr false 3 i64 x),(1,.arr false 38 Az r),(0,.box [.dat i64 t,.dat i64 c,.dat i64 e,.dat zu g,.dat i64 f,.dat i64 d])] 4
def zO(v0:List Am)(h:Nat)(v9:List Am)(i k:Int)(j o1:List Am)(m d g:Int)(e:Z)(f c:Int):Tr:=re ((stepT CC<|L8 [] [] 0 [] [] 0 0 0 [] 0 0).L.L.L.L.R)<|AB 101 [(0,.dat (ze Az) v0),(5,.ptr 0 0),(7,.sl 1 6 0 h none),(9,.dat (ze Az) v9),(10,.dat i64 i),(11,.dat i64 k),(12,.dat (ze Az) j)] [(1,.arr false 38 Az o1),(0,.box [.dat i64 m,.dat i64 d,.dat i64 g,.dat zu e,.dat i64 f,.dat i64 c])] 2
theorem H3(v0 v1:List Am)(c:Nat)(i o1:List Am)(j e h:Int)(f:Z)(g d:Int):stepT CC (L8 v0 v1 c i o1 j e h f g d)=let k:=decide (0+c<=length o1);.ck (Kk v0&&Kk v1) (.ck (k&&true&&Kk (take c o1))<|.ck (Kk i)<|.ck (decide (2<=2)&&true&&decide (2<=1000000))<|.ite (zd [A2<|take c o1,A2 i]==0) (.ck (k&&true&&true&&decide ((3*(0+length (take c o1))+2000)*56<=562949953421312))<|L11 v0 v1 c i o1 j e h f g d c i (zn 0<|length<|take c o1) 0 ([]++take c o1) ([A2<|take c o1,A2 i]) o1 j e h f g d)<|zO v0 c (EY v0 v1) (Dl v0 v1) (zd [A2<|take c o1,A2 i]) [] o1 j e h f g d):=by kernel_rfl
theorem XS(v0 v1 u:List Am)(w j m:Int)(p:Z)(k i:Int)(q:List Am)(h:Nat)(t:Int)(r:List Am)(o1:List Int)(o:Int)(c:Int)(e:Int)(g:Z)(f:Int)(d:Int):stepT CC (L9 v0 v1 u w j m p k i q h t r o1 o c e g f d)=let v:=decide (t<(↑(length q):Int));let b':=getD q (toNat t) Dj;let x:=zi .i64<|t+1;.ite v (.ck (decide (0<=t)&&v)<|.cd (0<=1000000)<|.di (Di [] (fst<|snd b')>=0) .fail<|.di (Di [] (fst<|snd b')<0) (.ck (decide (0<=t)&&v)<|.ck (ac h (length r) 56)<|L9 v0 v1 u w j m p k i q (zn h 1) x (r++[b']) o1 o c e g f d)<|L9 v0 v1 u w j m p k i q h x r o1 o c e g f d) (.di ((↑h:Int)>256) (sQ v0 (EY v0 v1) (Dl v0 v1) 5 [] o c e g f d)<|.ck (decide (0+h<=length r)&&true&&U7 (take h r))<|sQ v0 (EY v0 v1) (Dl v0 v1) 0 (CQ<|take h r) o c e g f d):=by kernel_rfl
def L13(v0:List Am)(h f g:Int)(d:Z)(e c:Int):Tr:=re ((stepT CC<|sQ [] [] 0 0 [] 0 0 0 [] 0 0).L.R)<|AB 101 [(0,.dat (ze Az) v0),(5,.ptr 0 0),(7,.nil)] [(0,.box [.dat i64 h,.dat i64 f,.dat i64 g,.dat zu d,.dat i64 e,.dat i64 c])] 1
theorem Wi(v0 v9:List Am)(h j:Int)(i:List Am)(k d g:Int)(e:Z)(f c:Int):stepT CC (sQ v0 v9 h j i k d g e f c)=.cd (length v9<=1000000) (.ite (!FY v9 h j i) (.leaf (.bl false) [])<|L13 v0 k d g e f c):=by kernel_rfl
theorem gL(v0 v1:List Am)(k:Nat)(z o1:List Am)(H p r:Int)(t:Z)(q o:Int)(j:Nat)(u:List Am)(i:Nat)(x:Int)(w:List Am)(E:List Int)(h:List Am)(m:Int)(c:Int)(e:Int)(g:Z)(f:Int)(d:Int):stepT CC (L11 v0 v1 k z o1 H p r t q o j u i x w E h m c e g f d)=let v:=take j h;let F:=getD u (toNat x) Dj;let h':=decide (x<(↑(length u):Int));let A:=EY v0 v1;let B:=Dl v0 v1;let l':=zi .i64<|x+1;let b':=snd F;let C:=decide (0<=x)&&h';let I:Tr:=.di (Di v (fst b')<0) (.ck C<|.ck (ac i (length w) 56)<|L11 v0 v1 k z o1 H p r t q o j u (zn i 1) l' (w++[F]) E h m c e g f d)<|L11 v0 v1 k z o1 H p r t q o j u i l' w E h m c e g f d;let G:=getD h (toNat<|Di v<|fst b') Dj;let D:=snd<|snd b';let y:=snd<|snd G;.ite h' (.ck C<|.ck (decide (0+j<=length h)&&true&&true&&decide (length v<=1000000))<|.di (Di v (fst b')>=0) (.ck (decide (0<=Di v (fst b'))&&decide (Di v (fst b')<(↑j:Int)))<|.cd (toNat (Di v<|fst b')<length h)<|.ck C<|.ite (!(fst G==fst F&&(fst (snd G)==fst b'&&(fst y==fst (snd b')&&(fst (snd y)==fst D&&(fst (snd<|snd y)==fst (snd D)&&(snd (snd<|snd y)==snd (snd D)&&true))))))) (zO v0 k A B 29 [] h m c e g f d) I) I) (.di ((↑i:Int)>256) (zO v0 k A B 5 [] h m c e g f d)<|.ck (decide (0+i<=length w)&&true&&U7 (take i w))<|zO v0 k A B 0 (CQ<|take i w) h m c e g f d):=by kernel_rfl
def L14(v0:List Am)(h:Nat)(o1:List Am)(i d g:Int)(e:Z)(f c:Int):Tr:=re ((stepT CC<|zO [] 0 [] 0 0 [] [] 0 0 0 [] 0 0).L.R)<|AB 101 [(0,.dat (ze Az) v0),(5,.ptr 0 0),(7,.sl 1 6 0 h none)] [(1,.arr false 38 Az o1),(0,.box [.dat i64 i,.dat i64 d,.dat i64 g,.dat zu e,.dat i64 f,.dat i64 c])] 2
theorem yS(v0:List Am)(h:Nat)(v9:List Am)(i k:Int)(j o1:List Am)(m d g:Int)(e:Z)(f c:Int):stepT CC (zO v0 h v9 i k j o1 m d g e f c)=.cd (length v9<=1000000) (.ite (!FY v9 i k j) (.leaf (.bl false) [])<|L14 v0 h o1 m d g e f c):=by kernel_rfl
theorem zQ(v0:List Am)(h c g:Int)(d:Z)(f e:Int):stepT CC (L13 v0 h c g d f e)=let i:=Hb v0 (h,c,g,d,f,e);let b':=FF v0 (h,c,g,d,f,e);let m:=decide (Di [] c<0);let j:=decide (length d<=1000000);let k:=decide (length i<=1000000);.ck (Kk v0&&j) (.ck true<|.ck j<|.ck (decide (2<=2)&&true&&decide (2<=1000000))<|.ite (zd [A2 [],DW (h,c,g,d,f,e)]==0) (.cd (0<=1000000)<|.ck true<|.ck (Hi m 10 !=0)<|.ck k<|.leaf (.dat zw<|FY i b' (Hi m 10) []) [])<|.ck (zd [A2 [],DW (h,c,g,d,f,e)] !=0)<|.ck k<|.leaf (.dat zw<|FY i b' (zd [A2 [],DW (h,c,g,d,f,e)]) []) []):=by kernel_rfl
theorem yW(v0:List Am)(c:Nat)(o1:List Am)(i d h:Int)(e:Z)(g f:Int):stepT CC (L14 v0 c o1 i d h e g f)=let j:=Hb v0 (i,d,h,e,g,f);let k:=FF v0 (i,d,h,e,g,f);let o:=set o1 0 (i,d,h,e,g,f);let p:=decide (Di (take c o1) d<0);let r:=Di (take c o1) d;let h':=decide (length e<=1000000);let q:=decide (0+c<=length o1);let b':=set o1 (toNat r) (i,d,h,e,g,f);let m:=decide (length j<=1000000);.ck (Kk v0&&h') (.ck (q&&true&&Kk (take c o1))<|.ck h'<|.ck (decide (2<=2)&&true&&decide (2<=1000000))<|.ite (zd [A2<|take c o1,DW (i,d,h,e,g,f)]==0) (.ck (q&&true&&true&&decide (length (take c o1)<=1000000))<|.ck true<|.ite (Hi p 10 !=0) (.ck m<|.leaf (.dat zw<|FY j k (Hi p 10) []) [])<|.ck (decide (0<=Di (take c o1) d)&&decide (Di (take c o1) d<(↑c:Int)))<|.cd (toNat r<length o1)<|.ck (decide (0+c<=length b')&&true&&U7 (take c b'))<|.ck m<|.leaf (.dat zw<|FY j k 0<|CQ<|take c b') [])<|.ite (zd [A2<|take c o1,DW (i,d,h,e,g,f)] !=0) (.ck m<|.leaf (.dat zw<|FY j k (zd [A2<|take c o1,DW (i,d,h,e,g,f)]) []) [])<|.ck (false&&decide ((-1)<(↑c:Int)))<|.cd (0<length o1)<|.ck (decide (0+c<=length o)&&true&&U7 (take c o))<|.ck m<|.leaf (.dat zw<|FY j k 0<|CQ<|take c o) []):=by kernel_rfl
end T4
namespace T23
def T(l:List Am)(s:Am):Tr:=tree MW false 9 23<|Ae ([ze Az,Az]) (l,s)
def L1(l:List Am)(s:Am)(v0:List Am)(i h:Int)(o1:List Int)(j d g:Int)(e:Z)(f c:Int):Tr:=re ((T l s).L.L.L.R)<|AB 19 [(0,.dat (ze Az) v0),(1,PV.fn (Go.Fn.func 65) [] [.ptr 0 0]),(7,.dat i64 i),(8,.dat i64 h)] [(1,.arr false 31 i64 o1),(0,.box [.dat i64 j,.dat i64 d,.dat i64 g,.dat zu e,.dat i64 f,.dat i64 c])] 2
theorem Ai(l:List Am)(s:Am):T l s=.ck (Kk l) (.cd (length s.2.2.2.1<=1000000)<|.ck (decide (2<=2)&&true&&decide (2<=1000000))<|.ite (zd [A2 l,DW s] !=0) (.leaf (.tup [.nil,.dat i64<|zd [A2 l,DW s]]) [])<|L1 l s l ((length l:Int)) 0 ([A2 l,DW s]) s.1 s.2.1 s.2.2.1 s.2.2.2.1 s.2.2.2.2.1 s.2.2.2.2.2):=by kernel_rfl
theorem Ar(l:List Am)(s:Am)(v0:List Am)(m h:Int)(o1:List Int)(j c e:Int)(g:Z)(d f:Int):stepT MW (L1 l s v0 m h o1 j c e g d f)=let o:=set ([]++l) (toNat h) (j,c,e,g,d,f);let i:=zn 0<|length l;let k:=set ([]++l) 0 (j,c,e,g,d,f);let q:=decide ((3*(0+length l)+2000)*56<=562949953421312);let p:Tr:=.leaf (.tup [.nil,.dat i64 (10:Int)]) [];let r:Tr:=.ck q<|.ck (decide (0<=h)&&decide (h<(↑i:Int)))<|.cd (toNat h<length ([]++l))<|.ck (decide (0+zn 0 (length l)<=length o)&&true&&decide (length (take i o)<=1000000))<|.leaf (.tup [.dat (ze Az)<|CQ<|take i o,.dat i64 (0:Int)]) [];let b':Tr:=.ck q<|.ck (false&&decide ((-1)<(↑i:Int)))<|.cd (0<length ([]++l))<|.ck (decide (0+zn 0 (length l)<=length k)&&true&&decide (length (take i k)<=1000000))<|.leaf (.tup [.dat (ze Az)<|CQ<|take i k,.dat i64 (0:Int)]) [];.di (h<m) (.ck (decide (0<=h)&&decide (h<(length v0:Int)))<|.ite (fst (snd<|getD v0 (toNat h) Dj)==c) (.di (h<0) p<|.di (0<length l) r<|.both .fail r)<|L1 l s v0 m (zi .i64<|h+1) o1 j c e g d f) (.ite true p<|.di (0<length l) b'<|.both .fail b'):=by kernel_rfl
end T23
namespace T20
def T(l m:List Am):Tr:=tree MW false 9 20<|Ae ([ze Az,ze Az]) (l,m)
def L1(v0 v1 c:List Am)(e d:Int)(f:List (Int×Am)):Tr:=re ((T [] []).L.L.L.R)<|AB 69 [(0,.dat (ze Az) v0),(1,.dat (ze Az) v1),(7,PV.mp 0),(25,.dat (ze Az) c),(26,.dat i64 e),(27,.dat i64 d)] [(0,Obj.map i64 Az f)] 1
theorem Ai(l m:List Am):T l m=.ck (Kk l) (.ck (Kk m)<|.ck (decide (2<=2)&&true&&decide (2<=1000000))<|.ite (zd [A2 l,A2 m] !=0) (.leaf (.tup [.nil,.dat i64<|zd [A2 l,A2 m]]) [])<|L1 l m l ((length l:Int)) 0 []):=by kernel_rfl
def L2(c:Nat)(e:List Am)(f d:Int)(o1:List Am)(g:List (Int×Am)):Tr:=re ((stepT MW<|L1 [] [] [] 0 0 []).R.L.L)<|AB 69 [(7,PV.mp 0),(10,.sl 1 6 0 c none),(38,.dat (ze Az) e),(39,.dat i64 f),(40,.dat i64 d)] [(1,.arr false 25 Az o1),(0,Obj.map i64 Az g)] 2
def L3(c:List Am)(d e:Int)(f:List (Int×Am)):Tr:=re ((stepT MW<|L1 [] [] [] 0 0 []).R.R.L)<|AB 69 [(7,PV.mp 0),(10,.nil),(38,.dat (ze Az) c),(39,.dat i64 d),(40,.dat i64 e)] [(0,Obj.map i64 Az f)] 1
theorem Ar(v0 v1 d:List Am)(e c:Int)(f:List (Int×Am)):stepT MW (L1 v0 v1 d e c f)=let g:Tr:=.cd ((3*(0+length v0)+2000)*56<=562949953421312)<|L2 (zn 0<|length v0) v1 ((length v1:Int)) 0 ([]++v0) f;let b':=getD d (toNat c) Dj;.di (c<e) (.ck (decide (0<=c)&&decide (c<(length d:Int)))<|L1 v0 v1 d e (zi .i64<|c+1)<|JH i64 Az (fst<|snd b') b' f) (.di (0<length v0) g<|.both (L3 v1 ((length v1:Int)) 0 f) g):=by kernel_rfl
theorem AO(c:Nat)(e:List Am)(f d:Int)(o1:List Am)(j:List (Int×Am)):stepT MW (L2 c e f d o1 j)=let g:=getD e (toNat d) Dj;let o:=zi .i64<|d+1;let i:=D9 i64 Az (fst<|snd g) j;let h:=snd<|snd g;let b':Tr:=.ite (!zy i) (.ck (ac c (length o1) 56)<|L2 (zn c 1) e f o (o1++[g]) j)<|L2 c e f o o1 j;let k:=snd<|zx i Dj;let m:=snd<|snd k;.di (d<f) (.ck (decide (0<=d)&&decide (d<(length e:Int)))<|.ite (zy i) (.ite (!(fst (zx i Dj)==fst g&&(fst k==fst (snd g)&&(fst (snd k)==fst h&&(fst m==fst (snd h)&&(fst (snd m)==fst (snd<|snd h)&&(snd (snd m)==snd (snd<|snd h)&&true))))))) (.leaf (.tup [.nil,.dat i64 (29:Int)]) []) b') b') (.di ((↑c:Int)>256) (.leaf (.tup [.nil,.dat i64 (5:Int)]) [])<|.ck (decide (0+c<=length o1)&&true&&decide (length (take c o1)<=1000000))<|.leaf (.tup [.dat (ze Az)<|CQ<|take c o1,.dat i64 (0:Int)]) []):=by kernel_rfl
theorem Cr(d:List Am)(e c:Int)(i:List (Int×Am)):stepT MW (L3 d e c i)=let f:=getD d (toNat c) Dj;let m:=zi .i64<|c+1;let h:=D9 i64 Az (fst<|snd f) i;let g:=snd<|snd f;let b':Tr:=.ite (!zy h) (.ck (aa 56)<|L2 1 d e m ([f]) i)<|L3 d e m i;let j:=snd<|zx h Dj;let k:=snd<|snd j;.di (c<e) (.ck (decide (0<=c)&&decide (c<(length d:Int)))<|.ite (zy h) (.ite (!(fst (zx h Dj)==fst f&&(fst j==fst (snd f)&&(fst (snd j)==fst g&&(fst k==fst (snd g)&&(fst (snd k)==fst (snd<|snd g)&&(snd (snd k)==snd (snd<|snd g)&&true))))))) (.leaf (.tup [.nil,.dat i64 (29:Int)]) []) b') b') (.ite false (.leaf (.tup [.nil,.dat i64 (5:Int)]) [])<|.ck true<|.leaf (.tup [.dat (ze Az)<|CQ [],.dat i64 (0:Int)]) []):=by kernel_rfl
end T20
namespace T24
def T(l:List Sp.Am)(n:Int):Tr:=tree CS false 9 24<|Ae ([ze Az,Sh.int IntKind.i64]) (l,n)
def L1(v0:List Sp.Am)(v1 v5:Int):Tr:=re ((T [] 0))<|AB 20 [(0,.dat (ze Az) v0),(1,.dat i64 v1),(5,.dat i64 v5)] [] 0
theorem Ai(l:List Sp.Am)(n:Int):T l n=L1 l n 0:=by kernel_rfl
theorem Ar(v0:List Sp.Am)(v1 v5:Int):stepT CS (L1 v0 v1 v5)=let c:=decide (v5<(length v0:Int));.ite c (.ck (decide (0<=v5)&&c)<|.ite (fst (snd<|getD v0 (toNat v5) Sp.Dj)==v1) (.leaf (.dat i64 v5) [])<|L1 v0 v1<|zi .i64<|v5+1) (.leaf (.dat i64 (-1:Int)) []):=by kernel_rfl
end T24
end
end Go.Pe
namespace Go.Sp
theorem QR{a b:Int}(h:a≠0):first [a,b]=a:=by unfold first;rw[wd h]
theorem fW(b:Int):first [0,b]=b:=by
 unfold first first first
 by_cases h:b=0
 ·subst h;rfl
 ·rw[wc af,wd h]
theorem FL{a b:Int}(h:first [a,b]=0):a=0/\b=0:=by
 by_cases c:a=0
 ·subst c;rw[fW]at h;exact⟨rfl,h⟩
 ·rw[QR c]at h;exact wh h c
def Fj(l:List Am)(n:Int):Option Am:=l.find? fun t=>t.2.1==n
theorem X9{l:List Am}{n:Int}{t:Am}(h:Fj l n=some t):t.2.1=n:=by
 have:=List.find?_some h;simpa using this
theorem dL(l:List Am)(n:Int):pZ l n=(Fj l n).isSome:=by
 unfold pZ Fj;rw[Bool.eq_iff_iff,List.any_eq_true,List.find?_isSome]
theorem oP{l:List Am}(d:(l.map fun s=>s.2.1).Nodup){t:Am}(c:t∈l):Fj l t.2.1=some t:=by
 induction l with
 |nil=>cases c
 |cons x l f=>
  rw[List.map_cons]at d;obtain⟨g,h⟩:=List.nodup_cons.1 d;unfold Fj;rw[zr];rcases List.mem_cons.1 c with rfl|c
  ·simp
  ·have:¬x.2.1=t.2.1:=fun e=>g (by rw[e];exact z6.2 ⟨t,c,rfl⟩)
   rw[show(x.2.1==t.2.1)=false by simpa using this];exact f h c
def TG(a:List Am)(s:Am):Bool:=a.any fun t=>(t.2.1==s.2.1)&&decide (t≠s)
theorem Ox{a:List Am}{s:Am}(h:Fj a s.2.1=none):TG a s=false:=by
 unfold TG;rw[List.any_eq_false];intro t c;unfold Fj at h;have:=List.find?_eq_none.1 h t c;simp at this;simp[this]
theorem PU{a:List Am}(f:(a.map fun s=>s.2.1).Nodup){s t:Am}(h:Fj a s.2.1=some t):TG a s=decide (t≠s):=by
 have d:t∈a:=List.mem_of_find?_eq_some h;have e:=X9 h;unfold TG;rw[Bool.eq_iff_iff,List.any_eq_true,w5];constructor
 ·rintro⟨u,c,k⟩;rw[zq,w5,wk]at k;have:=oP f c;rw[k.1,h]at this;cases this;exact k.2
 ·intro k;exact⟨t,d,by rw[zq,w5,wk];exact⟨e,k⟩⟩
theorem HI(a:List Am)(s:Am)(b:List Am):Fa a (s::b)=(TG a s||Fa a b):=rfl
theorem I4(a:List Am)(s:Am)(b:List Am):Ff a (s::b)=if (Fj a s.2.1).isSome then Ff a b else s::Ff a b:=by
 unfold Ff;rw[List.filter_cons,dL];cases (Fj a s.2.1).isSome<;>rfl
theorem find_spec(n:Int):∀(l:List Am) (i:Nat),(Fj l n=none->HV n l i= -1)/\∀t,Fj l n=some t->∃k:Nat,HV n l i=((i+k:Nat):Int)/\k<l.length/\l.getD k Dj=t
 |[],i=>⟨fun _=>rfl,fun t h=>by cases h⟩
 |x::l,i=>by
  obtain⟨d,g⟩:=find_spec n l<|i+1;by_cases c:x.2.1=n
  ·refine⟨fun h=>?_,fun t h=>⟨0,?_,by simp,?_⟩⟩
   ·unfold Fj at h;rw[zr,show(x.2.1==n)=true by simpa using c]at h;cases h
   ·rw[HV,wd c];rfl
   ·unfold Fj at h;rw[zr,show(x.2.1==n)=true by simpa using c]at h;exact Option.some.inj h
  ·have e:Fj (x::l) n=Fj l n:=by
    unfold Fj;rw[zr,show(x.2.1==n)=false by simpa using c]
   have f:HV n (x::l) (i:Int)=HV n l ((i+1:Nat):Int):=by
    rw[HV,wc c];rfl
   rw[e,f];refine⟨d,fun t h=>?_⟩;obtain⟨k,m,o,j⟩:=g t h;exact⟨k+1,by rw[m];congr 1;omega,by simpa using o,j⟩
theorem I9{l:List Am}{n:Int}(h:Fj l n=none):Di l n= -1:=(find_spec n l 0).1 h
theorem Ra{l:List Am}{n:Int}{t:Am}(h:Fj l n=some t):∃k:Nat,Di l n=(k:Int)/\k<l.length/\l.getD k Dj=t:=by
 obtain⟨k,a,b,c⟩:=(find_spec n l 0).2 t h;exact⟨k,by unfold Di;rw[show(0:Int)=((0:Nat):Int)from rfl,a];congr 1;omega,b,c⟩
theorem xU{a b:List Am}(i:(a.map fun s=>s.2.1).Nodup)(f:(b.map fun s=>s.2.1).Nodup):((a++Ff a b).map fun s=>s.2.1).Nodup:=by
 rw[List.map_append,List.nodup_append];refine⟨i,?_,fun x h y g e=>?_⟩
 ·unfold Ff;exact f.sublist<|List.filter_sublist.map _
 ·subst e;obtain⟨s,d,rfl⟩:=z6.1 h;obtain⟨t,c,e⟩:=z6.1 g;have c:=(List.mem_filter.1 c).2;unfold pZ at c;rw[Bool.not_eq_true',List.any_eq_false]at c;exact c s d (by simpa using e.symm)
theorem zP{l:List Am}(d:(l.map fun s=>s.2.1).Nodup){k:Nat}(f:k<l.length){s:Am}(e:(l.getD k Dj).2.1=s.2.1):((l.set k s).map fun s=>s.2.1).Nodup:=by
 have:(l.set k s).map (fun s=>s.2.1)=l.map fun s=>s.2.1:=by
  rw[List.map_set];refine List.ext_getElem (by simp) fun i g h=>?_
  rw[List.getElem_set];split
  ·next c=>
   subst c;rw[List.getElem_map, <-e,List.getD_eq_getElem?_getD,List.getElem?_eq_getElem f];rfl
  ·rfl
 rw[this];exact d
end Go.Sp
namespace Go.Pe
open Go.Det
open Go.Sp (Am)
def Vi(m:List (Int×Am))(a:List Am):Prop:=∀n:Int,D9 (.int .i64) Az n m=Sp.Fj a n
theorem Vi.nil:Vi [] []:=fun _=>rfl
theorem Vi.add{m:List (Int×Am)}{a:List Am}(h:Vi m a)(x:Am)(f:x.2.1∉a.map fun s=>s.2.1):Vi (JH (.int .i64) Az x.2.1 x m) (a++[x]):=fun n=>by
 rw[GF,h n];unfold Sp.Fj;rw[List.find?_append];by_cases c:n=x.2.1
 ·subst c;have:List.find? (fun t:Am=>t.2.1==x.2.1) a=none:=List.find?_eq_none.2 fun t d k=>f (z6.2 ⟨t,d,by simpa using k⟩)
  rw[wd rfl,this];simp
 ·rw[wc c,zr,show(x.2.1==n)=false by simpa using fun e=>c e.symm];simp
open Sp
theorem UJ:Dn MW:=Aa T11.ok<|Aa T17.ok<|Aa T47.ok<|Aa T49.ok AP
namespace T20
variable {Q:PV->Ob->Prop}{a b:List Am}
structure Out(a b:List Am)(Q:PV->Ob->Prop):Prop where
 c:Fa a b=true->∀ob,Q (.tup [.nil,.dat i64 29]) ob
 m:Fa a b=false->256<(a++Ff a b).length->∀ob,Q (.tup [.nil,.dat i64 5]) ob
 o:Fa a b=false->¬256<(a++Ff a b).length->∀ob,Q (.tup [.dat (.list Az) (CQ (a++Ff a b)),.dat i64 0]) ob
theorem two(q:a.length<=256)(u:b.length<=256)(j:(a.map fun s=>s.2.1).Nodup)(O:Out a b Q){m:List (Int×Am)}(k:Vi m a):∀(r:List Am) (i:Nat) (o:List Am),b.drop i=r->i<=b.length->o.length<=256+i->Fa a b=Fa a r->o++Ff a r=a++Ff a b->Ends MW (L2 o.length b (b.length:Int) (i:Int) o m) Q
 |[],i,o,h,w,A,g,e=>by
  have D:=drop_nil h w;have g:Fa a b=false:=g;have e:o++[]=a++Ff a b:=e;rw[zo]at e;subst e;refine zk (AO ..) (zg (w8 ae)<|zl (fun z=>zh<|O.m g (by have:=w6 z;omega) _)<|fun z=>?_);have z:=w7 z;rw[zj];exact zc (Ab (Ab (w4 ae) rfl)<|w4 ae) (zh<|O.o g ae _)
 |x::r,i,o,h,w,A,g,e=>by
  obtain⟨v,C,p⟩:=drop_cons (d:=Dj) h;have B:=wn (i:=i) ae;have cap:(decide ((1:Nat)<=(1:Nat))&&true&&decide (o.length=o.length)&&decide ((3*(o.length+1)+2000)*56<=562949953421312))=true:=by
   rw[w4 (show(1:Nat)<=1 by omega),w4 rfl,w4 ae];rfl
  have y:(o++[x]).length=zn o.length 1:=by simp
  rw[HI]at g;rw[I4]at e;refine zk (AO ..) ?_;conv=>zeta
  rw[B,zf,C,k x.2.1];refine zc (w4 ae) (zc (GH ae) ?_);cases f:Fj a x.2.1 with
  |none=>
   rw[f]at e;rw[Ox f,zz]at g;have nx:=two q u j O k r (i+1) (o++[x]) p v (by rw[List.length_append,List.length_singleton];omega) g (by rw[<-e];simp);rw[y]at nx;exact zg rfl (zc rfl (zc cap nx))
  |some t=>
   rw[f]at e;rw[PU j f]at g;refine zc rfl ?_;rw[show zx (some t) Dj=t from rfl,WZ];by_cases c:t=x
   ·rw[w4 c];rw[w8 (by simpa using c),zz]at g;exact zg rfl (zg rfl (two q u j O k r (i+1) o p v ae g e))
   ·rw[w8 c];rw[w4 c,Bool.true_or]at g;exact zc rfl (zh<|O.c g _)
theorem one(g:a.length<=256)(j:b.length<=256)(e:(a.map fun s=>s.2.1).Nodup)(O:Out a b Q):∀(r:List Am) (i:Nat) (m:List (Int×Am)),a.drop i=r->i<=a.length->Vi m (a.take i)->Ends MW (L1 a b a (a.length:Int) (i:Int) m) Q
 |x::r,i,m,h,t,c=>by
  obtain⟨p,q,v⟩:=drop_cons (d:=Dj) h;have f:=wn (i:=i) ae;have w:a[i]=x:=by rw[<-q];simp[p]
  have tk:a.take (i+1)=a.take i++[x]:=by rw[List.take_succ_eq_append_getElem p,w]
  refine zk (Ar ..) ?_;conv=>zeta
  rw[f,zf,q];refine zc (w4 ae) (zc (GH ae)<|one g j e O r (i+1) _ v p ?_);rw[tk];refine c.add x fun k=>?_
  have nd:=e;rw[<-List.take_append_drop i a,h,List.map_append,List.nodup_append]at nd;exact nd.2.2 _ k _ (by rw[List.map_cons];exact List.mem_cons_self ..) rfl
 |[],i,m,h,t,c=>by
  have u:=drop_nil h t;rw[u,zj]at c;have st:=two g j e O c b 0 a rfl (zp _) ae rfl rfl;have cap:decide ((3*(0+a.length)+2000)*56<=562949953421312)=true:=w4 ae;have z:zn 0 a.length=a.length:=z8 _;refine zk (Ar ..) (zg (w8 ae) ?_);rw[z];refine zl (fun _=>zc cap st)<|fun k=>Ends.both ?_<|zc cap st;have k:=w7 k;have a0:a=[]:=List.length_eq_zero_iff.1 ae;subst a0;refine zk (Cr ..) ?_;conv=>zeta
  cases b with
  |nil=>exact zg rfl (zg rfl (zc rfl (zh<|O.o rfl (by simp[Ff]) _)))
  |cons x r=>
   have f:zi .i64 ((0:Int)+1)=((1:Nat):Int):=rfl;have nx:=two g j e O c r 1 [x] rfl (by simp) (by simp) (by rw[HI];rfl) (by rw[I4];rfl);rw[f,show List.getD (x::r) (Int.toNat 0) Dj=x from rfl,c x.2.1];exact zc (w4<|by simp only[zm];omega) (zc (GH<|by simp only[zm];omega)<|zg rfl (zc rfl (zc rfl nx)))
theorem ok:Af A9 20 jC:=by
 refine BM UJ<|fun(i:List Am×List Am) d=>?_;obtain⟨a,b⟩:=i;have d:(Kk a&&Kk b)=true:=d;rw[zq]at d;have j:∀(e:Int) ob,e≠0->e=Dl a b->Ad jC (a,b) (.tup [.nil,.dat i64 e]) ob:=fun e ob k r=>Ad.of rfl rfl (by
  show(([]:List Am),e)=(EY a b,Dl a b);unfold EY;rw[<-r,wd k])
 refine Ends.eq (Ai a b)<|zc d.1<|zc d.2<|zc rfl (zl (fun c=>zh<|j _ _ ?_ ?_)<|fun c=>?_)
 ·simpa using c
 ·have c:zd [A2 a,A2 b]≠0:=by simpa using c
  unfold Dl;rw[wd c]
 ·have c:zd [A2 a,A2 b]=0:=by simpa using c
  obtain⟨o,m⟩:=FL c;obtain⟨la,_,na⟩:=Cn o;obtain⟨lb,_,nb⟩:=Cn m;refine one la lb na ⟨fun h ob=>j _ _ af ?_,fun f g ob=>j _ _ af ?_,fun f g ob=>Ad.of rfl rfl ?_⟩ a 0 [] rfl (zp _) Vi.nil
  ·unfold Dl;rw[c,wc af,wd h]
  ·unfold Dl;rw[c,wc af,wc (by rw[f];decide),wd g]
  ·have e:Dl a b=0:=by
    unfold Dl;rw[c,wc af,wc (by rw[f];decide),wc g]
   show(CQ<|a++Ff a b,(0:Int))=(EY a b,Dl a b);unfold EY;rw[e,wc af]
end T20
namespace T24
variable {Q:PV->Ob->Prop}{l:List Am}{n:Int}
theorem loop(j:l.length<=1000000)(f:∀v ob,v=Di l n->Q (.dat i64 v) ob):∀(r:List Am) (i:Nat),l.drop i=r->i<=l.length->Di l n=HV n r i->Ends CS (L1 l n (i:Int)) Q
 |[],i,h,g,e=>by
  have q:=drop_nil h g;exact zk (Ar ..) (zg (w8 ae)<|zh<|f _ _ (by rw[e];rfl))
 |x::r,i,h,g,e=>by
  obtain⟨k,m,o⟩:=drop_cons (d:=Dj) h;have p:=wn (i:=i) ae;rw[HV]at e;refine zk (Ar ..) ?_;conv=>zeta
  rw[p,zf,m];refine zc (w4 ae) (zc (GH ae)<|zl (fun c=>zh<|f _ _ ?_)<|fun c=>?_)
  ·have c:x.2.1=n:=by simpa using c
   rw[e,wd c]
  ·have c:¬x.2.1=n:=by simpa using c
   rw[wc c]at e;exact loop j f r (i+1) o k e
theorem ok:Af A9 24 gE:=by
 refine BM Dy<|fun(i:List Am×Int) hi=>?_;obtain⟨l,n⟩:=i;have c:l.length<=1000000:=w6 hi;exact Ends.eq (Ai l n)<|loop c (fun v ob e=>Ad.of rfl rfl e) l 0 rfl (zp _) rfl
end T24
namespace T23
variable {Q:PV->Ob->Prop}{l:List Am}{s:Am}
theorem loop(c:zd [A2 l,DW s]=0)(p:l.length<=256)(j:∀ob,FF l s=10->Q (.tup [.nil,.dat i64 10]) ob)(f:∀ob,FF l s=0->Q (.tup [.dat (.list Az)<|Hb l s,.dat i64 0]) ob){o:List Int}:∀(r:List Am) (i:Nat),l.drop i=r->i<=l.length->Di l s.2.1=HV s.2.1 r i->Ends MW (L1 l s l (l.length:Int) (i:Int) o s.1 s.2.1 s.2.2.1 s.2.2.2.1 s.2.2.2.2.1 s.2.2.2.2.2) Q
 |[],i,g,k,e=>by
  have v:=drop_nil g k;refine zk (Ar ..) (zg (w8 ae)<|zc rfl (zh<|j _ ?_));unfold FF;rw[c,wc af,e];rfl
 |x::r,i,g,k,e=>by
  obtain⟨h,q,u⟩:=drop_cons (d:=Dj) g;have t:=wn (i:=i) ae;rw[HV]at e;refine zk (Ar ..) ?_;conv=>zeta
  rw[t,zf,q];refine zc (w4 ae) (zc (ad ae ae)<|zl (fun d=>?_)<|fun d=>?_)
  ·have d:x.2.1=s.2.1:=by simpa using d
   rw[wd d]at e;have m:FF l s=0:=by
    unfold FF;rw[c,wc af,e,wc ae]
   have f:=f [] m;unfold Hb at f;rw[m,wc af,e,zf]at f;have tk:List.take (zn 0 l.length) (List.set ([]++l) i (s.1,s.2.1,s.2.2.1,s.2.2.2.1,s.2.2.2.2.1,s.2.2.2.2.2))=l.set i s:=z7 (by rw[zt];simp);have a1:zn 0 l.length=l.length:=z8 _;refine zg (w8 ae) (zc (w4 ae)<|zc (w4 ae) (zc ?_<|zc (w4<|by simpa using h)<|zc ?_<|zh ?_))
   ·rw[a1];exact ad ae ae
   ·rw[tk,a1];refine Ab (Ab (w4 ?_) rfl)<|w4 ?_
    ·rw[zt];simp
    ·rw[zt];omega
   ·rw[tk];exact f
  ·have d:¬x.2.1=s.2.1:=by simpa using d
   rw[wc d]at e;exact loop c p j f r (i+1) u h e
theorem ok:Af A9 23 cU:=by
 refine BM UJ<|fun(i:List Am×Am) f=>?_;obtain⟨l,s⟩:=i;have f:(Kk l&&decide (s.2.2.2.1.length<=1000000))=true:=f;rw[zq]at f;have g:∀(e:Int) ob,e≠0->e=FF l s->Ad cU (l,s) (.tup [.nil,.dat i64 e]) ob:=fun e ob k r=>Ad.of rfl rfl (by
  show(([]:List Am),e)=(Hb l s,FF l s);unfold Hb;rw[<-r,wd k])
 refine Ends.eq (Ai l s)<|zc f.1<|zc f.2<|zc rfl (zl (fun c=>zh<|g _ _ ?_ ?_)<|fun c=>?_)
 ·simpa using c
 ·have c:zd [A2 l,DW s]≠0:=by simpa using c
  unfold FF;rw[wd c]
 ·have c:zd [A2 l,DW s]=0:=by simpa using c
  have h:A2 l=0:=by
   by_cases d:A2 l=0
   ·exact d
   ·rw[QR d]at c;exact wh c d
  refine loop c (Cn h).1 (fun ob r=>g _ _ af r.symm) (fun ob r=>Ad.of rfl rfl ?_) l 0 rfl (zp _) rfl;show(Hb l s,(0:Int))=(Hb l s,FF l s);rw[r]
end T23
end Go.Pe
namespace Go.Sp
theorem gN(a b:List Am):(EY a b).length<=256:=by
 unfold EY;split
 ·exact zp _
 ·next h=>
  have h:Dl a b=0:=Classical.not_not.1 h;rw[Go.Pe.C2];unfold Dl at h;split at h
  ·next c=>exact wh h c
  ·split at h
   ·cases h
   ·split at h
    ·cases h
    ·omega
theorem Tu(l:List Am)(s:Am):(Hb l s).length<=l.length:=by
 unfold Hb;split
 ·exact zp _
 ·rw[Go.Pe.C2,zt];exact Nat.le_refl _
theorem Us:∀b:List Am,Ff [] b=b
 |[]=>rfl
 |x::b=>by rw[I4,Us b];rfl
theorem Qz:∀b:List Am,Fa [] b=false
 |[]=>rfl
 |x::b=>by rw[HI,Qz b];rfl
end Go.Sp
namespace Go.Pe
open Sp
open Go.Det
open Go.Sp (Lv Am)
theorem bC:Dn CC:=Aa Vb<|Aa T9.ok<|Aa T10.ok<|Aa T20.ok<|Aa T24.ok<|Aa T13.ok<|Aa T14.ok<|Aa T23.ok<|Aa T15.ok<|Aa T21.ok<|Aa T25.ok AP
namespace T4
variable {Q:PV->Ob->Prop}{a b:List Am}{s1 s2 s3:Int}{s4:Lv}{s5 s6:Int}
structure Ok(a b:List Am)(s4:Lv):Prop where
 a:Iq a 20=true
 b:Iq b 20=true
 s:s4.length<=20
theorem cap(l:List Am)(h:l.length<=1000):decide ((3*(0+l.length)+2000)*56<=562949953421312)=true:=w4 ae
theorem Ab6(O:Ok a b s4)(q:∀ob,Q (.dat .bool true) ob):Ends CC (L14 a a.length a s1 s2 s3 s4 s5 s6) Q:=by
 have g:∀(b:Bool) ob,b=true->Q (.dat .bool b) ob:=fun b ob e=>by rw[e];exact q ob
 have m:=Lh O.a;have sl:=O.s;have w:=(Rr O.a).1;have d:decide (s4.length<=1000000)=true:=w4 ae;have i:decide ((Hb a (s1,s2,s3,s4,s5,s6)).length<=1000000)=true:=w4 (by have:=Tu a (s1,s2,s3,s4,s5,s6);omega);have w0:decide (0+a.length<=a.length)=true:=w4 ae;refine zk (yW ..) ?_;conv=>zeta
 rw[zj];refine zc (Ab m d) (zc (Ab (Ab w0 rfl) m)<|zc d (zc rfl (zl (fun c=>zc (Ab (Ab (Ab w0 rfl) rfl)<|w4 ae)<|zc rfl ?_)<|fun c=>?_)))
 ·have c:zd [A2 a,DW (s1,s2,s3,s4,s5,s6)]=0:=by simpa using c
  obtain⟨r,u⟩:=FL c;obtain⟨l1,_,nd⟩:=Cn r;cases f:Fj a s2 with
  |none=>
   have e:FF a (s1,s2,s3,s4,s5,s6)=10:=by
    unfold FF;rw[c,wc af,I9 f];rfl
   have v:Hb a (s1,s2,s3,s4,s5,s6)=[]:=by unfold Hb;rw[e,wd af]
   rw[I9 f];refine zc rfl (zc i<|zh<|g _ _<|I1 _ _ _ _ ?_);exact⟨v,e⟩
  |some t=>
   obtain⟨k,h,j,p⟩:=Ra f;have e:FF a (s1,s2,s3,s4,s5,s6)=0:=by
    unfold FF;rw[c,wc af,h,wc ae]
   have v:Hb a (s1,s2,s3,s4,s5,s6)=CQ (a.set k (s1,s2,s3,s4,s5,s6)):=by
    unfold Hb;rw[e,wc af,h,zf]
   have o:(a.set k (s1,s2,s3,s4,s5,s6)).length=a.length:=zt ..;have tk:List.take a.length (a.set k (s1,s2,s3,s4,s5,s6))=a.set k (s1,s2,s3,s4,s5,s6):=z7 ae;rw[h,zf,tk,w8<|show ¬(k:Int)<0 by omega];refine zg rfl (zc (GH ae)<|zc (w4 j)<|zc (Ab (Ab (w4 ae) rfl)<|Nz ⟨by omega,zP nd j ?_⟩)<|zc i<|zh<|g _ _<|I1 _ _ _ _ ?_)
   ·rw[p];exact X9 f
   ·rw[wc af];exact⟨e,v⟩
 ·have c:zd [A2 a,DW (s1,s2,s3,s4,s5,s6)]≠0:=by simpa using c
  have e:FF a (s1,s2,s3,s4,s5,s6)=zd [A2 a,DW (s1,s2,s3,s4,s5,s6)]:=by unfold FF;rw[wd c]
  refine zc (by simpa using c)<|zc i<|zh<|g _ _<|I1 _ _ _ _ ?_;rw[wd c];refine⟨?_,e⟩;unfold Hb;rw[e,wd c]
theorem Ab7(sl:s4.length<=20)(h:∀ob,Q (.dat .bool true) ob):Ends CC (L13 [] s1 s2 s3 s4 s5 s6) Q:=by
 have f:∀(b:Bool) ob,b=true->Q (.dat .bool b) ob:=fun b ob e=>by rw[e];exact h ob
 have d:decide (s4.length<=1000000)=true:=w4 ae;have g:decide ((Hb [] (s1,s2,s3,s4,s5,s6)).length<=1000000)=true:=w4 (by have:=Tu [] (s1,s2,s3,s4,s5,s6);rw[List.length_nil]at this;omega);refine zk (zQ ..)<|zc (Ab rfl d)<|zc rfl (zc d<|zc rfl (zl (fun c=>zc rfl (zc rfl (zc rfl (zc g<|zh<|f _ _<|I1 _ _ _ _ ?_))))<|fun c=>zc ?_<|zc g<|zh<|f _ _<|I1 _ _ _ _ ?_))
 ·have c:zd [A2 [],DW (s1,s2,s3,s4,s5,s6)]=0:=by simpa using c
  have e:FF [] (s1,s2,s3,s4,s5,s6)=10:=by
   unfold FF;rw[c,wc af];rfl
  show if (10:Int)≠0 then _ else _
  rw[wd af];refine⟨?_,e⟩;unfold Hb;rw[e,wd af]
 ·simpa using c
 ·have c:zd [A2 [],DW (s1,s2,s3,s4,s5,s6)]≠0:=by simpa using c
  have e:FF [] (s1,s2,s3,s4,s5,s6)=zd [A2 [],DW (s1,s2,s3,s4,s5,s6)]:=by unfold FF;rw[wd c]
  rw[wd c];refine⟨?_,e⟩;unfold Hb;rw[e,wd c]
theorem ml(a b:List Am):decide ((EY a b).length<=1000000)=true:=w4 (by have:=gN a b;omega)
theorem Xp(O:Ok a b s4)(d:∀ob,Q (.dat .bool true) ob){e:Int}{w:List Am}(c:FY (EY a b) (Dl a b) e w=true):Ends CC (zO a a.length (EY a b) (Dl a b) e w a s1 s2 s3 s4 s5 s6) Q:=
 zk (yS ..) (zc (ml a b)<|zg (by rw[c];rfl)<|Ab6 O d)
theorem uP(sl:s4.length<=20)(d:∀ob,Q (.dat .bool true) ob){e:Int}{w:List Am}(c:FY (EY [] b) (Dl [] b) e w=true):Ends CC (sQ [] (EY [] b) (Dl [] b) e w s1 s2 s3 s4 s5 s6) Q:=
 zk (Wi ..) (zc (ml [] b)<|zg (by rw[c];rfl)<|Ab7 sl d)
theorem vF(c:zd [A2 a,A2 b]≠0):FY (EY a b) (Dl a b) (zd [A2 a,A2 b]) []=true:=by
 have e:Dl a b=zd [A2 a,A2 b]:=by unfold Dl;rw[wd c]
 refine I1 _ _ _ _ ?_;rw[wd c];refine⟨?_,e⟩;unfold EY;rw[e,wd c]
theorem yR(c:zd [A2 a,A2 b]=0)(h:Fa a b=true):FY (EY a b) (Dl a b) 29 []=true:=by
 have e:Dl a b=29:=by unfold Dl;rw[c,wc af,wd h]
 refine I1 _ _ _ _ ?_;rw[wd af];refine⟨?_,e⟩;unfold EY;rw[e,wd af]
theorem zB(c:zd [A2 a,A2 b]=0)(h:Fa a b=false)(k:256<(a++Ff a b).length):FY (EY a b) (Dl a b) 5 []=true:=by
 have e:Dl a b=5:=by unfold Dl;rw[c,wc af,wc (by rw[h];decide),wd k]
 refine I1 _ _ _ _ ?_;rw[wd af];refine⟨?_,e⟩;unfold EY;rw[e,wd af]
theorem AbE(c:zd [A2 a,A2 b]=0)(h:Fa a b=false)(k:¬256<(a++Ff a b).length):FY (EY a b) (Dl a b) 0 (CQ<|a++Ff a b)=true:=by
 have e:Dl a b=0:=by unfold Dl;rw[c,wc af,wc (by rw[h];decide),wc k]
 refine I1 _ _ _ _ ?_;rw[wc af];refine⟨e,?_⟩;unfold EY;rw[e,wc af]
theorem two(O:Ok a b s4)(j:∀ob,Q (.dat .bool true) ob)(c:zd [A2 a,A2 b]=0){u:List Int}{w y:List Am}:∀(r:List Am) (i:Nat) (o:List Am),b.drop i=r->i<=b.length->o.length<=256+i->Fa a b=Fa a r->o++Ff a r=a++Ff a b->Ends CC (L11 a b a.length y w s1 s2 s3 s4 s5 s6 a.length b o.length (i:Int) o u a s1 s2 s3 s4 s5 s6) Q
 |[],i,o,h,B,E,g,e=>by
  have J:=drop_nil h B;obtain⟨p,m⟩:=FL c;obtain⟨la,_,na⟩:=Cn p;obtain⟨lb,_,nb⟩:=Cn m;have g:Fa a b=false:=g;have e:o++[]=a++Ff a b:=e;rw[zo]at e;subst e;have nd:=xU na nb;refine zk (gL ..) (zg (w8 ae)<|zl (fun z=>Xp O j<|zB c g (by have:=w6 z;omega))<|fun z=>?_);have z:=w7 z;rw[zj];exact zc (Ab (Ab (w4 ae) rfl)<|Nz ⟨by omega,nd⟩) (Xp O j<|AbE c g ae)
 |x::r,i,o,h,B,E,g,e=>by
  obtain⟨A,H,v⟩:=drop_cons (d:=Dj) h;obtain⟨p,m⟩:=FL c;obtain⟨la,_,na⟩:=Cn p;obtain⟨lb,_,nb⟩:=Cn m;have F:=wn (i:=i) ae;have cap:(decide ((1:Nat)<=(1:Nat))&&true&&decide (o.length=o.length)&&decide ((3*(o.length+1)+2000)*56<=562949953421312))=true:=by
   rw[w4 (show(1:Nat)<=1 by omega),w4 rfl,w4 ae];rfl
  have C:(o++[x]).length=zn o.length 1:=by simp
  have w0:(decide (0+a.length<=a.length)&&true&&true&&decide (a.length<=1000000))=true:=Ab (Ab (Ab (w4 ae) rfl) rfl) (w4 ae);have q:=GH (i:=(i:Int)) (n:=(b.length:Int)) ae;rw[HI]at g;rw[I4]at e;refine zk (gL ..) ?_;conv=>zeta
  rw[F,zf,H,zj];refine zc (w4 ae)<|zc q<|zc w0 ?_;cases f:Fj a x.2.1 with
  |none=>
   rw[f]at e;rw[Ox f,zz]at g;have nx:=two O j c (u:=u) (w:=w) (y:=y) r (i+1) (o++[x]) v A (by rw[List.length_append,List.length_singleton];omega) g (by rw[<-e];simp);rw[C]at nx;rw[I9 f];exact zg rfl (zc rfl (zc q<|zc cap nx))
  |some t=>
   rw[f]at e;rw[PU na f]at g;obtain⟨k,I,G,D⟩:=Ra f;rw[I,zf,D,WZ];refine zc (w4 ae) (zc (GH ae)<|zc (w4 G)<|zc q ?_);by_cases z:t=x
   ·rw[w4 z];rw[w8 (by simpa using z),zz]at g;exact zg rfl (zg (w8 ae)<|two O j c r (i+1) o v A ae g e)
   ·rw[w8 z];rw[w4 z,Bool.true_or]at g;exact zc rfl (Xp O j<|yR c g)
theorem uM(O:Ok a b s4)(d:∀ob,Q (.dat .bool true) ob):Ends CC (L8 a b a.length b a s1 s2 s3 s4 s5 s6) Q:=by
 have e:=Lh O.a;have tb:=Lh O.b;have g:=(Rr O.a).1;have w0:decide (0+a.length<=a.length)=true:=w4 ae;refine zk (H3 ..) ?_;conv=>zeta
 rw[zj];refine zc (Ab e tb) (zc (Ab (Ab w0 rfl) e)<|zc tb<|zc rfl (zl (fun c=>zc (Ab (Ab (Ab w0 rfl) rfl)<|cap a ae) ?_)<|fun c=>Xp O d<|vF<|by simpa using c));have c:zd [A2 a,A2 b]=0:=by simpa using c
 have f:=(Cn (FL c).1).1;have z:zn 0 a.length=a.length:=z8 _;rw[z];exact two O d c b 0 a rfl (zp _) ae rfl rfl
theorem three(sl:s4.length<=20)(g:∀ob,Q (.dat .bool true) ob)(c:zd [A2 [],A2 b]=0){u:List Int}{y:List Am}:∀(r:List Am) (i:Nat) (o:List Am),b.drop i=r->i<=b.length->o.length=i->o++r=b->Ends CC (L9 [] b y s1 s2 s3 s4 s5 s6 b o.length (i:Int) o u s1 s2 s3 s4 s5 s6) Q
 |[],i,o,h,k,f,e=>by
  have B:=drop_nil h k;obtain⟨A,_,nb⟩:=Cn (FL c).2;rw[zo]at e;subst e;have j:[]++Ff [] o=o:=Us o;refine zk (XS ..) (zg (w8 ae)<|zg (w8 ae) ?_);rw[zj];refine zc (Ab (Ab (w4 ae) rfl)<|Nz ⟨by omega,nb⟩)<|uP sl g ?_;have v:=AbE (a:=[]) (b:=o) c (Qz o) (by rw[j];omega);rw[j]at v;exact v
 |x::r,i,o,h,k,f,e=>by
  obtain⟨w,z,t⟩:=drop_cons (d:=Dj) h;obtain⟨A,_,nb⟩:=Cn (FL c).2;have q:=wn (i:=i) ae;have cap:(decide ((1:Nat)<=(1:Nat))&&true&&decide (o.length=o.length)&&decide ((3*(o.length+1)+2000)*56<=562949953421312))=true:=by
   rw[w4 (show(1:Nat)<=1 by omega),w4 rfl,w4 ae];rfl
  have p:(o++[x]).length=zn o.length 1:=by simp
  have m:=GH (i:=(i:Int)) (n:=(b.length:Int)) ae;have nx:=three sl g c (u:=u) (y:=y) r (i+1) (o++[x]) t w (by simp[f]) (by rw[<-e];simp);rw[p]at nx;refine zk (XS ..) ?_;conv=>zeta
  rw[q,zf,z,I9 (l:=[]) (n:=x.2.1) rfl];exact zc (w4 ae)<|zc m<|zc rfl (zg rfl (zc rfl (zc m<|zc cap nx)))
theorem tC(e:Iq b 20=true)(sl:s4.length<=20)(d:∀ob,Q (.dat .bool true) ob):Ends CC (L6 [] b b s1 s2 s3 s4 s5 s6) Q:=by
 have tb:=Lh e;refine zk (Gu ..) (zc (Ab rfl tb) (zc rfl (zc tb<|zc rfl (zl (fun c=>zc rfl ?_)<|fun c=>uP sl d<|vF<|by simpa using c))));have c:zd [A2 [],A2 b]=0:=by simpa using c
 exact three sl d c b 0 [] rfl (zp _) rfl rfl
theorem eO(t:56*b.length<=140737488355328)(c:∀ob,Q (.dat .bool true) ob){S:Am}{j:Int}{z:List Am}{t1 t2 t3:Int}{t4:Lv}{t5 t6:Int}:∀(r:List Am) (i:Nat) (o:List Am),b.drop i=r->i<=b.length->o.length=i->o++r=b->Ends CC (L7 a b S a a.length j z t1 t2 t3 t4 t5 t6 b o.length (i:Int) o a s1 s2 s3 s4 s5 s6) Q
 |[],i,o,h,g,f,e=>by
  have w:=drop_nil h g;rw[zo]at e;subst e;refine zk (ES ..) ?_;conv=>zeta
  rw[zj,zj];refine zg (w8 ae) (zc rfl (zg rfl (zc (Ab (Ab (Ab (w4 ae) rfl) rfl) rfl)<|zl (fun _=>zc rfl (zh<|c _))<|fun x=>zc (Ab (Ab (Ab (w4 ae) rfl) rfl) rfl)<|zl (fun _=>zc rfl (zh<|c _))<|fun y=>zl (fun _=>zc rfl (zh<|c _))<|fun k=>?_)));have k:=w7 k;exact uM ⟨by simpa using x,by simpa using y,by omega⟩ c
 |x::r,i,o,h,g,f,e=>by
  obtain⟨u,v,q⟩:=drop_cons (d:=Dj) h;have p:=wn (i:=i) ae;have cap:(decide ((1:Nat)<=(1:Nat))&&true&&decide (o.length=o.length)&&decide ((3*(o.length+1)+2000)*56<=562949953421312))=true:=by
   rw[w4 (show(1:Nat)<=1 by omega),w4 rfl,w4 ae];rfl
  have nx:=eO t c (S:=S) (j:=j) (z:=z) (t1:=t1) (t2:=t2) (t3:=t3) (t4:=t4) (t5:=t5) (t6:=t6) r (i+1) (o++[x]) q u (by simp[f]) (by rw[<-e];simp);have m:(o++[x]).length=zn o.length 1:=by simp
  rw[m]at nx;refine zk (ES ..) ?_;conv=>zeta
  rw[p,zf,v];exact zc (w4 ae) (zc (GH ae)<|zc cap nx)
theorem AbJ(u:56*b.length<=140737488355328)(f:∀ob,Q (.dat .bool true) ob){S:Am}{c:List Am}{j:Int}{t1 t2 t3:Int}{t4:Lv}{t5 t6:Int}:∀(r:List Am) (i:Nat) (o:List Am),b.drop i=r->i<=b.length->o.length=i->o++r=b->Ends CC (L5 [] b S c j t1 t2 t3 t4 t5 t6 b o.length (i:Int) o s1 s2 s3 s4 s5 s6) Q
 |[],i,o,h,m,g,e=>by
  have z:=drop_nil h m;rw[zo]at e;subst e;refine zk (Fb ..) ?_;conv=>zeta
  rw[zj];refine zg (w8 ae) (zc rfl (zg rfl (zc rfl (zg rfl (zc (Ab (Ab (Ab (w4 ae) rfl) rfl) rfl)<|zl (fun _=>zc rfl (zh<|f _))<|fun y=>zl (fun _=>zc rfl (zh<|f _))<|fun k=>?_)))));have k:=w7 k;exact tC (by simpa using y) ae f
 |x::r,i,o,h,m,g,e=>by
  obtain⟨v,w,t⟩:=drop_cons (d:=Dj) h;have q:=wn (i:=i) ae;have cap:(decide ((1:Nat)<=(1:Nat))&&true&&decide (o.length=o.length)&&decide ((3*(o.length+1)+2000)*56<=562949953421312))=true:=by
   rw[w4 (show(1:Nat)<=1 by omega),w4 rfl,w4 ae];rfl
  have nx:=AbJ u f (S:=S) (c:=c) (j:=j) (t1:=t1) (t2:=t2) (t3:=t3) (t4:=t4) (t5:=t5) (t6:=t6) r (i+1) (o++[x]) t v (by simp[g]) (by rw[<-e];simp);have p:(o++[x]).length=zn o.length 1:=by simp
  rw[p]at nx;refine zk (Fb ..) ?_;conv=>zeta
  rw[q,zf,w];exact zc (w4 ae) (zc (GH ae)<|zc cap nx)
theorem AbQ(v:56*a.length<=140737488355328)(m:56*b.length<=140737488355328)(c:∀ob,Q (.dat .bool true) ob){S:Am}:∀(r:List Am) (i:Nat) (o:List Am),a.drop i=r->i<=a.length->o.length=i->o++r=a->Ends CC (L2 a b S a o.length (i:Int) o s1 s2 s3 s4 s5 s6) Q
 |[],i,o,h,p,g,e=>by
  have A:=drop_nil h p;rw[zo]at e;subst e;refine zk (AO ..) (zg (w8 ae)<|zk (CN ..) ?_);cases b with
  |nil=>
   rw[zj];refine zg rfl (zc rfl (zg rfl (zc (Ab (Ab (Ab (w4 ae) rfl) rfl) rfl)<|zl (fun _=>zc rfl (zh<|c _))<|fun x=>zc rfl (zg rfl (zl (fun _=>zc rfl (zh<|c _))<|fun k=>?_)))));have k:=w7 k;exact uM ⟨by simpa using x,rfl,by omega⟩ c
  |cons x t=>
   have f:zi .i64 ((0:Int)+1)=((1:Nat):Int):=rfl;have st:=eO (a:=o) (Q:=Q) (S:=S) (j:=(i:Int)) (z:=o) (t1:=s1) (t2:=s2) (t3:=s3) (t4:=s4) (t5:=s5) (t6:=s6) (s1:=s1) (s2:=s2) (s3:=s3) (s4:=s4) (s5:=s5) (s6:=s6) m c t 1 [x] rfl (by simp) rfl rfl;rw[f];exact zc (w4<|by simp only[zm];omega) (zc (GH<|by simp only[zm];omega)<|zc rfl st)
 |x::r,i,o,h,p,g,e=>by
  obtain⟨w,y,u⟩:=drop_cons (d:=Dj) h;have f:=wn (i:=i) ae;have cap:(decide ((1:Nat)<=(1:Nat))&&true&&decide (o.length=o.length)&&decide ((3*(o.length+1)+2000)*56<=562949953421312))=true:=by
   rw[w4 (show(1:Nat)<=1 by omega),w4 rfl,w4 ae];rfl
  have nx:=AbQ v m c (S:=S) r (i+1) (o++[x]) u w (by simp[g]) (by rw[<-e];simp);have q:(o++[x]).length=zn o.length 1:=by simp
  rw[q]at nx;refine zk (AO ..) ?_;conv=>zeta
  rw[f,zf,y];exact zc (w4 ae) (zc (GH ae)<|zc cap nx)
theorem AcI(g:56*a.length<=140737488355328)(e:56*b.length<=140737488355328)(d:∀ob,Q (.dat .bool true) ob){S:Am}:Ends CC (L1 a b S a 0 s1 s2 s3 s4 s5 s6) Q:=by
 have f:zi .i64 ((0:Int)+1)=((1:Nat):Int):=rfl;refine zk (Ar ..) ?_;conv=>zeta
 cases a with
 |cons x t=>
  have st:=AbQ (a:=x::t) (Q:=Q) (S:=S) (s1:=s1) (s2:=s2) (s3:=s3) (s4:=s4) (s5:=s5) (s6:=s6) g e d t 1 [x] rfl (by simp) rfl rfl;rw[f];exact zc (w4<|by simp only[zm];omega) (zc (GH<|by simp only[zm];omega)<|zc rfl st)
 |nil=>
  refine zg rfl (zk (Cr ..) ?_);cases b with
  |nil=>
   refine zg rfl (zc rfl (zg rfl (zc rfl (zg rfl (zc rfl (zg rfl (zl (fun _=>zc rfl (zh<|d _))<|fun k=>?_)))))));have k:=w7 k;exact tC rfl ae d
  |cons x t=>
   have st:=AbJ (Q:=Q) (S:=S) (c:=[]) (j:=0) (t1:=s1) (t2:=s2) (t3:=s3) (t4:=s4) (t5:=s5) (t6:=s6) (s1:=s1) (s2:=s2) (s3:=s3) (s4:=s4) (s5:=s5) (s6:=s6) e d t 1 [x] rfl (by simp) rfl rfl;rw[f];exact zc (w4<|by simp only[zm];omega) (zc (GH<|by simp only[zm];omega)<|zc rfl st)
theorem ok:Af A9 4 LM:=by
 refine BM bC<|fun(i:List Am×List Am×Am) c=>?_;obtain⟨a,b,s1,s2,s3,s4,s5,s6⟩:=i;have c:(U9 a&&U9 b)=true:=c;rw[zq]at c;have f:56*a.length<=140737488355328:=w6 c.1;have d:56*b.length<=140737488355328:=w6 c.2;have e:∀ob,Ad LM (a,b,(s1,s2,s3,s4,s5,s6)) (.dat .bool true) ob:=fun ob=>Ad.of rfl rfl rfl
 exact Ends.eq (Ai a b (s1,s2,s3,s4,s5,s6))<|AcI f d e
end T4
theorem AcU{x:(Bv LM.ins).T}(h:pR LM.ins x):LM.pre x=true:=by
 obtain⟨⟨c,_⟩,⟨d,_⟩,_⟩:=h;have c:(x.1:List Am).length*56<=140737488351232:=c;have d:(x.2.1:List Am).length*56<=140737488351232:=d;exact ad ae ae
abbrev Ni:Ap:=LM
end Go.Pe
