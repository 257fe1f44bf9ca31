import Derived.Test.YtlohiljbghionaaGreatDoorX10
import Derived.Lib.ItoaMem
/- A part of a proof; no law is stated here. -/
noncomputable section
open Go.IntKind renaming wrap -> zc, u64 -> zd, u8 -> yh, i64 -> ym
open Go.Pe.Sh renaming list -> ze, str -> zh, bool -> zl, int -> zm, T -> qf
open Go.Sp renaming val -> zf, u64 -> zt, A5 -> yp, Dt -> yr, first -> yy, vI -> y8
open Go.Pe.Ends renaming tt -> zg, Ai -> yu, ite -> y7
open UInt8 renaming toNat -> zi, ofNat -> yx
open Int renaming mul_le_mul_of_nonneg_right -> zj, mul_assoc -> zk, toNat_natCast -> zn, mul_comm -> zp, mul_add -> zr, add_mul -> zw, mul_le_mul_of_nonneg_left -> zz, one_mul -> z6, le_of_lt -> z8, tmod -> ya, mul_nonneg -> yd, pow_succ -> yi, mul_ediv_add_emod -> yj, tdiv -> yn, mul_sub -> yv, sub_mul -> yz, mul_zero -> qc, add_zero -> qd, lt_or_le -> qe
open Nat renaming add -> zo, sub -> zy, add_sub_cancel -> yg, min_eq_left -> yq
open Go.Pe.PV renaming agg -> zq
open List renaming getD_eq_getElem?_getD -> zu, replicate -> zx, take_of_length_le -> yb, append_assoc -> yc, length_take -> ye, getElem?_eq_getElem -> yf, replicate_succ' -> yk, map -> yo, drop_eq_getElem_cons -> yt, mem_append -> yw
open Option renaming getD -> z7
open Min renaming min -> y9
namespace Go.Sp
abbrev Ag:=(Int×List Int)×(Int×List Int)
def N6(a:AK):Bool:=Dt a&&decide (a.2.length<=4000)
def Cw(a:Ag):Bool:=N6 a.1&&N6 a.2
def Dm(a b:Ag):Int:=Ck (vI a.1*vI b.2)<|vI b.1*vI a.2
def RI(a:Z):Int:=C4<|Bf a
def RC(a:Z):List Int:=C3<|Bf a
def Re(a:Z):Int:=C4<|AN a
def Rg(a:Z):List Int:=C3<|AN a
def iQ(a b:AK):AK:=if vI b<0 then HW (Du a) (Du b)else HW a b
def iQS(a b:AK):Int:=(iQ a b).1
def iQW(a b:AK):List Int:=(iQ a b).2
def C8(d:AK):Bool:=decide (d.2=[])&&decide (d.1=1)
def gR(n d:AK):AK:=(NR n d,Nz n d)
def N5(n d:AK):Ag:=if C8 d=true then(n,d)else(iQ n<|gR n d,iQ d<|gR n d)
def S7(n d:AK):Ag:=if vI d<0 then N5 (Du n) (Du d)else N5 n d
def fWh(n:AK):Ag:=(n,(1,Co 1))
def Cd(a b:Ag):Ag:=if C8 a.2=true/\C8 b.2=true then fWh (ES a.1 b.1)else S7 (ES (FN a.1 b.2)<|FN b.1 a.2)<|FN a.2 b.2
def GF(a b:Ag):Ag:=S7 (FN a.1 b.1)<|FN a.2 b.2
def Abf(a:Ag):Ag:=(Du a.1,a.2)
def Gu(a b:Ag):Ag:=Cd a<|Abf b
def WC(a:Ag):Ag:=S7 a.2 a.1
def K1(a b:Ag):Ag:=GF a<|WC b
def nS(f:Ag):Int:=f.1.1
def nW(f:Ag):List Int:=f.1.2
def dS(f:Ag):Int:=f.2.1
def dW(f:Ag):List Int:=f.2.2
def uG(n d:AK):Int:=nS<|S7 n d
def uN(n d:AK):List Int:=nW<|S7 n d
def vY(n d:AK):Int:=dS<|S7 n d
def xX(n d:AK):List Int:=dW<|S7 n d
def Nw(a b:Ag):Int:=nS<|Cd a b
def ND(a b:Ag):List Int:=nW<|Cd a b
def Nv(a b:Ag):Int:=dS<|Cd a b
def NY(a b:Ag):List Int:=dW<|Cd a b
def AdW(a b:Ag):Int:=nS<|Gu a b
def AdT(a b:Ag):List Int:=nW<|Gu a b
def Adl(a b:Ag):Int:=dS<|Gu a b
def Ac1(a b:Ag):List Int:=dW<|Gu a b
def zM(a b:Ag):Int:=nS<|GF a b
def Aad(a b:Ag):List Int:=nW<|GF a b
def Aam(a b:Ag):Int:=dS<|GF a b
def yT(a b:Ag):List Int:=dW<|GF a b
def Adb(a:Ag):Int:=nS<|WC a
def AdX(a:Ag):List Int:=nW<|WC a
def AdE(a:Ag):Int:=dS<|WC a
def Adp(a:Ag):List Int:=dW<|WC a
def zA(a b:Ag):Int:=nS<|K1 a b
def Aau(a b:Ag):List Int:=nW<|K1 a b
def zX(a b:Ag):Int:=dS<|K1 a b
def Aai(a b:Ag):List Int:=dW<|K1 a b
def CQ(a:Ag):Bool:=Cw a&&decide (0<vI a.2)
def KZ(n d:AK):Bool:=Bh n&&Bh d&&decide (vI d≠0)
end Go.Sp
namespace Go.Pe
open Sp
open Go.Det
abbrev Av:Sh:=.pair A4 A4
def MC:Am:=⟨[.str],fun s=>DR s,[Av],fun s=>((RI s,RC s),(Re s,Rg s)),false⟩
def Rj:Am:=⟨[Av,Av],fun i=>Sp.Cw (i.1:Ag)&&Sp.Cw (i.2:Ag),[i64],fun i=>Dm (i.1:Ag) (i.2:Ag),false⟩
def cIQ:Am:=⟨[A4,A4],fun i=>KZ i.1 i.2,[A4],fun i=>(Sp.iQS i.1 i.2,Sp.iQW i.1 i.2),false⟩
def pD:Am:=⟨[A4,A4],fun i=>KZ i.1 i.2,[Av],fun i=>((uG i.1 i.2,uN i.1 i.2),(vY i.1 i.2,xX i.1 i.2)),false⟩
def QH:Am:=⟨[Av],fun _=>true,[.bool],fun a=>C8 (a:Ag).2,false⟩
def pV:Am:=⟨[A4],fun _=>true,[Av],fun n=>((n:AK),((1:Int),Co 1)),false⟩
def cF:Am:=⟨[i64],fun _=>true,[Av],fun n=>(((n:Int),Co n),((1:Int),Co 1)),false⟩
def zH:Am:=⟨[Av],fun a=>yr (a:Ag).1,[Av],fun a=>((EU (a:Ag).1,EW (a:Ag).1),((a:Ag).2.1,(a:Ag).2.2)),false⟩
def NI:Am:=⟨[Av,Av],fun i=>Sp.CQ (i.1:Ag)&&Sp.CQ (i.2:Ag),[Av],fun i=>((Nw i.1 i.2,ND i.1 i.2),(Nv i.1 i.2,NY i.1 i.2)),false⟩
def kA:Am:=⟨[Av,Av],fun i=>Sp.CQ (i.1:Ag)&&Sp.CQ (i.2:Ag),[Av],fun i=>((AdW i.1 i.2,AdT i.1 i.2),(Adl i.1 i.2,Ac1 i.1 i.2)),false⟩
def VY:Am:=⟨[Av,Av],fun i=>Sp.CQ (i.1:Ag)&&Sp.CQ (i.2:Ag),[Av],fun i=>((zM i.1 i.2,Aad i.1 i.2),(Aam i.1 i.2,yT i.1 i.2)),false⟩
def Aag:Am:=⟨[Av],fun a=>Sp.CQ (a:Ag)&&decide (y8 (a:Ag).1≠0),[Av],fun a=>((Adb a,AdX a),(AdE a,Adp a)),false⟩
def mO:Am:=⟨[Av,Av],fun i=>Sp.CQ (i.1:Ag)&&Sp.CQ (i.2:Ag)&&decide (y8 (i.2:Ag).1≠0),[Av],fun i=>((zA i.1 i.2,Aau i.1 i.2),(zX i.1 i.2,Aai i.1 i.2)),false⟩
def rD:AT:=SS [(189,[3])] [] [(189,[(3,[2,3,4])])] [(161,Kw),(143,Vq),(190,Hz),(170,Zh),(106,VT),(139,PT),(127,Sm),(105,lK),(124,gU),(126,Q8)]
def XA1:AT:=SS [(140,[3,6])] [] [(140,[(3,[2,3,4]),(6,[2,3,4,5])])] [(161,Kw),(143,Vq),(170,Zh),(189,cIQ)]
def XA2:AT:=SS [(75,[3])] [] [(75,[(3,[2,3,4])])] [(138,QH),(125,pV),(139,PT),(127,Sm),(140,pD)]
def XA3:AT:=X7 [(137,zH),(75,NI),(102,VY),(141,Aag)]
end Go.Pe
namespace Go.Sp
def T1(a:Z):Z:=if Bs a=true then AV a else[49]
end Go.Sp
namespace Go.Pe
open Go.Det
def lG:Am:=⟨[.str],fun s=>decide (s.length<=1000000),[.str],fun s=>Sp.A9 s,false⟩
def zB:Am:=⟨[.str],fun s=>decide (s.length<=1000000),[.str],fun s=>Sp.AB s,false⟩
def lP:Am:=⟨[.str],fun s=>decide (s.length<=1000000),[.str],fun s=>Sp.T1 s,false⟩
def XM5:AT:=X7 [(128,Pf)]
end Go.Pe
namespace Go.Sp
def Eo(a:Z):Bool:=decide (a.length<=20)&&decide ((AB<|A9 a).length<=9)&&decide ((AV<|A9 a).length<=9)
def Ji(a:Z):Int:=if preB a=true then -AF 0 (AB<|A9 a)else AF 0<|AB<|A9 a
def TO(a:Z):Int:=if Bs (A9 a)=true then AF 0 (AV<|A9 a)else 1
def FT(a:Z):Int:=if a=[48]then 0 else if a.getD 0 0=45 then -1 else 1
def Lx(a:Z):Z:=if a=[48]then a else if a.getD 0 0=45 then a.drop 1 else 45::a
def HO:Nat->Nat->Nat->Z->Z
 |0,_,_,a=>a
 |f+1,n,l,a=>if n=0/\l<=a.length then a else HO f (n/10) l (yx (48+n % 10)::a)
def IG(n l:Int):Z:=HO 64 n.toNat l.toNat []
def Adu(a b:Int):Bool:=decide (0<=a)&&decide (a<9223372036854775808)&&decide (0<=b)&&decide (b<9223372036854775808)
end Go.Sp
namespace Go.Pe
open Go.Det
def zY:Am:=⟨[i64,i64],fun i=>Sp.Adu i.1 i.2,[i64],fun i=>Sp.gI i.1 i.2,false⟩
def M6:Am:=⟨[.str],fun s=>decide (s.length<=1000000),[i64],fun s=>Sp.FT s,false⟩
def ZL:Am:=⟨[.str],fun s=>decide (s.length<=1000000),[.str],fun s=>Sp.Lx s,false⟩
def Pg:Am:=⟨[i64,i64],fun i=>decide (0<=(i.1:Int))&&decide ((i.1:Int)<9223372036854775808)&&decide (0<=(i.2:Int))&&decide ((i.2:Int)<=20),[.str],fun i=>Sp.IG i.1 i.2,false⟩
def Oq:AT:=SS [(91,[5,7,11,13])] [] [(91,[(5,[5,6]),(7,[5,6]),(11,[5,6,7,8,9]),(13,[6,8,9])])] [(152,T2),(128,Pf)]
def XO2:AT:=X7 [(38,M6)]
end Go.Pe
namespace Go.Sp
open Go.Lib
theorem Gk(a d:Nat)(b:0<a)(c:d<10):decDigits (10*a+d)=decDigits a++[yx<|48+d]:=by
 rw[decDigits,dif_neg ae,show(10*a+d)/10=a from by omega,show(10*a+d) % 10=d from by omega]
theorem kW(a d:Nat)(b:0<a)(c:d<10):nDigits (10*a+d)=nDigits a+1:=by
 rw[nDigits_big ae,show(10*a+d)/10=a from by omega]
def GH(k b:Nat):Z:=zx (k-nDigits b) 48++decDigits b
theorem Sf(k b d:Nat)(f:1<=k)(a:d<10):GH (k+1) (10*b+d)=GH k b++[yx<|48+d]:=by
 unfold GH;rcases Nat.eq_zero_or_pos b with rfl|c
 ·rw[Nat.mul_zero,Nat.zero_add,nDigits_small a,decDigits_one a,nDigits_small ae,decDigits_one ae];obtain⟨j,rfl⟩:∃j,k=j+1:=⟨k-1,by omega⟩;have e:(48:UInt8)=yx (48+0):=rfl;rw[yg,yg, <-e,yk,yc]
 ·rw[kW b d c a,Gk b d c a, <-yc,Nat.add_sub_add_right]
theorem TR:∀(k a b:Nat),1<=k->0<a->b<10^k->decDigits (a*10^k+b)=decDigits a++GH k b
 |0,_,_,h,_,_=>by omega
 |1,a,b,_,d,c=>by
  rw[Nat.pow_one]at*;rw[Nat.mul_comm,Gk a b d c];unfold GH;rw[nDigits_small c,decDigits_one c];rfl
 |k+2,a,b,_,d,c=>by
  have f:b=10*(b/10)+b % 10:=ae
  have e:b/10<10^(k+1):=by
   rw[Nat.pow_succ 10<|k+1]at c;omega
  have i:a*10^(k+2)+b=10*(a*10^(k+1)+b/10)+b % 10:=by
   rw[Nat.pow_succ 10<|k+1, <-Nat.mul_assoc];omega
  have hp:0<a*10^(k+1):=Nat.mul_pos d (Nat.pow_pos ae);have j:=TR (k+1) a (b/10) ae d e;have g:=Sf (k+1) (b/10) (b % 10) ae ae;rw[i,Gk _ _ ae ae,j,yc, <-g, <-f]
def CB:Nat->Nat->List Z
 |0,_=>[]
 |f+1,v=>if v<10^18 then[decDigits v]else GH 18 (v % 10^18)::CB f (v/10^18)
theorem Jr:∀(f v:Nat),v<f->(CB f v).reverse.flatten=decDigits v
 |0,_,h=>by omega
 |f+1,v,h=>by
  unfold CB;split
  ·simp
  ·next c=>
   have hp:1<=v/10^18:=ae
   have d:v/10^18<f:=ae
   have b:=Jr f (v/10^18) d;rw[List.reverse_cons,List.flatten_append,b];have a:=TR 18 (v/10^18) (v % 10^18) ae ae (Nat.mod_lt _ af);rw[show v/10^18*10^18+v % 10^18=v from by omega]at a;rw[a];simp
end Go.Sp
namespace Go.Pe
open Sp
open Go.Det
section
open List Int Prod
namespace T55
def T(s:Z):Tr:=tree rD false 9 55<|Ae ([zh]) s
theorem Aj(s:Z):T s=.ck (Ab1 s [(47:UInt8)]) (.ite (!Bs s) (.ck (DZ<|AB s)<|.ck true<|.leaf (zq [.dat i64<|Dv<|AB s,.dat wU<|Dy<|AB s,.dat i64 (1:Int),.dat wU<|Co 1]) [])<|.ck (DZ<|AB s)<|.ck (DZ<|Sp.AV s)<|.leaf (zq [.dat i64<|Dv<|AB s,.dat wU<|Dy<|AB s,.dat i64<|Dv<|Sp.AV s,.dat wU<|Dy<|Sp.AV s]) []):=by kernel_rfl
end T55
namespace T189
def T(a b:AK):Tr:=tree rD false 9 189<|Ae ([A4,A4]) (a,b)
def L1(c o1:Int)(b:List Int)(d:Int)(a:List Int):Tr:=re ((T (0,[]) (0,[])).L.L.L.L)<|Aw 21 [(2,.ptr 0 0),(3,.ptr 1 0),(4,.ptr 2 0)] [(2,.box [.dat i64 c,.nil]),(1,.box [.dat i64 o1,.dat wU b]),(0,.box [.dat i64 d,.dat wU a])] 3
theorem Aj(a b:AK):T a b=.ck (yr b) (.ite (decide (Ix b<0)) (.ck (yr a)<|.ck (yr b)<|L1 0 (EU b) (EW b) (EU a)<|EW a)<|L1 0 (fst b) (snd b) (fst a)<|snd a):=by kernel_rfl
theorem Al(d o1:Int)(a:List Int)(c:Int)(b:List Int):stepT rD (L1 d o1 a c b)=.ck (Bh (c,b)&&Bh (o1,a)&&decide (0<y8 (o1,a))) (.leaf (zq [.dat i64<|zV (c,b) (o1,a),.dat wU<|zE (c,b) (o1,a)]) []):=by kernel_rfl
end T189
namespace T140
def T(n d:AK):Tr:=tree XA1 false 9 140<|Ae ([A4,A4]) (n,d)
def L1(d b o1:Int)(c:List Int)(e:Int)(a:List Int):Tr:=re ((T (0,[]) (0,[])).L.L.L.L)<|Aw 34 [(2,.ptr 0 0),(3,.ptr 1 0),(4,.ptr 2 0)] [(2,.box [.dat i64 d,.nil,.dat i64 b,.nil]),(1,.box [.dat i64 o1,.dat wU c]),(0,.box [.dat i64 e,.dat wU a])] 3
theorem Aj(n d:AK):T n d=.ck (yr d) (.ite (decide (Ix d<0)) (.ck (yr n)<|.ck (yr d)<|L1 0 0 (EU d) (EW d) (EU n)<|EW n)<|L1 0 0 (fst d) (snd d) (fst n)<|snd n):=by kernel_rfl
def L2(g:Int)(d:List Int)(e c o1:Int)(a:List Int)(f:Int)(b:List Int):Tr:=re ((stepT XA1<|L1 0 0 0 [] 0 []).L.R.L)<|Aw 34 [(2,.ptr 0 0),(3,.ptr 1 0),(4,.ptr 2 0),(5,.ptr 3 0)] [(3,.box [.dat i64 g,.dat wU d]),(2,.box [.dat i64 e,.nil,.dat i64 c,.nil]),(1,.box [.dat i64 o1,.dat wU a]),(0,.box [.dat i64 f,.dat wU b])] 4
theorem Al(f c o1:Int)(a:List Int)(d:Int)(b:List Int):stepT XA1 (L1 f c o1 a d b)=let e:Tr:=.ck (Bh (d,b)&&Bh (o1,a))<|L2 (NR (d,b) (o1,a)) (Nz (d,b) (o1,a)) f c o1 a d b;.ite (!decide (0<length a)) (.ite (o1==1) (.leaf (zq [.dat i64 d,.dat wU b,.dat i64 o1,.dat wU a]) []) e) e:=by kernel_rfl
theorem AG(d:Int)(a:List Int)(g e o1:Int)(b:List Int)(f:Int)(c:List Int):stepT XA1 (L2 d a g e o1 b f c)=.ck (KZ (f,c) (d,a)) (.ck (KZ (o1,b) (d,a))<|.leaf (zq [.dat i64<|Sp.iQS (f,c) (d,a),.dat wU<|Sp.iQW (f,c) (d,a),.dat i64<|Sp.iQS (o1,b) (d,a),.dat wU<|Sp.iQW (o1,b) (d,a)]) []):=by kernel_rfl
end T140
namespace T138
def T(a:Ag):Tr:=tree rD false 9 138<|Ae ([Av]) a
theorem Aj(a:Ag):T a=.ite (!decide (0<length (snd<|snd a))) (.leaf (.dat zl<|fst (snd a)==1) []) (.leaf (.bl false) []):=by kernel_rfl
end T138
namespace T125
def T(n:AK):Tr:=tree rD false 9 125<|Ae ([A4]) n
theorem Aj(n:AK):T n=.ck true (.leaf (zq [.dat i64<|fst n,.dat wU<|snd n,.dat i64 (1:Int),.dat wU<|Co 1]) []):=by kernel_rfl
end T125
namespace T137
def T(a:Ag):Tr:=tree rD false 9 137<|Ae ([Av]) a
theorem Aj(a:Ag):T a=.ck (yr<|fst a) (.leaf (zq [.dat i64<|EU<|fst a,.dat wU<|EW<|fst a,.dat i64<|fst<|snd a,.dat wU<|snd<|snd a]) []):=by kernel_rfl
end T137
namespace T75
def T(a b:Ag):Tr:=tree XA2 false 9 75<|Ae ([Av,Av]) (a,b)
def L1(h g o1:Int)(c:List Int)(d:Int)(b:List Int)(i:Int)(a:List Int)(e:Int)(f:List Int):Tr:=re ((T ((0,[]),(0,[])) ((0,[]),(0,[]))).L.L.L.R)<|Aw 34 [(2,.ptr 0 0),(3,.ptr 1 0),(4,.ptr 2 0)] [(2,.box [.dat i64 h,.nil,.dat i64 g,.nil]),(1,.box [.dat i64 o1,.dat wU c,.dat i64 d,.dat wU b]),(0,.box [.dat i64 i,.dat wU a,.dat i64 e,.dat wU f])] 3
theorem Aj(a b:Ag):T a b=let c:=L1 0 0 (fst<|fst b) (snd<|fst b) (fst<|snd b) (snd<|snd b) (fst<|fst a) (snd<|fst a) (fst<|snd a)<|snd<|snd a;.ck true (.ite (C8<|snd a) (.ck true<|.ite (C8<|snd b) (.ck (Bh (fst a)&&Bh (fst b))<|.ck true<|.leaf (zq [.dat i64<|Kl (fst a)<|fst b,.dat wU<|Kp (fst a)<|fst b,.dat i64 (1:Int),.dat wU<|Co 1]) []) c) c):=by kernel_rfl
theorem Al(l h o1:Int)(f:List Int)(b:Int)(a:List Int)(i:Int)(e:List Int)(c:Int)(d:List Int):stepT XA2 (L1 l h o1 f b a i e c d)=let b':=(Fq (c,d) (b,a),Fx (c,d) (b,a));let k:=(Fq (i,e) (b,a),Fx (i,e) (b,a));let j:=(Fq (o1,f) (c,d),Fx (o1,f) (c,d));let g:=(Kl k j,Kp k j);.ck (Bh (i,e)&&Bh (b,a)) (.ck (Bh (o1,f)&&Bh (c,d))<|.ck (Bh k&&Bh j)<|.ck (Bh (c,d)&&Bh (b,a))<|.ck (KZ g b')<|.leaf (zq [.dat i64<|uG g b',.dat wU<|uN g b',.dat i64<|vY g b',.dat wU<|xX g b']) []):=by kernel_rfl
end T75
namespace T102
def T(a b:Ag):Tr:=tree XA2 false 9 102<|Ae ([Av,Av]) (a,b)
theorem Aj(a b:Ag):T a b=let c:=(Fq (fst a)<|fst b,Fx (fst a)<|fst b);let b':=(Fq (snd a)<|snd b,Fx (snd a)<|snd b);.ck (Bh (fst a)&&Bh (fst b)) (.ck (Bh (snd a)&&Bh (snd b))<|.ck (KZ c b')<|.leaf (zq [.dat i64<|uG c b',.dat wU<|uN c b',.dat i64<|vY c b',.dat wU<|xX c b']) []):=by kernel_rfl
end T102
namespace T141
def T(a:Ag):Tr:=tree XA2 false 9 141<|Ae ([Av]) a
theorem Aj(a:Ag):T a=.ck (KZ (snd a)<|fst a) (.leaf (zq [.dat i64<|uG (snd a)<|fst a,.dat wU<|uN (snd a)<|fst a,.dat i64<|vY (snd a)<|fst a,.dat wU<|xX (snd a)<|fst a]) []):=by kernel_rfl
end T141
namespace T74
def T(a b:Ag):Tr:=tree XA3 false 9 74<|Ae ([Av,Av]) (a,b)
theorem Aj(a b:Ag):T a b=let c:=((EU<|fst b,EW<|fst b),fst<|snd b,snd<|snd b);let b':=((fst a),fst<|snd a,snd<|snd a);.ck (yr<|fst b) (.ck (Sp.CQ b'&&Sp.CQ c)<|.leaf (zq [.dat i64<|Nw b' c,.dat wU<|ND b' c,.dat i64<|Nv b' c,.dat wU<|NY b' c]) []):=by kernel_rfl
end T74
namespace T76
def T(a b:Ag):Tr:=tree XA3 false 9 76<|Ae ([Av,Av]) (a,b)
theorem Aj(a b:Ag):T a b=let b':=((fst a),fst<|snd a,snd<|snd a);let d:=((fst b),fst<|snd b,snd<|snd b);let c:=WC d;.ck (Sp.CQ d&&decide (y8 (fst b)≠0)) (.ck (Sp.CQ b'&&Sp.CQ c)<|.leaf (zq [.dat i64<|zM b' c,.dat wU<|Aad b' c,.dat i64<|Aam b' c,.dat wU<|yT b' c]) []):=by kernel_rfl
end T76
namespace T56
def T(a b:Ag):Tr:=tree rD false 9 56<|Ae ([Av,Av]) (a,b)
theorem Aj(a b:Ag):T a b=let c:=(Fq (fst a)<|snd b,Fx (fst a)<|snd b);let b':=(Fq (fst b)<|snd a,Fx (fst b)<|snd a);.ck (Bh (fst a)&&Bh (snd b)) (.ck (Bh (fst b)&&Bh (snd a))<|.ck (Bh c&&Bh b')<|.leaf (.dat i64<|eU c b') []):=by kernel_rfl
end T56
namespace T128
def T(s:Z):Tr:=tree OJ false 9 128<|Ae ([zh]) s
def L1(v0:Z)(v3:Int):Tr:=re ((T []))<|Aw 17 [(0,.dat zh v0),(3,.dat i64 v3)] [] 0
theorem Aj(s:Z):T s=L1 s 0:=by kernel_rfl
theorem Al(v0:Z)(v3:Int):stepT OJ (L1 v0 v3)=let a:=(length v0:Int);.di (v3<a) (.ck (decide (0<=v3)&&decide (v3<a))<|.ite ((↑(zi<|getD v0 (toNat v3) (0:UInt8)):Int)==47) (.leaf (.dat i64 v3) [])<|L1 v0<|zc .i64<|v3+1) (.leaf (.dat i64 a) []):=by kernel_rfl
end T128
namespace T129
def T(s:Z):Tr:=tree OJ false 9 129<|Ae ([zh]) s
def L1(s v0:Z)(v3:Int):Tr:=re ((T s).R.L.L.R)<|Aw 20 [(0,.dat zh v0),(3,.dat i64 v3)] [] 0
def L2(s v0:Z)(v3:Int):Tr:=re ((T s).R.R)<|Aw 20 [(0,.dat zh v0),(3,.dat i64 v3)] [] 0
theorem Aj(s:Z):T s=let a:=(length s:Int);.ite (a==0) (.leaf (.bl false) []) (.di (a>1) (.cd (0<a)<|.ite ((↑(zi<|getD s 0 (0:UInt8)):Int)==48) (.leaf (.bl false) [])<|L1 s s 0)<|L2 s s 0):=by kernel_rfl
theorem Al(s v0:Z)(v3:Int):stepT OJ (L1 s v0 v3)=let a:=decide (v3<(length v0:Int));let b':=(↑(zi<|getD v0 (toNat v3) (0:UInt8)):Int);.ite a (.ck (decide (0<=v3)&&a)<|.di (b'<48) (.leaf (.bl false) [])<|.ck (decide (0<=v3)&&a)<|.di (b'>57) (.leaf (.bl false) [])<|L1 s v0<|zc .i64<|v3+1) (.leaf (.bl true) []):=by kernel_rfl
theorem AG(s v0:Z)(v3:Int):stepT OJ (L2 s v0 v3)=let a:=decide (v3<(length v0:Int));let b':=(↑(zi<|getD v0 (toNat v3) (0:UInt8)):Int);.ite a (.ck (decide (0<=v3)&&a)<|.di (b'<48) (.leaf (.bl false) [])<|.ck (decide (0<=v3)&&a)<|.di (b'>57) (.leaf (.bl false) [])<|L2 s v0<|zc .i64<|v3+1) (.leaf (.bl true) []):=by kernel_rfl
end T129
namespace T97
def T(n:Int):Tr:=tree zD false 9 97<|Ae ([zm ym]) n
def L1(v0:Int)(v4:Bool):Tr:=re ((T 0))<|Aw 25 [(0,.dat i64 v0),(2,.ptr 0 0),(3,.nil),(4,.dat zl v4)] [(0,.box [.bl false,.nil])] 1
theorem Aj(n:Int):T n=L1 n (decide (n<0)):=by kernel_rfl
def L2(v0:Int)(a:Nat)(v4:Bool)(o1:List Int):Tr:=re ((stepT zD<|L1 0 false).L.L.L.L.L)<|Aw 25 [(0,.dat i64 v0),(2,.ptr 0 0),(3,.sl 1 1 0 a none),(4,.dat zl v4)] [(1,.arr false 3 i64 o1),(0,.box [.bl false,.nil])] 2
theorem Al(v0:Int)(v4:Bool):stepT zD (L1 v0 v4)=let a:=aa 8;let b':=zc .i64<|yn v0 1000000000;.ite (v0 !=0) (.ck true<|.di (ya v0 1000000000<0) (.ck a<|.ck true<|L2 b' 1 v4<|[zc .i64<|0-ya v0 1000000000])<|.ck a<|.ck true<|L2 b' 1 v4<|[ya v0 1000000000]) (.cd (0<=20000)<|.leaf (zq [.dat zl<|Sp.CM v4 [],.dat (ze i64)<|Sp.Ay []]) []):=by kernel_rfl
theorem AG(v0:Int)(a:Nat)(v4:Bool)(o1:List Int):stepT zD (L2 v0 a v4 o1)=let b:=ac a (length o1) 8;let b':=zc .i64<|yn v0 1000000000;.ite (v0 !=0) (.ck true<|.di (ya v0 1000000000<0) (.ck b<|.ck true<|L2 b' (zo a 1) v4<|o1++[zc .i64<|0-ya v0 1000000000])<|.ck b<|.ck true<|L2 b' (zo a 1) v4<|o1++[ya v0 1000000000]) (.ck (decide (0+a<=length o1)&&true&&decide (length (take a o1)<=20000))<|.leaf (zq [.dat zl<|Sp.CM v4<|take a o1,.dat (ze i64)<|Sp.Ay<|take a o1]) []):=by kernel_rfl
end T97
namespace T92
def T(a:Z):Tr:=tree XK3 false 9 92<|Ae ([zh]) a
theorem Aj(a:Z):T a=let b':=zc .i64<|A0 a+1;let b:=take (toNat<|A0 a) a;let c:=take (zy (length a)<|toNat b')<|drop (toNat b') a;.cd (length a<=1000000) (.ite (A0 a==(length a:Int)) (.ck (DZ a)<|.ck true<|.leaf (.tup [zq [.dat zl<|Gi a,.dat (ze i64)<|Eg a],zq [.dat zl false,.dat (ze i64)<|Sp.rW 1]]) [])<|.ck (decide (0<=A0 a)&&decide (0<=toNat (A0 a))&&decide (toNat (A0 a)<=length a))<|.ck (decide (0<=zc .i64 (A0 a+1))&&true&&decide (toNat b'<=length a)&&decide (length a<=length a))<|.ck (DZ b)<|.ck (DZ c)<|.leaf (.tup [zq [.dat zl<|Gi b,.dat (ze i64)<|Eg b],zq [.dat zl<|Gi c,.dat (ze i64)<|Eg c]]) []):=by kernel_rfl
end T92
namespace T62
def T(a:Z):Tr:=tree Wu false 9 62<|Ae ([zh]) a
def L1(v0 v3:Z):Tr:=re ((T []).L.L.L.L)<|Aw 96 [(0,.dat zh v0),(3,.dat zh v3)] [] 0
theorem Aj(a:Z):T a=.di ((length a:Int)>0) (.cd (0<(length a:Int))<|.ite ((↑(zi<|getD a 0 (0:UInt8)):Int)==45) (.ck (decide (1<=length a)&&decide (length a<=length a))<|L1 a<|take (zy (length a) 1)<|drop 1 a)<|L1 a a) (L1 a a):=by kernel_rfl
def L2(v3:Z)(v4:Int):Tr:=re ((stepT Wu<|L1 [] []).L.L.L.R.L.L.L.R)<|Aw 96 [(3,.dat zh v3),(4,.dat i64 v4)] [] 0
theorem Al(v0 v3:Z):stepT Wu (L1 v0 v3)=let b':=A0 v3;let a:Tr:=.leaf (.dat i64 (1:Int)) [];let b:=decide (0<=A0 v3)&&decide (0<=toNat b')&&decide (toNat b'<=length v3);.cd (length v3<=9223372036854775807) (.ck b<|.cd (length (take (toNat b') v3)<=9223372036854775807)<|.ite (!AX (take (toNat b') v3)) a<|.cd (0<(length v0:Int))<|.ite ((↑(zi<|getD v0 0 (0:UInt8)):Int)==45) (.ck b<|.ite (take (toNat b') v3==[(48:UInt8)]) a<|L2 v3 b')<|L2 v3 b'):=by kernel_rfl
def L3(v3:Z)(v4:Int):Tr:=re ((stepT Wu<|L2 [] 0).L.L.L.R.L.R.L.R)<|Aw 96 [(3,.dat zh v3),(4,.dat i64 v4)] [] 0
theorem AG(v3:Z)(v4:Int):stepT Wu (L2 v3 v4)=let b:Tr:=.leaf (.dat i64 (1:Int)) [];let d:=zc .i64<|v4+1;let c:=decide (0<=zc .i64 (v4+1))&&true&&decide (toNat d<=length v3)&&decide (length v3<=length v3);let b':=toNat d;let a:=zy (length v3) b';.di (v4<(length v3:Int)) (.ck c<|.cd (length (take a<|drop b' v3)<=9223372036854775807)<|.ite (!AX (take a<|drop b' v3)) b<|.ck c<|.ite (take a (drop b' v3)==[(48:UInt8)]) b<|.ck c<|.ite (take a (drop b' v3)==[(49:UInt8)]) b<|L3 v3 v4) (L3 v3 v4):=by kernel_rfl
def L4(v3:Z)(v4:Int):Tr:=re ((stepT Wu<|L3 [] 0).R.R)<|Aw 96 [(3,.dat zh v3),(4,.dat i64 v4)] [] 0
theorem BA(v3:Z)(v4:Int):stepT Wu (L3 v3 v4)=let a:Tr:=.leaf (.dat i64 (4:Int)) [];.di (v4>600) a (.di (zc .i64 (zc .i64 ((length v3:Int)-v4)-1)>600) a<|L4 v3 v4):=by kernel_rfl
def L5(o1:Bool)(a:List Int)(c:Bool)(b:List Int):Tr:=re ((stepT Wu<|L4 [] 0).L.L)<|Aw 96 [(5,.ptr 0 0),(6,.ptr 1 0)] [(1,.box [.dat zl o1,.dat (ze i64) a]),(0,.box [.dat zl c,.dat (ze i64) b])] 2
theorem Ci(v3:Z)(v4:Int):stepT Wu (L4 v3 v4)=.di (v4<(length v3:Int)) (.ck (DR v3)<|L5 (Bv v3) (Bm v3) (BY v3)<|BN v3) (.leaf (.dat i64 (0:Int)) []):=by kernel_rfl
def L6(a:List Int):Tr:=re ((stepT Wu<|L5 false [] false []).L)<|Aw 96 [(7,.dat (ze i64) a)] [] 0
theorem EO(o1:Bool)(a:List Int)(c:Bool)(b:List Int):stepT Wu (L5 o1 a c b)=.ck (Bb b&&Bb a&&decide (length b<=9000)&&decide (length a<=9000)) (L6<|CF b a):=by kernel_rfl
theorem EX(a:List Int):stepT Wu (L6 a)=let b:Tr:=.leaf (.dat i64 (1:Int)) [];.ite ((length a:Int) !=1) b (.cd (0<(length a:Int))<|.ite (getD a 0 0 !=1) b<|.leaf (.dat i64 (0:Int)) []):=by kernel_rfl
end T62
namespace T168
def T(l:List Int):Tr:=tree OJ false 9 168<|Ae ([ze i64]) l
def L1(v5:List Int)(a b:Int):Tr:=re ((T []))<|Aw 15 [(5,.dat (ze i64) v5),(6,.dat i64 a),(7,.dat i64 b)] [] 0
theorem Aj(l:List Int):T l=L1 l ((length l:Int)) 0:=by kernel_rfl
theorem Al(v5:List Int)(b a:Int):stepT OJ (L1 v5 b a)=.di (a<b) (.ck (decide (0<=a)&&decide (a<(length v5:Int)))<|.ite (getD v5 (toNat a) 0 !=0) (.leaf (.dat i64<|getD v5 (toNat a) 0) [])<|L1 v5 b<|zc .i64<|a+1) (.leaf (.dat i64 (0:Int)) []):=by kernel_rfl
end T168
namespace T169
def T(b:Bool)(e:Int):Tr:=tree OJ false 9 169<|Ae ([zl,zm ym]) (b,e)
theorem Aj(b:Bool)(e:Int):T b e=.ite b (.leaf (.dat i64 e) []) (.leaf (.dat i64 (0:Int)) []):=by kernel_rfl
end T169
namespace T122
def T(a:Z):Tr:=tree Nl false 9 122<|Ae ([zh]) a
def L1(v5 a:Z)(b:Bool):Tr:=re ((T []).L.L.L.L.L)<|Aw 76 [(5,.dat zh v5),(6,.dat zh a),(7,.dat zl b),(8,.bl true)] [] 0
def L2(v5 b:Z)(c a:Bool):Tr:=re ((T []).L.L.L.L.R)<|Aw 76 [(5,.dat zh v5),(6,.dat zh b),(7,.dat zl c),(8,.dat zl a)] [] 0
def L3(v5 a:Z)(b:Bool):Tr:=re ((T []).L.L.L.R)<|Aw 76 [(5,.dat zh v5),(6,.dat zh a),(7,.dat zl b),(8,.bl false)] [] 0
theorem Aj(a:Z):T a=let b:=AB<|A9 a;let b':=Sp.AV<|A9 a;let c:=Bs<|A9 a;.ck (Ur a [(45:UInt8)]) (.ck (Ab1 (A9 a) [(47:UInt8)])<|.cd (length b<=1000000)<|.ite (AX b) (.ite (!Sp.preB a) (L1 b b' c)<|L2 b b' c<|!AB (A9 a)==[(48:UInt8)])<|L3 b b' c):=by kernel_rfl
def L4(v5 b:Z)(c a:Bool):Tr:=re ((stepT Nl<|L1 [] [] false).L.L.L.L)<|Aw 76 [(5,.dat zh v5),(6,.dat zh b),(7,.dat zl c),(8,.dat zl a)] [] 0
def L5(v5 a:Z)(b:Bool):Tr:=re ((stepT Nl<|L1 [] [] false).L.L.L.R)<|Aw 76 [(5,.dat zh v5),(6,.dat zh a),(7,.dat zl b),(8,.bl false)] [] 0
def L6(v5 a:Z)(b:Bool):Tr:=re ((stepT Nl<|L1 [] [] false).R)<|Aw 76 [(5,.dat zh v5),(6,.dat zh a),(7,.dat zl b),(8,.bl true)] [] 0
theorem Al(v5 a:Z)(b:Bool):stepT Nl (L1 v5 a b)=.ite b (.cd (length a<=1000000)<|.ite (AX a) (.ite (!a==[(48:UInt8)]) (L4 v5 a b<|!a==[(49:UInt8)])<|L5 v5 a b)<|L5 v5 a b) (L6 v5 a b):=by kernel_rfl
theorem AG(v5 a:Z)(b c:Bool):stepT Nl (L2 v5 a b c)=.ite b (.ite c (.cd (length a<=1000000)<|.ite (AX a) (.ite (!a==[(48:UInt8)]) (L4 v5 a b<|!a==[(49:UInt8)])<|L5 v5 a b)<|L5 v5 a b)<|L5 v5 a b) (L4 v5 a b c):=by kernel_rfl
theorem BA(v5 b:Z)(a:Bool):stepT Nl (L3 v5 b a)=.ite a (L5 v5 b a) (L5 v5 b a):=by kernel_rfl
def L7(v5 a:Z)(b:Bool)(v9:Int):Tr:=re ((stepT Nl<|L4 [] [] false false).L.L.L.L)<|Aw 76 [(5,.dat zh v5),(6,.dat zh a),(7,.dat zl b),(9,.dat i64 v9)] [] 0
theorem Ci(v5 a:Z)(c b:Bool):stepT Nl (L4 v5 a c b)=let d:=decide (2<=2)&&true&&decide (2<=1000000);.ck true (.di ((length v5:Int)>600) (.ck true<|.ck d<|L7 v5 a c<|yy [Cq (!b) 1,Cq true 4])<|.ck true<|.ck d<|L7 v5 a c<|yy [Cq (!b) 1,Cq (decide ((length a:Int)>600)) 4]):=by kernel_rfl
theorem EO(v5 a:Z)(b:Bool):stepT Nl (L5 v5 a b)=.ck true (.di ((length v5:Int)>600) (.ck true<|.ck true<|L7 v5 a b<|yy [Cq true 1,Cq true 4])<|.ck true<|.ck (decide (2<=2)&&true&&decide (2<=1000000))<|L7 v5 a b<|yy [Cq true 1,Cq (decide ((length a:Int)>600)) 4]):=by kernel_rfl
theorem EX(v5 a:Z)(b:Bool):stepT Nl (L6 v5 a b)=.ck true (.di ((length v5:Int)>600) (.ck true<|.ck true<|L7 v5 a b<|yy [Cq false 1,Cq true 4])<|.ck true<|.ck (decide (2<=2)&&true&&decide (2<=1000000))<|L7 v5 a b<|yy [Cq false 1,Cq (decide ((length a:Int)>600)) 4]):=by kernel_rfl
def L8(v5 a:Z)(b:Bool):Tr:=re ((stepT Nl<|L7 [] [] false 0).R)<|Aw 76 [(5,.dat zh v5),(6,.dat zh a),(7,.dat zl b)] [] 0
theorem D5(v5 a:Z)(b:Bool)(v9:Int):stepT Nl (L7 v5 a b v9)=.ite (v9 !=0) (.leaf (.dat i64 v9) []) (L8 v5 a b):=by kernel_rfl
def L9(a:Bool):Tr:=re ((stepT Nl<|L8 [] [] false).L.L.L.L.L.L)<|Aw 76 [(10,.dat zl a)] [] 0
def L10:Tr:=re ((stepT Nl<|L8 [] [] false).R)<|Aw 76 [(10,.bl false)] [] 0
theorem Ho(v5 a:Z)(c:Bool):stepT Nl (L8 v5 a c)=let b:=(NR (Dv v5,Dy v5) (Dv a,Dy a),Nz (Dv v5,Dy v5) (Dv a,Dy a));.ite c (.ck (DZ v5)<|.ck (DZ a)<|.ck (Bh (Dv v5,Dy v5)&&Bh (Dv a,Dy a))<|.ck true<|.ck (Bh b&&Bh (1,Co 1))<|L9<|eU b (1,Co 1) !=0) L10:=by kernel_rfl
theorem lX(a:Bool):stepT Nl (L9 a)=.ck true (.leaf (.dat i64<|Cq a 1) []):=by kernel_rfl
theorem Tt:stepT Nl L10=.ck true (.leaf (.dat i64<|Cq false 1) []):=by kernel_rfl
end T122
namespace T126
def T(s:Z):Tr:=tree Ru false 9 126<|Ae ([zh]) s
def L1(v0:Z)(v3:Bool)(o1 a:Int):Tr:=re ((T []).L.L.L.L.L.L)<|Aw 41 [(0,.dat zh v0),(2,.ptr 0 0),(3,.dat zl v3),(4,.ptr 1 0)] [(1,.box [.dat i64 o1,.nil]),(0,.box [.dat i64 a,.nil])] 2
def L2(v0:Z)(o1 a:Int):Tr:=re ((T []).R.L.L.L.L)<|Aw 41 [(0,.dat zh v0),(2,.ptr 0 0),(3,.bl false),(4,.ptr 1 0)] [(1,.box [.dat i64 o1,.nil]),(0,.box [.dat i64 a,.nil])] 2
theorem Aj(s:Z):T s=let a:=take 1 s==[(45:UInt8)];let b':=decide ((length s:Int)>=1);let c:=decide (1<=length s)&&decide (length s<=length s);let b:=decide (1<=length s);let d:=take (zy (length s) 1)<|drop 1 s;.ite b' (.ck b<|.ite b' (.ck b<|.ite a (.ck c<|L1 d a 0 0)<|L1 s a 0 0)<|L1 s a 0 0) (.ite b' (.ck b<|.ite a (.ck c<|L2 d 0 0)<|L2 s 0 0)<|L2 s 0 0):=by kernel_rfl
def L3(v0:Z)(v3:Bool)(o1 h:Int)(v5:Z)(g:Int)(a:Nat)(c b:Int)(f:List Int)(e:Int)(d:Int):Tr:=re ((stepT Ru<|L1 v0 v3 o1 h).L.L.L.L.L.L.L.R)<|Aw 77 [(5,.dat zh v5),(6,.dat i64 g),(47,.sl 2 1 0 a none),(48,.dat i64 c),(49,.dat i64 b)] [(2,.arr false 5 (zm yh) f),(1,.box [.dat i64 e,.nil]),(0,.box [.dat i64 d,.nil])] 3
theorem Al(v0:Z)(v3:Bool)(o1 c:Int):stepT Ru (L1 v0 v3 o1 c)=let d:=(length v0:Int);let a:=take (toNat<|E2 18 d) v0;let b':=take (zy (length a) 1)<|drop 1 a;let e:=(↑(length a):Int);let g:=decide (1<=length a)&&decide (length a<=length a);let h:=(↑(zi<|getD a 0 (0:UInt8)):Int);let f:=decide (0<e);.di (d>0) (.ck (decide (0<=E2 18 d)&&decide (0<=toNat (E2 18 d))&&decide (toNat (E2 18 d)<=length v0))<|.ite f (.di (e<19) (.ck f<|.ite (h==45) (.ck g<|.di ((↑(length b'):Int)<1) .fail<|L3 v0 v3 o1 c a 0 (length b') ((↑(length b'):Int)) 0 (yo (fun b=>(↑(zi b):Int)) b') o1 c)<|.ck f<|.ite (h==43) (.ck g<|.di ((↑(length b'):Int)<1) .fail<|L3 v0 v3 o1 c a 0 (length b') ((↑(length b'):Int)) 0 (yo (fun b=>(↑(zi b):Int)) b') o1 c)<|L3 v0 v3 o1 c a 0 (length a) e 0 (yo (fun b=>(↑(zi b):Int)) a) o1 c)<|.ck false .fail)<|.ck false .fail) (.ite v3 (.ck (yr (o1,[]))<|.leaf (zq [.dat i64<|EU (o1,[]),.dat wU<|EW (o1,[])]) [])<|.leaf (zq [.dat i64 o1,.nil]) []):=by kernel_rfl
def L4(v0:Z)(o1 h:Int)(v5:Z)(g:Int)(a:Nat)(c b:Int)(f:List Int)(e:Int)(d:Int):Tr:=re ((stepT Ru<|L2 v0 o1 h).L.L.L.L.L.L.L.R)<|Aw 77 [(5,.dat zh v5),(6,.dat i64 g),(47,.sl 2 1 0 a none),(48,.dat i64 c),(49,.dat i64 b)] [(2,.arr false 5 (zm yh) f),(1,.box [.dat i64 e,.nil]),(0,.box [.dat i64 d,.nil])] 3
theorem AG(v0:Z)(o1 c:Int):stepT Ru (L2 v0 o1 c)=let d:=(length v0:Int);let a:=take (toNat<|E2 18 d) v0;let b':=take (zy (length a) 1)<|drop 1 a;let e:=(↑(length a):Int);let g:=decide (1<=length a)&&decide (length a<=length a);let h:=(↑(zi<|getD a 0 (0:UInt8)):Int);let f:=decide (0<e);.di (d>0) (.ck (decide (0<=E2 18 d)&&decide (0<=toNat (E2 18 d))&&decide (toNat (E2 18 d)<=length v0))<|.ite f (.di (e<19) (.ck f<|.ite (h==45) (.ck g<|.di ((↑(length b'):Int)<1) .fail<|L4 v0 o1 c a 0 (length b') ((↑(length b'):Int)) 0 (yo (fun b=>(↑(zi b):Int)) b') o1 c)<|.ck f<|.ite (h==43) (.ck g<|.di ((↑(length b'):Int)<1) .fail<|L4 v0 o1 c a 0 (length b') ((↑(length b'):Int)) 0 (yo (fun b=>(↑(zi b):Int)) b') o1 c)<|L4 v0 o1 c a 0 (length a) e 0 (yo (fun b=>(↑(zi b):Int)) a) o1 c)<|.ck false .fail)<|.ck false .fail) (.leaf (zq [.dat i64 o1,.nil]) []):=by kernel_rfl
def L5(v0:Z)(v3:Bool)(o1:Int)(a:List Int)(b:Int):Tr:=re ((stepT Ru<|L3 [] false 0 0 [] 0 0 0 0 [] 0 0).R.L.L.L.L.L.L.L.L)<|Aw 41 [(0,.dat zh v0),(2,.ptr 0 0),(3,.dat zl v3),(4,.ptr 1 0)] [(1,.box [.dat i64 o1,.dat wU a]),(0,.box [.dat i64 b,.nil])] 2
theorem BA(v0:Z)(v3:Bool)(o1 l:Int)(v5:Z)(d:Int)(b:Nat)(f a:Int)(h:List Int)(c:Int)(e:Int):stepT Ru (L3 v0 v3 o1 l v5 d b f a h c e)=let b':=E2 18 (length v0:Int);let i:=(zc .i64<|0-d,Co<|zc .i64<|0-d);let m:=getD h (toNat a) 0-48;let j:=(U5 (10,Co 10) b',Vf (10,Co 10) b');let k:=decide (0<=E2 18 (length v0:Int))&&true&&decide (toNat b'<=length v0)&&decide (length v0<=length v0);let n:=take (zy (length v0)<|toNat b')<|drop (toNat b') v0;let o:=Bh (10,Co 10)&&oO (y8 (10,Co 10)) b';let g:=(Fq (c,[]) j,Fx (c,[]) j);let h':=Bh (c,[])&&Bh j;.di (a<f) (.ck (decide (0<=a)&&decide (a<(↑b:Int)))<|.cd (toNat a<length h)<|.di (zc .u8 m>9) .fail<|L3 v0 v3 o1 l v5 (zc .i64<|zc .i64 (d*10)+zc .i64 (zc .u8 m)) b f (zc .i64<|a+1) h c e) (.cd (0<(length v5:Int))<|.ite ((↑(zi<|getD v5 0 (0:UInt8)):Int)==45) (.ck true<|.ck o<|.ck h'<|.ck true<|.ck (Bh g&&Bh i)<|.ck k<|L5 n v3 (Kl g i) (Kp g i) e)<|.ck true<|.ck o<|.ck h'<|.ck true<|.ck (Bh g&&Bh (d,Co d))<|.ck k<|L5 n v3 (Kl g (d,Co d)) (Kp g (d,Co d)) e):=by kernel_rfl
def L7(v0:Z)(v3:Bool)(o1:Int)(c:List Int)(j:Int)(v5:Z)(i:Int)(b:Nat)(e d:Int)(h:List Int)(g:Int)(a:List Int)(f:Int):Tr:=re ((stepT Ru<|L5 v0 v3 o1 c j).L.L.L.L.L.L.L.R)<|Aw 77 [(5,.dat zh v5),(6,.dat i64 i),(47,.sl 2 1 0 b none),(48,.dat i64 e),(49,.dat i64 d)] [(2,.arr false 5 (zm yh) h),(1,.box [.dat i64 g,.dat wU a]),(0,.box [.dat i64 f,.nil])] 3
theorem EO(v0:Z)(v3:Bool)(o1:Int)(a:List Int)(d:Int):stepT Ru (L5 v0 v3 o1 a d)=let e:=(length v0:Int);let c:=take (toNat<|E2 18 e) v0;let b':=take (zy (length c) 1)<|drop 1 c;let f:=(↑(length c):Int);let h:=decide (1<=length c)&&decide (length c<=length c);let i:=(↑(zi<|getD c 0 (0:UInt8)):Int);let g:=decide (0<f);.di (e>0) (.ck (decide (0<=E2 18 e)&&decide (0<=toNat (E2 18 e))&&decide (toNat (E2 18 e)<=length v0))<|.ite g (.di (f<19) (.ck g<|.ite (i==45) (.ck h<|.di ((↑(length b'):Int)<1) .fail<|L7 v0 v3 o1 a d c 0 (length b') ((↑(length b'):Int)) 0 (yo (fun b=>(↑(zi b):Int)) b') o1 a d)<|.ck g<|.ite (i==43) (.ck h<|.di ((↑(length b'):Int)<1) .fail<|L7 v0 v3 o1 a d c 0 (length b') ((↑(length b'):Int)) 0 (yo (fun b=>(↑(zi b):Int)) b') o1 a d)<|L7 v0 v3 o1 a d c 0 (length c) f 0 (yo (fun b=>(↑(zi b):Int)) c) o1 a d)<|.ck false .fail)<|.ck false .fail) (.ite v3 (.ck (yr (o1,a))<|.leaf (zq [.dat i64<|EU (o1,a),.dat wU<|EW (o1,a)]) [])<|.leaf (zq [.dat i64 o1,.dat wU a]) []):=by kernel_rfl
theorem D5(v0:Z)(v3:Bool)(o1:Int)(g:List Int)(n:Int)(v5:Z)(e:Int)(c:Nat)(h b:Int)(j:List Int)(d:Int)(a:List Int)(f:Int):stepT Ru (L7 v0 v3 o1 g n v5 e c h b j d a f)=let i:=E2 18 (length v0:Int);let k:=(zc .i64<|0-e,Co<|zc .i64<|0-e);let o:=getD j (toNat b) 0-48;let l:=(U5 (10,Co 10) i,Vf (10,Co 10) i);let m:=decide (0<=E2 18 (length v0:Int))&&true&&decide (toNat i<=length v0)&&decide (length v0<=length v0);let p:=take (zy (length v0)<|toNat i)<|drop (toNat i) v0;let q:=Bh (10,Co 10)&&oO (y8 (10,Co 10)) i;let b':=(Fq (d,a) l,Fx (d,a) l);let h':=Bh (d,a)&&Bh l;.di (b<h) (.ck (decide (0<=b)&&decide (b<(↑c:Int)))<|.cd (toNat b<length j)<|.di (zc .u8 o>9) .fail<|L7 v0 v3 o1 g n v5 (zc .i64<|zc .i64 (e*10)+zc .i64 (zc .u8 o)) c h (zc .i64<|b+1) j d a f) (.cd (0<(length v5:Int))<|.ite ((↑(zi<|getD v5 0 (0:UInt8)):Int)==45) (.ck true<|.ck q<|.ck h'<|.ck true<|.ck (Bh b'&&Bh k)<|.ck m<|L5 p v3 (Kl b' k) (Kp b' k) f)<|.ck true<|.ck q<|.ck h'<|.ck true<|.ck (Bh b'&&Bh (e,Co e))<|.ck m<|L5 p v3 (Kl b' (e,Co e)) (Kp b' (e,Co e)) f):=by kernel_rfl
end T126
namespace T201
def T(s t:Z):Tr:=tree bR false 9 201<|Ae ([zh,zh]) (s,t)
def L1(s t v0:Z)(v4:Int)(a:List Bool):Tr:=re ((T s t).R.R.L.L.R)<|Aw 21 [(0,.dat zh v0),(2,.ptr 0 0),(4,.dat i64 v4)] [(0,.arr false 266 zl a)] 1
def L2(s t v0:Z)(v4:Int)(a:List Bool):Tr:=re ((T s t).R.R.R)<|Aw 21 [(0,.dat zh v0),(2,.ptr 0 0),(4,.dat i64 v4)] [(0,.arr false 266 zl a)] 1
theorem Aj(s t:Z):T s t=let a:=decide (0<(length t:Int));let b':Tr:=.leaf (.dat zh s) [];.ite (s==[]) b' (.ite (t==[]) b'<|.ite ((length t:Int)==1) (.ck a<|.di ((↑(zi<|getD t 0 (0:UInt8)):Int)<128) (.ck a<|.ck a<|.ck false<|.ck false b')<|L1 s t t 0 Sp.yO)<|L2 s t t 0 Sp.yO):=by kernel_rfl
def L4(s t v0:Z)(v4:Int)(c:List Bool)(b:Z)(o1:List Bool)(a:List Bool):Tr:=re ((stepT bR<|L2 s t v0 v4 c).R.L.L.L.L)<|Aw 22 [(0,.dat zh b),(1,.ptr 1 0)] [(1,.arr false 266 zl o1),(0,.arr false 266 zl a)] 2
theorem AG(s t v0:Z)(v4:Int)(a:List Bool):stepT bR (L2 s t v0 v4 a)=let b:=(↑(zi<|getD v0 (toNat v4) (0:UInt8)):Int);let b':=decide (length a=256);let c:=decide (v4<(length v0:Int));.ite c (.ck (decide (0<=v4)&&c)<|.di (b>=128) (.ck b'<|.ck b'<|.cd (256=256)<|.ck true<|.ck false<|.ck false<|.leaf (.dat zh s) [])<|.ck (decide ((0:qf (zm yh))<=b)&&decide (b<(↑256:Int)))<|.cd (toNat b<length a)<|L2 s t v0 (zc .i64<|v4+1)<|set a (toNat b) true) (.ck b'<|.ck b'<|.cd (256=256)<|.ck true<|L4 s t v0 v4 a s ((Sp.yR a))<|(Sp.yR a)):=by kernel_rfl
def L7(s t v0:Z)(v4:Int)(f:List Bool)(e:Z)(o1:List Bool)(d:List Bool)(a:Z)(c:List Bool)(b:List Bool):Tr:=re ((stepT bR<|L4 s t v0 v4 f e o1 d).L.L.L.L.L)<|Aw 16 [(0,.dat zh a),(1,.ptr 1 0)] [(1,.arr false 266 zl c),(0,.arr false 266 zl b)] 2
def L8(s t v0:Z)(v4:Int)(f:List Bool)(e:Z)(o1:List Bool)(d:List Bool)(a:Z)(c:List Bool)(b:List Bool):Tr:=re ((stepT bR<|L4 s t v0 v4 f e o1 d).R)<|Aw 16 [(0,.dat zh a),(1,.ptr 1 0)] [(1,.arr false 266 zl c),(0,.arr false 266 zl b)] 2
theorem Ci(s t v0:Z)(v4:Int)(e:List Bool)(a:Z)(o1:List Bool)(b:List Bool):stepT bR (L4 s t v0 v4 e a o1 b)=let b':=(↑(length a):Int);let c:=zc .i64<|b'-1;let f:=decide (0<=zc .i64 (b'-1));let d:=(↑(zi<|getD a (toNat c) (0:UInt8)):Int);.di (b'>0) (.ck (f&&decide (zc .i64 (b'-1)<b'))<|.ck (decide ((0:qf (zm yh))<=d)&&decide (d<(↑256:Int)))<|.cd (toNat d<length o1)<|.ite (!getD o1 (toNat d) false) (L7 s t v0 v4 e a o1 b a o1 b)<|.ck (f&&decide (0<=toNat c)&&decide (toNat c<=length a))<|L4 s t v0 v4 e (take (toNat c) a) o1 b) (L8 s t v0 v4 e a o1 b a o1 b):=by kernel_rfl
theorem D5(s t v0:Z)(v4:Int)(g:List Bool)(e:Z)(o1:List Bool)(d:List Bool)(a:Z)(b:List Bool)(c:List Bool):stepT bR (L7 s t v0 v4 g e o1 d a b c)=let f:=(↑(zi<|getD a 0 (0:UInt8)):Int);let b':Tr:=.leaf (.dat zh a) [];.di ((↑(length a):Int)>0) (.cd (0<(↑(length a):Int))<|.ck (decide ((0:qf (zm yh))<=f)&&decide (f<(↑256:Int)))<|.cd (toNat f<length b)<|.ite (!getD b (toNat f) false) b'<|.ck (decide (1<=length a)&&decide (length a<=length a))<|L7 s t v0 v4 g e o1 d (take (zy (length a) 1)<|drop 1 a) b c) b':=by kernel_rfl
theorem Ho(s t v0:Z)(v4:Int)(g:List Bool)(e:Z)(o1:List Bool)(d:List Bool)(a:Z)(b:List Bool)(c:List Bool):stepT bR (L8 s t v0 v4 g e o1 d a b c)=let f:=(↑(zi<|getD a 0 (0:UInt8)):Int);let b':Tr:=.leaf (.dat zh a) [];.di ((↑(length a):Int)>0) (.cd (0<(↑(length a):Int))<|.ck (decide ((0:qf (zm yh))<=f)&&decide (f<(↑256:Int)))<|.cd (toNat f<length b)<|.ite (!getD b (toNat f) false) b'<|.ck (decide (1<=length a)&&decide (length a<=length a))<|L8 s t v0 v4 g e o1 d (take (zy (length a) 1)<|drop 1 a) b c) b':=by kernel_rfl
end T201
namespace T167
def T(s:Z):Tr:=tree XH1 false 9 167<|Ae ([zh]) s
theorem Aj(s:Z):T s=.ite (!s==[]) (.ck (Sp.Aah s [(48:UInt8),49,50,51,52,53,54,55,56,57])<|.ite (Sp.Qz s==[]) (.cd (0<(length s:Int))<|.ite ((↑(zi<|getD s 0 (0:UInt8)):Int) !=48) (.leaf (.bl true) [])<|.leaf (.dat zl<|s==[(48:UInt8)]) [])<|.leaf (.bl false) []) (.leaf (.bl false) []):=by kernel_rfl
end T167
namespace T166
def T(s t:Z):Tr:=tree OJ false 9 166<|Ae ([zh,zh]) (s,t)
theorem Aj(s t:Z):T s t=let a:=(length t:Int);let b':Tr:=.leaf (.tup [.dat zh s,.bl false]) [];let b:=decide (toNat a<=length s);.di ((length s:Int)>=a) (.ck (decide (0<=a)&&decide (0<=toNat a)&&b)<|.ite (!take (toNat a) s==t) b'<|.ck (decide (0<=a)&&true&&b&&decide (length s<=length s))<|.leaf (.tup [.dat zh<|take (zy (length s)<|toNat a)<|drop (toNat a) s,.bl true]) []) b':=by kernel_rfl
end T166
namespace T124
def T(s t:Z):Tr:=tree XH2 false 9 124<|Ae ([zh,zh]) (s,t)
theorem Aj(s t:Z):T s t=let b':=(↑(zi<|getD t 0 (0:UInt8)):Int);let a:=(length t:Int);let b:Tr:=.leaf (.tup [.dat zh s,.dat zh [],.bl false]) [];let d:=decide (length s<=length s);let h:=BB [zm yh];let e:=zc .i64<|Sp.PU s b'+a;let f:=zc .i64<|(-1)+a;let h':=zc .i64<|0+a;let c:=Sp.PU s b';let g:Tr:=.ite true (.cd (0<=length s)<|.ck (decide (0<=zc .i64 (0+a))&&true&&decide (toNat h'<=length s)&&d)<|.leaf (.tup [.dat zh<|take 0 s,.dat zh<|take (zy (length s)<|toNat h')<|drop (toNat h') s,.bl true]) []) b;.ite (a==0) g (.ite (t==s) g<|.ite (a==1) (.cd (0<a)<|.ck (decide ((0:qf h)<=b')&&decide (b'<(256:qf h)))<|.di (Sp.PU s b'>=0) (.ck (decide (0<=Sp.PU s b')&&decide (0<=toNat c)&&decide (toNat c<=length s))<|.ck (decide (0<=zc .i64 (Sp.PU s b'+a))&&true&&decide (toNat e<=length s)&&d)<|.leaf (.tup [.dat zh<|take (toNat c) s,.dat zh<|take (zy (length s)<|toNat e)<|drop (toNat e) s,.bl true]) []) b)<|.cd (a>=(length s:Int))<|.ite false (.ck (false&&decide (0<=length s))<|.ck (decide (0<=zc .i64 ((-1)+a))&&true&&decide (toNat f<=length s)&&d)<|.leaf (.tup [.dat zh<|take 0 s,.dat zh<|take (zy (length s)<|toNat f)<|drop (toNat f) s,.bl true]) []) b):=by kernel_rfl
end T124
namespace T193
def T(w:List Int):Tr:=tree qV false 9 193<|Ae ([ze i64]) w
def L1(v0:List Int):Tr:=re ((T []))<|Aw 21 [(0,.dat (ze i64) v0)] [] 0
theorem Aj(w:List Int):T w=L1 w:=by kernel_rfl
theorem Al(v0:List Int):stepT qV (L1 v0)=let b':=(length v0:Int);let b:Tr:=.leaf (.dat (ze i64) v0) [];let a:=zc .i64<|b'-1;let c:=decide (0<=zc .i64 (b'-1));.di (b'>0) (.ck (c&&decide (zc .i64 (b'-1)<b'))<|.ite (getD v0 (toNat a) 0==0) (.ck (c&&decide (0<=toNat a)&&decide (toNat a<=length v0))<|L1<|take (toNat a) v0) b) b:=by kernel_rfl
end T193
namespace T155
def T(n:Bool)(w:List Int):Tr:=tree fE false 9 155<|Ae ([zl,ze i64]) (n,w)
theorem Aj(n:Bool)(w:List Int):T n w=.cd (length w<=20000) (.ite n (.leaf (zq [.dat zl<|decide ((↑(length<|Ay w):Int)>0),.dat (ze i64)<|Ay w]) [])<|.leaf (zq [.bl false,.dat (ze i64)<|Ay w]) []):=by kernel_rfl
end T155
namespace T157
def T(a b:List Int):Tr:=tree qV false 9 157<|Ae ([ze i64,ze i64]) (a,b)
def L1(v0 v1:List Int)(v5:Int):Tr:=re ((T [] []).R)<|Aw 41 [(0,.dat (ze i64) v0),(1,.dat (ze i64) v1),(5,.dat i64 v5)] [] 0
theorem Aj(a b:List Int):T a b=let c:=(length a:Int);.ite (c !=(length b:Int)) (.di (c<(length b:Int)) (.leaf (.dat i64 (-1:Int)) [])<|.leaf (.dat i64 (1:Int)) []) (L1 a b<|zc .i64<|c-1):=by kernel_rfl
theorem Al(v0 v1:List Int)(v5:Int):stepT qV (L1 v0 v1 v5)=let a:=decide (0<=v5)&&decide (v5<(length v0:Int));let b':=decide (0<=v5)&&decide (v5<(length v1:Int));.di (v5>=0) (.ck a<|.ck b'<|.di (getD v0 (toNat v5) 0<getD v1 (toNat v5) 0) (.leaf (.dat i64 (-1:Int)) [])<|.ck a<|.ck b'<|.di (getD v0 (toNat v5) 0>getD v1 (toNat v5) 0) (.leaf (.dat i64 (1:Int)) [])<|L1 v0 v1<|zc .i64<|v5-1) (.leaf (.dat i64 (0:Int)) []):=by kernel_rfl
end T157
namespace T159
def T(a b:List Int):Tr:=tree fE false 9 159<|Ae ([ze i64,ze i64]) (a,b)
def L1(v0 v1:List Int)(a:Nat)(b:Int)(c:List Int):Tr:=re ((T [] []).L)<|Aw 72 [(0,.dat (ze i64) v0),(1,.dat (ze i64) v1),(5,.sl 0 1 0 a none),(6,.dat i64 b)] [(0,.arr false 3 i64 c)] 1
theorem Aj(a b:List Int):T a b=let c:=(length a:Int)+(length b:Int);let b':=zc .i64 c;.ck (decide (0<=zc .i64 c)&&decide (zc .i64 c=zc .i64 c)&&decide (8*toNat b'<=281474976710656)&&decide (zc .i64 c<9223372036854775808)) (L1 a b (toNat b') 0<|replicate (toNat b') 0):=by kernel_rfl
def L2(v0 v1:List Int)(a:Nat)(c d b:Int)(e:List Int):Tr:=re ((stepT fE<|L1 [] [] 0 0 []).L)<|Aw 72 [(0,.dat (ze i64) v0),(1,.dat (ze i64) v1),(5,.sl 0 1 0 a none),(6,.dat i64 c),(7,.dat i64 d),(8,.dat i64 b)] [(0,.arr false 3 i64 e)] 1
theorem Al(v0 v1:List Int)(a:Nat)(c:Int)(b:List Int):stepT fE (L1 v0 v1 a c b)=.di (c<(length v0:Int)) (L2 v0 v1 a c 0 0 b) (.ck (decide (0+a<=length b)&&true&&decide (length (take a b)<=20000))<|.leaf (.dat (ze i64)<|Ay<|take a b) []):=by kernel_rfl
theorem AG(v0 v1:List Int)(a:Nat)(b e c:Int)(d:List Int):stepT fE (L2 v0 v1 a b e c d)=let i:=decide (0<=zc .i64 (b+c))&&decide (zc .i64 (b+c)<(↑a:Int));let g:=zc .i64<|b+c;let h:=(length v1:Int);let j:=zc .i64<|zc .i64 (getD d (toNat g) 0+zc .i64 (getD v0 (toNat b) 0*getD v1 (toNat c) 0))+e;let b':=b+h;let k:=decide (toNat g<length d);let l:=decide (0<=zc .i64 b')&&decide (zc .i64 b'<(↑a:Int));let f:=zc .i64 b';let h':=decide (toNat f<length d);.di (c<h) (.ck i<|.ck k<|.ck (decide (0<=b)&&decide (b<(length v0:Int)))<|.ck (decide (0<=c)&&decide (c<h))<|.ck true<|.ck i<|.ck k<|.ck true<|L2 v0 v1 a b (zc .i64<|yn j 1000000000) (zc .i64<|c+1)<|set d (toNat g)<|ya j 1000000000) (.ck l<|.ck h'<|.ck l<|.ck h'<|L1 v0 v1 a (zc .i64<|b+1)<|set d (toNat f)<|zc .i64<|getD d (toNat f) 0+e):=by kernel_rfl
end T159
namespace T192
def T(a:List Int)(d:Int):Tr:=tree fE false 9 192<|Ae ([ze i64,zm ym]) (a,d)
def L1(v0:List Int)(v1:Int)(a:Nat)(c b:Int)(d:List Int):Tr:=re ((T [] 0).L)<|Aw 39 [(0,.dat (ze i64) v0),(1,.dat i64 v1),(6,.sl 0 1 0 a none),(7,.dat i64 c),(8,.dat i64 b)] [(0,.arr false 3 i64 d)] 1
theorem Aj(a:List Int)(d:Int):T a d=let b:=(length a:Int);.ck (decide (0<=b)&&decide (b=b)&&decide (8*toNat b<=281474976710656)&&decide (b<9223372036854775808)) (L1 a d (toNat b) 0 (zc .i64<|b-1)<|replicate (toNat b) 0):=by kernel_rfl
theorem Al(v0:List Int)(v1:Int)(a:Nat)(d b:Int)(c:List Int):stepT fE (L1 v0 v1 a d b c)=let e:=zc .i64<|zc .i64 (d*1000000000)+getD v0 (toNat b) 0;.di (b>=0) (.ck (decide (0<=b)&&decide (b<(length v0:Int)))<|.cd (v1≠0)<|.ck (decide (0<=b)&&decide (b<(↑a:Int)))<|.cd (toNat b<length c)<|.cd (v1≠0)<|L1 v0 v1 a (ya e v1) (zc .i64<|b-1)<|set c (toNat b)<|zc .i64<|yn e v1) (.ck (decide (0+a<=length c)&&true&&decide (length (take a c)<=20000))<|.leaf (.tup [.dat (ze i64)<|Ay<|take a c,.dat i64 d]) []):=by kernel_rfl
end T192
namespace T154
def T(a b:List Int):Tr:=tree Nb false 9 154<|Ae ([ze i64,ze i64]) (a,b)
def L1(v0:List Int)(c:Nat)(v9:List Int)(b:Int)(a:Nat)(o1 d:List Int):Tr:=re ((T [] []).L.R.R.L.L.L.L.L)<|Aw 206 [(0,.dat (ze i64) v0),(8,.sl 0 1 0 c none),(9,.dat (ze i64) v9),(10,.dat i64 b),(11,.sl 1 1 0 a none)] [(1,.arr false 3 i64 o1),(0,.arr true 3 i64 d)] 2
theorem Aj(a b:List Int):T a b=let c:=(length b:Int);let f:=getD b (toNat<|zc .i64<|c-1) 0+1;let d:=yn 1000000000<|zc .i64 f;let b':=An a*An [zc .i64 d];let e:=BS<|An b*An [zc .i64 d];.ck (Bb a&&Bb b) (.di (Ck (An a) (An b)<0) (.leaf (.tup [.nil,.dat (ze i64) a]) [])<|.ite (c==1) (.cd (0<c)<|.ck (Kg a&&decide (0<getD b 0 0)&&decide (getD b 0 0<1000000000))<|.ck (decide (1<=1)&&true&&decide (1<=20000))<|.leaf (.tup [.dat (ze i64)<|BS<|An a/getD b 0 0,.dat (ze i64)<|Ay [An a % getD b 0 0]]) [])<|.ck (decide (0<=zc .i64 (c-1))&&decide (zc .i64 (c-1)<c))<|.cd (zc .i64 f≠0)<|.ck (decide (1<=1)&&true&&(Sp.hR b&&Sp.hR [zc .i64 d]))<|.ck (decide (1<=1)&&true&&(Sp.hR a&&Sp.hR [zc .i64 d]))<|.cd ((3*(0+length (BS b'))+2000)*8<=562949953421312)<|L1 a 1 e ((↑(length e):Int)) (zo 0<|length<|BS b') ([]++BS b')<|[zc .i64 d]):=by kernel_rfl
def L2(e:Nat)(v9:List Int)(c:Int)(a b:Nat)(d:Int)(f o1 g:List Int):Tr:=re ((stepT Nb<|L1 [] 0 [] 0 0 [] []).R.L)<|Aw 206 [(8,.sl 0 1 0 e none),(9,.dat (ze i64) v9),(10,.dat i64 c),(11,.sl 1 1 0 a none),(12,.sl 2 1 0 b none),(13,.dat i64 d)] [(2,.arr false 3 i64 f),(1,.arr false 3 i64 o1),(0,.arr true 3 i64 g)] 3
theorem Al(v0:List Int)(c:Nat)(v9:List Int)(b:Int)(a:Nat)(o1 e:List Int):stepT Nb (L1 v0 c v9 b a o1 e)=let d:=(↑a:Int)-b;let b':=zc .i64 d;.di ((↑a:Int)<zc .i64 ((length v0:Int)+1)) (.ck (decide (a=length o1)&&decide ((3*(a+1)+2000)*8<=562949953421312))<|L1 v0 c v9 b (zo a 1) (o1++[0]) e) (.ck (decide (0<=zc .i64 d)&&decide (zc .i64 d=zc .i64 d)&&decide (8*toNat b'<=281474976710656)&&decide (zc .i64 d<9223372036854775808))<|L2 c v9 b a (toNat b') (zc .i64<|zc .i64 d-1) (replicate (toNat b') 0) o1 e):=by kernel_rfl
def L3(j:Nat)(v9:List Int)(f:Int)(a b:Nat)(g:Int)(l o1 n:List Int)(e:Nat)(v1:List Int)(v2 m:Int)(h:Int)(c:Int)(d:List Int)(k:List Int)(i:List Int):Tr:=re ((stepT Nb<|L2 j v9 f a b g l o1 n).L.L.L.L.L.L.L.L.L)<|Aw 77 [(0,.sl 1 1 0 e none),(1,.dat (ze i64) v1),(2,.dat i64 v2),(7,.dat i64 m),(9,.dat i64 h),(10,.dat i64 c)] [(2,.arr false 3 i64 d),(1,.arr false 3 i64 k),(0,.arr true 3 i64 i)] 3
theorem AG(f:Nat)(v9:List Int)(d:Int)(a c:Nat)(b:Int)(h o1 g:List Int):stepT Nb (L2 f v9 d a c b h o1 g)=let e:=(length v9:Int);let j:=take (toNat d) o1;let k:=toNat<|zc .i64<|e-1;let i:=zc .i64 (b+e)-1;let l:=decide (0<=zc .i64 (e-1))&&decide (zc .i64 (e-1)<e);let m:=zc .i64<|b+e;let b':=zc .i64<|zc .i64 (getD o1 (toNat m) 0*1000000000)+getD o1 (toNat<|zc .i64 i) 0;let h':=decide (getD v9 k 0≠0);.di (b>=0) (.ck (decide (0<=zc .i64 (b+e))&&decide (zc .i64 (b+e)<(↑a:Int)))<|.cd (toNat m<length o1)<|.ck (decide (0<=zc .i64 i)&&decide (zc .i64 i<(↑a:Int)))<|.cd (toNat (zc .i64 i)<length o1)<|.ck l<|.ck h'<|.ck l<|.ck h'<|L3 f v9 d a c b h o1 g a v9 b e (zc .i64<|yn b'<|getD v9 k 0) (ya b'<|getD v9 k 0) h o1 g) (.ck (decide (0<=d)&&true&&decide (0<=toNat d)&&decide (toNat d<=z7 none a)&&decide (z7 none a<=z7 none a)&&true)<|.cd (0<(↑f:Int))<|.cd (0<length g)<|.ck (decide (0+toNat d<=length o1)&&true&&decide (length j<=20000))<|.ck (Kg (Ay j)&&decide (0<getD g 0 0)&&decide (getD g 0 0<1000000000))<|.ck (decide (0+c<=length h)&&true&&decide (length (take c h)<=20000))<|.leaf (.tup [.dat (ze i64)<|Ay<|take c h,.dat (ze i64)<|BS<|An (Ay j)/getD g 0 0]) []):=by kernel_rfl
def L4(g:Nat)(v9:List Int)(c:Int)(a b:Nat)(d h f e:Int)(i o1 j:List Int):Tr:=re ((stepT Nb<|L3 0 [] 0 0 0 0 [] [] [] 0 [] 0 0 0 0 [] [] []).L.L.L)<|Aw 206 [(8,.sl 0 1 0 g none),(9,.dat (ze i64) v9),(10,.dat i64 c),(11,.sl 1 1 0 a none),(12,.sl 2 1 0 b none),(13,.dat i64 d),(14,.dat i64 h),(15,.dat i64 f),(16,.dat i64 e)] [(2,.arr false 3 i64 i),(1,.arr false 3 i64 o1),(0,.arr true 3 i64 j)] 3
theorem BA(k:Nat)(v9:List Int)(h:Int)(a b:Nat)(i:Int)(m o1 q:List Int)(l:Nat)(v1:List Int)(v2 g:Int)(d:Int)(e:Int)(f:List Int)(c:List Int)(j:List Int):stepT Nb (L3 k v9 h a b i m o1 q l v1 v2 g d e f c j)=let b':=zc .i64 (v2+g)-2;let o:=e+getD v1 (toNat<|zc .i64<|g-1) 0;let n:=zc .i64<|d-1;let p:Tr:=.ck (decide (0<=zc .i64 (g-1))&&decide (zc .i64 (g-1)<(length v1:Int)))<|.di (zc .i64 o>=1000000000) (L4 k v9 h a b i n 0 0 f c j)<|L3 k v9 h a b i m o1 q l v1 v2 g n (zc .i64 o) f c j;.di (d>=1000000000) p (.ck (decide (0<=zc .i64 (g-2))&&decide (zc .i64 (g-2)<(length v1:Int)))<|.ck (decide (0<=zc .i64 b')&&decide (zc .i64 b'<(↑l:Int)))<|.cd (toNat (zc .i64 b')<length c)<|.di (zc .i64 (d*getD v1 (toNat<|zc .i64<|g-2) 0)>zc .i64 (zc .i64 (e*1000000000)+getD c (toNat<|zc .i64 b') 0)) p<|L4 k v9 h a b i d 0 0 f c j):=by kernel_rfl
def L5(f:Nat)(v9:List Int)(d:Int)(a b:Nat)(e g c v20:Int)(h o1 i:List Int):Tr:=re ((stepT Nb<|L4 0 [] 0 0 0 0 0 0 0 [] [] []).R.L.L.L.L.L.L.L)<|Aw 206 [(8,.sl 0 1 0 f none),(9,.dat (ze i64) v9),(10,.dat i64 d),(11,.sl 1 1 0 a none),(12,.sl 2 1 0 b none),(13,.dat i64 e),(14,.dat i64 g),(19,.dat i64 c),(20,.dat i64 v20)] [(2,.arr false 3 i64 h),(1,.arr false 3 i64 o1),(0,.arr true 3 i64 i)] 3
theorem Ci(g:Nat)(v9:List Int)(e:Int)(b c:Nat)(a f h d:Int)(i o1 j:List Int):stepT Nb (L4 g v9 e b c a f h d i o1 j)=let o:=decide (0<=zc .i64 (d+a))&&decide (zc .i64 (d+a)<(↑b:Int));let n:=decide (0<=zc .i64 (a+e))&&decide (zc .i64 (a+e)<(↑b:Int));let r:=zc .i64<|zc .i64 (f*getD v9 (toNat d) 0)+h;let l:=zc .i64<|d+a;let k:=zc .i64<|a+e;let q:=zc .i64<|d+1;let m:=set o1 (toNat k)<|zc .i64<|getD o1 (toNat k) 0-h;let b':=getD o1 (toNat l) 0-ya r 1000000000;let h':=decide (toNat l<length o1);let s:=decide (toNat k<length o1);let p:=yn r 1000000000;.di (d<e) (.ck (decide (0<=d)&&decide (d<(length v9:Int)))<|.ck o<|.ck h'<|.ck true<|.ck true<|.di (zc .i64 b'<0) (.ck o<|.ck h'<|L4 g v9 e b c a f (zc .i64<|zc .i64 p+1) q i (set o1 (toNat l)<|zc .i64<|zc .i64 b'+1000000000) j)<|.ck o<|.ck h'<|L4 g v9 e b c a f (zc .i64 p) q i (set o1 (toNat l)<|zc .i64 b') j) (.ck n<|.ck s<|.ck n<|.ck s<|.ck n<|.cd (toNat k<length m)<|.di (getD m (toNat k) 0<0) (L5 g v9 e b c a (zc .i64<|f-1) 0 0 i m j)<|.ck (decide (0<=a)&&decide (a<(↑c:Int)))<|.cd (toNat a<length i)<|L2 g v9 e b c (zc .i64<|a-1) (set i (toNat a) f) m j):=by kernel_rfl
theorem EO(g:Nat)(v9:List Int)(c:Int)(b d:Nat)(a e f v20:Int)(h o1 j:List Int):stepT Nb (L5 g v9 c b d a e f v20 h o1 j)=let b':=decide (0<=zc .i64 (v20+a))&&decide (zc .i64 (v20+a)<(↑b:Int));let m:=decide (0<=zc .i64 (a+c))&&decide (zc .i64 (a+c)<(↑b:Int));let k:=zc .i64<|v20+a;let i:=zc .i64<|a+c;let n:=zc .i64<|zc .i64 (getD o1 (toNat k) 0+getD v9 (toNat v20) 0)+f;let l:=decide (toNat k<length o1);let o:=decide (toNat i<length o1);.di (v20<c) (.ck b'<|.ck l<|.ck (decide (0<=v20)&&decide (v20<(length v9:Int)))<|.ck true<|.ck b'<|.ck l<|.ck true<|L5 g v9 c b d a e (zc .i64<|yn n 1000000000) (zc .i64<|v20+1) h (set o1 (toNat k)<|ya n 1000000000) j) (.ck m<|.ck o<|.ck m<|.ck o<|.ck (decide (0<=a)&&decide (a<(↑d:Int)))<|.cd (toNat a<length h)<|L2 g v9 c b d (zc .i64<|a-1) (set h (toNat a) e) (set o1 (toNat i)<|zc .i64<|getD o1 (toNat i) 0+f) j):=by kernel_rfl
end T154
namespace T130
def T(a b:List Int):Tr:=tree XG3 false 9 130<|Ae ([ze i64,ze i64]) (a,b)
def L1(v0 v1:List Int):Tr:=re ((T [] []))<|Aw 19 [(0,.dat (ze i64) v0),(1,.dat (ze i64) v1)] [] 0
theorem Aj(a b:List Int):T a b=L1 a b:=by kernel_rfl
theorem Al(v0 v1:List Int):stepT XG3 (L1 v0 v1)=.di ((length v1:Int)>0) (.ck (Bb v0&&Bb v1&&decide (length v0<=9000)&&decide (length v1<=9000)&&decide (0<An v1))<|L1 v1<|BS<|An v0 % An v1) (.leaf (.dat (ze i64) v0) []):=by kernel_rfl
end T130
namespace T152
def T(s:Z):Tr:=tree qV false 9 152<|Ae ([zh]) s
def L1(v0:Z)(v3 v4:Int):Tr:=re ((T []))<|Aw 20 [(0,.dat zh v0),(3,.dat i64 v3),(4,.dat i64 v4)] [] 0
theorem Aj(s:Z):T s=L1 s 0 0:=by kernel_rfl
theorem Al(v0:Z)(v3 v4:Int):stepT qV (L1 v0 v3 v4)=let a:=decide (v4<(length v0:Int));.ite a (.ck (decide (0<=v4)&&a)<|L1 v0 (zc .i64<|zc .i64 (zc .i64 (10*v3)+zc .i64 (↑(zi<|getD v0 (toNat v4) (0:UInt8)):Int))-48)<|zc .i64<|v4+1) (.leaf (.dat i64 v3) []):=by kernel_rfl
end T152
namespace T149
def T(s:Z):Tr:=tree fH false 9 149<|Ae ([zh]) s
def L1(v0:Z)(v3:Bool):Tr:=re ((T []).L.L.L.L)<|Aw 40 [(0,.dat zh v0),(2,.ptr 0 0),(3,.dat zl v3),(4,.nil)] [(0,.box [.bl false,.nil])] 1
def L2(v0:Z):Tr:=re ((T []).R)<|Aw 40 [(0,.dat zh v0),(2,.ptr 0 0),(3,.bl false),(4,.nil)] [(0,.box [.bl false,.nil])] 1
theorem Aj(s:Z):T s=let a:=(↑(zi<|getD s 0 (0:UInt8)):Int)==45;.di ((length s:Int)>0) (.cd (0<(length s:Int))<|.ite a (.ck (decide (1<=length s)&&decide (length s<=length s))<|L1 (take (zy (length s) 1)<|drop 1 s) a)<|L1 s a) (L2 s):=by kernel_rfl
def L3(v0:Z)(v3:Bool)(a:Nat)(o1:List Int):Tr:=re ((stepT fH<|L1 [] false).L.L.L.L.L)<|Aw 40 [(0,.dat zh v0),(2,.ptr 0 0),(3,.dat zl v3),(4,.sl 1 1 0 a none)] [(1,.arr false 3 i64 o1),(0,.box [.bl false,.nil])] 2
theorem Al(v0:Z)(v3:Bool):stepT fH (L1 v0 v3)=let b':=aa 8;let b:=(length v0:Int);let a:=zc .i64<|b-9;let d:=decide (0<=zc .i64 (b-9));let e:=take (zy (length v0)<|toNat a)<|drop (toNat a) v0;let c:=decide (toNat a<=length v0);.di (b>9) (.ck (d&&true&&c&&decide (length v0<=length v0))<|.ck (El e)<|.ck b'<|.ck (d&&decide (0<=toNat a)&&c)<|L3 (take (toNat a) v0) v3 1<|[B2 e]) (.ck (El v0)<|.ck b'<|.ck (decide (0+1<=1)&&true&&decide (1<=20000))<|.leaf (zq [.dat zl<|CM v3 [B2 v0],.dat (ze i64)<|Ay [B2 v0]]) []):=by kernel_rfl
def L4(v0:Z)(a:Nat)(o1:List Int):Tr:=re ((stepT fH<|L2 []).L.L.L.L.L)<|Aw 40 [(0,.dat zh v0),(2,.ptr 0 0),(3,.bl false),(4,.sl 1 1 0 a none)] [(1,.arr false 3 i64 o1),(0,.box [.bl false,.nil])] 2
theorem AG(v0:Z):stepT fH (L2 v0)=let b':=aa 8;let b:=(length v0:Int);let a:=zc .i64<|b-9;let d:=decide (0<=zc .i64 (b-9));let e:=take (zy (length v0)<|toNat a)<|drop (toNat a) v0;let c:=decide (toNat a<=length v0);.di (b>9) (.ck (d&&true&&c&&decide (length v0<=length v0))<|.ck (El e)<|.ck b'<|.ck (d&&decide (0<=toNat a)&&c)<|L4 (take (toNat a) v0) 1<|[B2 e]) (.ck (El v0)<|.ck b'<|.ck (decide (0+1<=1)&&true&&decide (1<=20000))<|.leaf (zq [.dat zl<|CM false [B2 v0],.dat (ze i64)<|Ay [B2 v0]]) []):=by kernel_rfl
theorem BA(v0:Z)(v3:Bool)(a:Nat)(o1:List Int):stepT fH (L3 v0 v3 a o1)=let b':=ac a (length o1) 8;let c:=take (zo a 1)<|o1++[B2 v0];let d:=(length v0:Int);let b:=zc .i64<|d-9;let g:=decide (0<=zc .i64 (d-9));let e:=take (zy (length v0)<|toNat b)<|drop (toNat b) v0;let f:=decide (toNat b<=length v0);.di (d>9) (.ck (g&&true&&f&&decide (length v0<=length v0))<|.ck (El e)<|.ck b'<|.ck (g&&decide (0<=toNat b)&&f)<|L3 (take (toNat b) v0) v3 (zo a 1)<|o1++[B2 e]) (.ck (El v0)<|.ck b'<|.ck (decide (0+zo a 1<=length (o1++[B2 v0]))&&true&&decide (length c<=20000))<|.leaf (zq [.dat zl<|CM v3 c,.dat (ze i64)<|Ay c]) []):=by kernel_rfl
theorem Ci(v0:Z)(a:Nat)(o1:List Int):stepT fH (L4 v0 a o1)=let b':=ac a (length o1) 8;let c:=take (zo a 1)<|o1++[B2 v0];let d:=(length v0:Int);let b:=zc .i64<|d-9;let g:=decide (0<=zc .i64 (d-9));let e:=take (zy (length v0)<|toNat b)<|drop (toNat b) v0;let f:=decide (toNat b<=length v0);.di (d>9) (.ck (g&&true&&f&&decide (length v0<=length v0))<|.ck (El e)<|.ck b'<|.ck (g&&decide (0<=toNat b)&&f)<|L4 (take (toNat b) v0) (zo a 1)<|o1++[B2 e]) (.ck (El v0)<|.ck b'<|.ck (decide (0+zo a 1<=length (o1++[B2 v0]))&&true&&decide (length c<=20000))<|.leaf (zq [.dat zl<|CM false c,.dat (ze i64)<|Ay c]) []):=by kernel_rfl
end T149
namespace T106n
def T(n:Int):Tr:=tree XF0 false 9 106<|Ae ([zm ym]) n
theorem Aj(n:Int):T n=.leaf (zq [.dat i64 n,.nil]) []:=by kernel_rfl
end T106n
namespace T190
def T(a b:AK):Tr:=tree XF1 false 9 190<|Ae ([A4,A4]) (a,b)
def L1(d:Bool)(b c:List Int)(e o1 f:Int)(a:List Int):Tr:=re ((T (0,[]) (0,[])).L.L.R.L.L.L)<|Aw 84 [(3,.ptr 0 0),(4,.ptr 1 0),(5,.ptr 2 0),(8,.dat zl d),(12,.dat (ze<|zm zd) b),(13,.dat (ze<|zm zd) c)] [(2,.box [.dat i64 e,.nil]),(1,.box [.dat i64 o1,.nil]),(0,.box [.dat i64 f,.dat wU a])] 3
theorem Aj(a b:AK):T a b=let b':=BC<|Ah<|y8 a;let c:=BC<|Ah<|y8 b;let e:=yn (fst a)<|fst b;let d:Tr:=.ck (yr a)<|.ck (yr b)<|.ck (UA b' c)<|L1 (decide (y8 a<0)) (BC<|At b'/At c) (BC<|At b' % At c) 0 0 (fst b)<|snd b;.ite (!decide (0<length (snd a))) (.ite (!decide (0<length (snd b))) (.ite (fst a !=(-9223372036854775808)) (.cd (fst b≠0)<|.cd (fst b≠0)<|.di (ya (fst a) (fst b)<0) (.leaf (.tup [zq [.dat i64<|zc .i64<|zc .i64 e-1,.nil],zq [.dat i64<|zc .i64<|ya (fst a) (fst b)+fst b,.nil]]) [])<|.leaf (.tup [zq [.dat i64<|zc .i64 e,.nil],zq [.dat i64<|ya (fst a)<|fst b,.nil]]) []) d) d) d:=by kernel_rfl
def L2(d:Int)(b:List Int)(g:Int)(c:List Int)(e o1 f:Int)(a:List Int):Tr:=re ((stepT XF1<|L1 false [] [] 0 0 0 []).L.L)<|Aw 84 [(3,.ptr 0 0),(4,.ptr 1 0),(5,.ptr 2 0),(14,.ptr 3 0),(15,.ptr 4 0)] [(4,.box [.dat i64 d,.dat wU b]),(3,.box [.dat i64 g,.dat wU c]),(2,.box [.dat i64 e,.nil]),(1,.box [.dat i64 o1,.nil]),(0,.box [.dat i64 f,.dat wU a])] 5
theorem Al(d:Bool)(b c:List Int)(e o1 g:Int)(a:List Int):stepT XF1 (L1 d b c e o1 g a)=let f:=Sp.sg d<|At c;let b':=Sp.sg d<|At b;.ck (Cu b) (.ck (Cu c)<|L2 (C4 f) (C3 f) (C4 b') (C3 b') e o1 g a):=by kernel_rfl
theorem AG(d:Int)(a:List Int)(e:Int)(b:List Int)(g o1 f:Int)(c:List Int):stepT XF1 (L2 d a e b g o1 f c)=.ck (yr (d,a)) (.di (Ix (d,a)<0) (.ck true<|.ck (Bh (e,b)&&Bh (1,Co 1))<|.ck (Bh (d,a)&&Bh (f,c))<|.leaf (.tup [zq [.dat i64<|Zd (e,b) (1,Co 1),.dat wU<|Y3 (e,b) (1,Co 1)],zq [.dat i64<|Kl (d,a) (f,c),.dat wU<|Kp (d,a) (f,c)]]) [])<|.leaf (.tup [zq [.dat i64 e,.dat wU b],zq [.dat i64 d,.dat wU a]]) []):=by kernel_rfl
end T190
namespace T170
def T(a b:AK):Tr:=tree XF2 false 9 170<|Ae ([A4,A4]) (a,b)
def L1(c o1:Int)(b:List Int)(d:Int)(a:List Int):Tr:=re ((T (0,[]) (0,[])).L.L)<|Aw 23 [(2,.ptr 0 0),(3,.ptr 1 0),(4,.ptr 2 0)] [(2,.box [.dat i64 c,.nil]),(1,.box [.dat i64 o1,.dat wU b]),(0,.box [.dat i64 d,.dat wU a])] 3
theorem Aj(a b:AK):T a b=.ck (yr a) (.ck (yr b)<|L1 0 (QN b) (P6 b) (QN a)<|P6 a):=by kernel_rfl
theorem Al(d o1:Int)(a:List Int)(c:Int)(b:List Int):stepT XF2 (L1 d o1 a c b)=.ck (yr (o1,a)) (.ite (Ix (o1,a) !=0) (.ck (Bh (c,b)&&Bh (o1,a)&&decide (0<y8 (o1,a)))<|L1 d (nO (c,b) (o1,a)) (kY (c,b) (o1,a)) o1 a)<|.leaf (zq [.dat i64 c,.dat wU b]) []):=by kernel_rfl
end T170
namespace T176
def T(a:AK)(k:Int):Tr:=tree XF3 false 9 176<|Ae ([A4,zm ym]) (a,k)
def L1(v1 c:Int)(b:List Int)(o1 d:Int)(a:List Int):Tr:=re ((T (0,[]) 0).L)<|Aw 23 [(1,.dat i64 v1),(2,.ptr 0 0),(4,.ptr 1 0),(5,.ptr 2 0)] [(2,.box [.dat i64 c,.dat wU b]),(1,.box [.dat i64 o1,.nil]),(0,.box [.dat i64 d,.dat wU a])] 3
theorem Aj(a:AK)(k:Int):T a k=.ck true (L1 k 1 (Co 1) 0 (fst a)<|snd a):=by kernel_rfl
theorem Al(v1 d:Int)(b:List Int)(o1 c:Int)(a:List Int):stepT XF3 (L1 v1 d b o1 c a)=let e:=Int.fdiv v1<|2^1;let b':=Bh (c,a)&&Bh (c,a);let g:=Fq (d,b) (c,a);let f:=Fx (d,b) (c,a);let h:=Fq (c,a) (c,a);let i:=Fx (c,a) (c,a);.di (v1>0) (.ite (Is ym v1 1==1) (.ck (Bh (d,b)&&Bh (c,a))<|.di (v1>1) (.ck b'<|.ck true<|L1 e g f o1 h i)<|.ck true<|L1 e g f o1 c a)<|.di (v1>1) (.ck b'<|.ck true<|L1 e d b o1 h i)<|.ck true<|L1 e d b o1 c a) (.leaf (zq [.dat i64 d,.dat wU b]) []):=by kernel_rfl
end T176
namespace T212
def T(a b:List Int):Tr:=tree Kc false 9 212<|Ae ([ze<|zm zd,ze<|zm zd]) (a,b)
def L1(v0 v1:List Int)(a:Nat)(c b:Int)(d:List Int):Tr:=re ((T [] []).L.R.L.L)<|Aw 137 [(0,.dat (ze<|zm zd) v0),(1,.dat (ze<|zm zd) v1),(6,.sl 0 1 0 a none),(7,.dat (zm zd) c),(8,.dat i64 b)] [(0,.arr false 216 (zm zd) d)] 1
def L2(a b:List Int)(v1:Int)(d:Nat)(c:List Int)(e f:Int)(g:List Int):Tr:=re ((T a b).L.R.R.L.L.L)<|Aw 40 [(1,.dat i64 v1),(5,.sl 0 1 0 d none),(12,.dat (ze<|zm zd) c),(13,.dat i64 e),(14,.dat i64 f)] [(0,.arr false 216 (zm zd) g)] 1
theorem Aj(a b:List Int):T a b=let c:=(length b:Int);let b':=(length a:Int);let d:=zc .i64<|c+1;let e:=getD b (toNat<|zc .i64<|c-1) 0;.ck (Cu a&&Cu b) (.di (Ck (At a) (At b)<0) (.leaf (.tup [.nil,.dat (ze<|zm zd) a]) [])<|.ite (c==1) (.ck (decide (0<=b')&&decide (b'=b')&&decide (8*toNat b'<=281474976710656)&&decide (b'<9223372036854775808))<|L1 a b (toNat b') 0 (zc .i64<|b'-1)<|replicate (toNat b') 0)<|.ck (decide (0<=zc .i64 (c-1))&&decide (zc .i64 (c-1)<c))<|.ck (zt e)<|.ck (decide (0<=zc .i64 (c+1))&&decide (zc .i64 (c+1)=zc .i64 (c+1))&&decide (8*toNat d<=281474976710656)&&decide (zc .i64 (c+1)<9223372036854775808))<|L2 a b (Sp.lz e) (toNat d) b c 0<|replicate (toNat d) 0):=by kernel_rfl
theorem Al(v0 v1:List Int)(a:Nat)(c b:Int)(d:List Int):stepT Kc (L1 v0 v1 a c b d)=let e:=getD v0 (toNat b) 0;let b':=ze<|zm zd;.di (b>=0) (.ck (decide (0<=b)&&decide (b<(length v0:Int)))<|.cd (0<(length v1:Int))<|.ck (zt c&&zt e&&zt (getD v1 0 0)&&decide (c<getD v1 0 0))<|.ck (decide (0<=b)&&decide (b<(↑a:Int)))<|.cd (toNat b<length d)<|L1 v0 v1 a (Sp.dr c e<|getD v1 0 0) (zc .i64<|b-1)<|set d (toNat b)<|Sp.dq c e<|getD v1 0 0) (.ck (decide (0+a<=length d)&&true&&C5 (take a d))<|.ck (decide (1<=1)&&true&&C5 [c])<|.leaf (.tup [.dat b'<|Ay<|take a d,.dat b'<|Ay [c]]) []):=by kernel_rfl
def L3(a b:List Int)(v1:Int)(h:Nat)(g:List Int)(i l:Int)(m:List Int)(k:Int)(e:Nat)(f:List Int)(c:Int)(d:Int)(o1:List Int)(j:List Int):Tr:=re ((stepT Kc<|L2 a b v1 h g i l m).R.L.L)<|Aw 40 [(1,.dat i64 k),(5,.sl 1 1 0 e none),(12,.dat (ze<|zm zd) f),(13,.dat i64 c),(14,.dat i64 d)] [(1,.arr false 216 (zm zd) o1),(0,.arr true 216 (zm zd) j)] 2
theorem AG(a b:List Int)(v1:Int)(d:Nat)(e:List Int)(f c:Int)(g:List Int):stepT Kc (L2 a b v1 d e f c g)=let j:=set g (toNat c)<|cY zd (getD g (toNat c) 0)<|zc .u64<|getD e (toNat c) 0*2^y9 (toNat v1) 64;let b':=(length a:Int)+1;let h:=zc .i64<|c+1;let l:=decide (0<=c)&&decide (c<(↑d:Int));let k:=decide (toNat c<length g);let i:=zc .i64 b';.di (c<f) (.ck (decide (0<=c)&&decide (c<(length e:Int)))<|.ck l<|.ck k<|.cd (0<=v1)<|.ck l<|.ck k<|.di (v1>0) (.cd (0<=zc .i64 (64-v1))<|.ck (decide (0<=zc .i64 (c+1))&&decide (zc .i64 (c+1)<(↑d:Int)))<|.cd (toNat h<length j)<|L2 a b v1 d e f h<|set j (toNat h)<|Int.fdiv (getD e (toNat c) 0)<|2^y9 (toNat<|zc .i64<|64-v1) 64)<|L2 a b v1 d e f h j) (.ck (decide (0+d<=length g)&&true&&C5 (take d g))<|.ck (decide (0<=zc .i64 b')&&decide (zc .i64 b'=zc .i64 b')&&decide (8*toNat i<=281474976710656)&&decide (zc .i64 b'<9223372036854775808))<|L3 a b v1 d e f c g (Sp.lz<|getD b (toNat<|zc .i64<|(length b:Int)-1) 0) (toNat i) a ((length a:Int)) 0 (replicate (toNat i) 0) g):=by kernel_rfl
def L4(v9:Int)(d:List Int)(a:Nat)(c:Int)(b:Nat)(e:Int)(o1 f:List Int):Tr:=re ((stepT Kc<|L3 [] [] 0 0 [] 0 0 [] 0 0 [] 0 0 [] []).R.L)<|Aw 137 [(9,.dat i64 v9),(10,.dat (ze<|zm zd) d),(11,.sl 0 1 0 a none),(12,.dat i64 c),(13,.sl 1 1 0 b none),(14,.dat i64 e)] [(1,.arr false 216 (zm zd) o1),(0,.arr false 216 (zm zd) f)] 2
theorem BA(a b:List Int)(v1:Int)(h:Nat)(i:List Int)(l k:Int)(n:List Int)(f:Int)(e:Nat)(d:List Int)(g:Int)(c:Int)(o1:List Int)(j:List Int):stepT Kc (L3 a b v1 h i l k n f e d g c o1 j)=let b':=set o1 (toNat c)<|cY zd (getD o1 (toNat c) 0)<|zc .u64<|getD d (toNat c) 0*2^y9 (toNat f) 64;let o:=zc .i64<|c+1;let r:=decide (0<=c)&&decide (c<(↑e:Int));let s:=decide (toNat c<length o1);let h':=Ay<|take h n;let q:=(↑(length h'):Int);let m:=zc .i64 ((length a:Int)-q)+1;let p:=zc .i64 m;.di (c<g) (.ck (decide (0<=c)&&decide (c<(↑(length d):Int)))<|.ck r<|.ck s<|.cd (0<=f)<|.ck r<|.ck s<|.di (f>0) (.cd (0<=zc .i64 (64-f))<|.ck (decide (0<=zc .i64 (c+1))&&decide (zc .i64 (c+1)<(↑e:Int)))<|.cd (toNat o<length b')<|L3 a b v1 h i l k n f e d g o (set b' (toNat o)<|Int.fdiv (getD d (toNat c) 0)<|2^y9 (toNat<|zc .i64<|64-f) 64) j)<|L3 a b v1 h i l k n f e d g o b' j) (.ck (decide (0<=zc .i64 m)&&decide (zc .i64 m=zc .i64 m)&&decide (8*toNat p<=281474976710656)&&decide (zc .i64 m<9223372036854775808))<|L4 (Sp.lz<|getD b (toNat<|zc .i64<|(length b:Int)-1) 0) h' e q (toNat p) (zc .i64<|(length a:Int)-q) (replicate (toNat p) 0) o1):=by kernel_rfl
def L5(v9:Int)(e:List Int)(a:Nat)(c:Int)(b:Nat)(j:Int)(o1 n:List Int)(f d g:Nat)(v1:List Int)(v5 m l k:Int)(h:List Int)(i:List Int):Tr:=re ((stepT Kc<|L4 v9 e a c b j o1 n).L.L.L.L.L.L.L.L.L.L)<|Aw 186 [(0,.sl 0 1 f d<|Option.some g),(1,.dat (ze<|zm zd) v1),(5,.dat i64 v5),(6,.dat (zm zd) m),(7,.dat (zm zd) l),(8,.dat (zm zd) k)] [(1,.arr false 216 (zm zd) h),(0,.arr false 216 (zm zd) i)] 2
def L6(v9:Int)(a:Nat)(c:Int)(b:Nat)(d e:Int)(o1 f:List Int):Tr:=re ((stepT Kc<|L4 0 [] 0 0 0 0 [] []).R)<|Aw 137 [(9,.dat i64 v9),(11,.sl 0 1 0 a none),(12,.dat i64 c),(13,.sl 1 1 0 b none),(96,.dat i64 d),(97,.dat i64 e)] [(1,.arr false 216 (zm zd) o1),(0,.arr false 216 (zm zd) f)] 2
theorem Ci(v9:Int)(c:List Int)(a:Nat)(e:Int)(d:Nat)(b:Int)(o1 f:List Int):stepT Kc (L4 v9 c a e d b o1 f)=let g:=(length c:Int);let j:=zo 0<|toNat b;let o:=zy (z7 none a)<|toNat b;let p':=zc .i64 (b+e)+1;let k:=toNat<|zc .i64<|g-1;let n:=zc .i64 p';let h':=zo (toNat g) j;let l':=decide (zo (toNat g) j<length f);let n':=decide (0<=zc .i64 (g-1));let b':=zy (toNat n)<|toNat b;let l:=n'&&decide (zc .i64 (g-1)<g);let i:=getD f (zo k j) 0;let h:=getD c k 0;let o':=decide (zo k j<length f);let m:=getD f h' 0;let p:=n'&&decide (zc .i64 (g-1)<(↑b':Int));let q:=decide (0<=g)&&decide (g<(↑b':Int));.di (b>=0) (.ck (decide (0<=b)&&decide (0<=zc .i64 p')&&true&&decide (toNat b<=toNat n)&&decide (toNat n<=z7 none a)&&decide (z7 none a<=z7 none a)&&true)<|.ck q<|.ck l'<|.ck l<|.di (getD f h' 0>=getD c k 0) (.ck p<|.ck o'<|.ck l<|.ck (zt i&&zt h&&decide ((0:qf (BB [u64]))<=0)&&decide (0<=(1:qf (BB [u64]))))<|L5 v9 c a e d b o1 f j b' o c g 18446744073709551615 (IC i h 0) (Qo i h 0) o1 f)<|.ck q<|.ck l'<|.ck p<|.ck o'<|.ck l<|.ck (zt m&&zt i&&zt h&&decide (getD f h' 0<getD c k 0))<|L5 v9 c a e d b o1 f j b' o c g (Sp.dq m i h) (Sp.dr m i h) 0 o1 f) (L6 v9 a e d e 0 o1 f):=by kernel_rfl
def L7(v9:Int)(h:List Int)(b:Nat)(f:Int)(d:Nat)(n:Int)(o1 o:List Int)(i g l:Nat)(v1:List Int)(v5 p m:Int)(c:Int)(a e:Int)(j:List Int)(k:List Int):Tr:=re ((stepT Kc<|L5 v9 h b f d n o1 o 0 0 0 [] 0 0 0 0 [] []).L.L.L.L)<|Aw 186 [(0,.sl 0 1 i g<|Option.some l),(1,.dat (ze<|zm zd) v1),(5,.dat i64 v5),(6,.dat (zm zd) p),(11,.dat (zm zd) m),(12,.dat (zm zd) c),(104,.dat i64 a),(105,.dat i64 e)] [(1,.arr false 216 (zm zd) j),(0,.arr false 216 (zm zd) k)] 2
theorem EO(v9:Int)(g:List Int)(c:Nat)(f:Int)(d:Nat)(k:Int)(o1 p:List Int)(a e i:Nat)(v1:List Int)(v5 j l r:Int)(h:List Int)(b:List Int):stepT Kc (L5 v9 g c f d k o1 p a e i v1 v5 j l r h b)=let b':=toNat<|zc .i64<|v5-2;let o:=L7 v9 g c f d k o1 p a e i v1 v5 j 0 0 v5 0 h b;let n:=getD v1 (toNat<|zc .i64<|v5-1) 0;let s:=decide (0<=zc .i64 (v5-2));let q:Tr:=.ck (decide (0<=zc .i64 (v5-1))&&decide (zc .i64 (v5-1)<(length v1:Int)))<|.ck (zt l&&zt n&&decide ((0:qf (BB [u64]))<=0)&&decide (0<=(1:qf (BB [u64]))))<|L5 v9 g c f d k o1 p a e i v1 v5 (zc .u64<|j-1) (IC l n 0) (Qo l n 0) h b;let m:=getD v1 b' 0;.ite (r==0) (.ck (s&&decide (zc .i64 (v5-2)<(length v1:Int)))<|.ck (zt j&&zt m)<|.di (Sb j m<l) o<|.ite (Sb j m==l) (.ck (s&&decide (zc .i64 (v5-2)<(↑e:Int)))<|.cd (zo b' a<length b)<|.di (IJ j m<=getD b (zo b' a) 0) o q) q) o:=by kernel_rfl
theorem EX(v9:Int)(b:Nat)(d:Int)(c:Nat)(e a:Int)(o1 f:List Int):stepT Kc (L6 v9 b d c e a o1 f)=let g:=set f (toNat a)<|Int.fdiv (getD f (toNat a) 0)<|2^y9 (toNat v9) 64;let b':=decide (0<=a)&&decide (a<(↑b:Int));let h:=zc .i64<|a+1;let i:=decide (zc .i64 (a+1)<(↑b:Int));let l:=decide (toNat a<length f);let h':=ze<|zm zd;let k:=L6 v9 b d c e h o1 g;let j:=decide (toNat a<length g);.di (a<e) (.ck b'<|.ck l<|.cd (0<=v9)<|.ck b'<|.ck l<|.di (v9>0) (.ite i (.ck b'<|.ck j<|.ck (decide (0<=zc .i64 (a+1))&&i)<|.cd (toNat h<length g)<|.cd (0<=zc .i64 (64-v9))<|.ck b'<|.ck j<|L6 v9 b d c e h o1<|set g (toNat a)<|cY zd (getD g (toNat a) 0)<|zc .u64<|getD g (toNat h) 0*2^y9 (toNat<|zc .i64<|64-v9) 64) k) k) (.ck (decide (0<=d)&&true&&decide (0<=toNat d)&&decide (toNat d<=z7 none b)&&decide (z7 none b<=z7 none b)&&true)<|.ck (decide (0+c<=length o1)&&true&&C5 (take c o1))<|.ck (decide (0+toNat d<=length f)&&true&&C5 (take (toNat d) f))<|.leaf (.tup [.dat h'<|Ay<|take c o1,.dat h'<|Ay<|take (toNat d) f]) []):=by kernel_rfl
def L8(v9:Int)(h:List Int)(c:Nat)(e:Int)(b:Nat)(m:Int)(o1 n:List Int)(i g l:Nat)(v1:List Int)(v5 o f d a:Int)(j:List Int)(k:List Int):Tr:=re ((stepT Kc<|L7 v9 h c e b m o1 n 0 0 0 [] 0 0 0 0 0 0 [] []).R.L.L.L.L.L.R)<|Aw 186 [(0,.sl 0 1 i g<|Option.some l),(1,.dat (ze<|zm zd) v1),(5,.dat i64 v5),(6,.dat (zm zd) o),(17,.dat (zm zd) f),(156,.dat i64 d),(157,.dat i64 a)] [(1,.arr false 216 (zm zd) j),(0,.arr false 216 (zm zd) k)] 2
theorem D5(v9:Int)(m:List Int)(h:Nat)(l:Int)(d:Nat)(e:Int)(o1 t:List Int)(f j n:Nat)(v1:List Int)(v5 o c:Int)(b:Int)(i a:Int)(k:List Int)(g:List Int):stepT Kc (L7 v9 m h l d e o1 t f j n v1 v5 o c b i a k g)=let b':=zo (toNat v5) f;let p:=getD v1 (toNat a) 0;let y:=decide (zo (toNat a) f<length g);let x:=decide (zo (toNat v5) f<length g);let h':=decide (0<=a)&&decide (a<(↑j:Int));let u:=(0:qf (BB [u64]));let q:=(1:qf (BB [u64]));let w:=decide (0<=v5)&&decide (v5<(↑j:Int));let n':=zo (toNat a) f;let r:=IJ o p;let s:=getD g n' 0;let v:=getD g b' 0;let z:=set g b'<|UO v b c;let l':=IC r b 0;.di (a<i) (.ck (decide (0<=a)&&decide (a<(length v1:Int)))<|.ck (zt o&&zt p)<|.ck (zt r&&zt b&&decide (u<=0)&&decide (0<=q))<|.ck h'<|.ck y<|.ck (zt s&&zt l'&&decide (u<=c)&&decide (c<=q))<|.ck h'<|.ck y<|L7 v9 m h l d e o1 t f j n v1 v5 o (Rr s l' c) (zc .u64<|Sb o p+Qo r b 0) i (zc .i64<|a+1) k<|set g n'<|UO s l' c) (.ck w<|.ck x<|.ck (zt v&&zt b&&decide (u<=c)&&decide (c<=q))<|.ck w<|.ck x<|.ite (Rr v b c==0) (.ck (decide (0<=e)&&decide (e<(↑d:Int)))<|.cd (toNat e<length k)<|L4 v9 m h l d (zc .i64<|e-1) (set k (toNat e) o) z)<|L8 v9 m h l d e o1 t f j n v1 v5 o 0 v5 0 k z):=by kernel_rfl
theorem Ho(v9:Int)(l:List Int)(g:Nat)(k:Int)(d:Nat)(c:Int)(o1 t:List Int)(f i m:Nat)(v1:List Int)(v5 p e h a:Int)(j:List Int)(b:List Int):stepT Kc (L8 v9 l g k d c o1 t f i m v1 v5 p e h a j b)=let b':=decide (zo (toNat a) f<length b);let n:=getD v1 (toNat a) 0;let q:=decide (zo (toNat v5) f<length b);let s:=decide (0<=a)&&decide (a<(↑i:Int));let u:=decide (0<=v5)&&decide (v5<(↑i:Int));let r:=zo (toNat a) f;let h':=zo (toNat v5) f;let o:=getD b r 0;.di (a<h) (.ck s<|.ck b'<|.ck (decide (0<=a)&&decide (a<(length v1:Int)))<|.ck (zt o&&zt n&&decide ((0:qf (BB [u64]))<=e)&&decide (e<=(1:qf (BB [u64]))))<|.ck s<|.ck b'<|L8 v9 l g k d c o1 t f i m v1 v5 p (Qo o n e) h (zc .i64<|a+1) j<|set b r<|IC o n e) (.ck u<|.ck q<|.ck u<|.ck q<|.ck (decide (0<=c)&&decide (c<(↑d:Int)))<|.cd (toNat c<length j)<|L4 v9 l g k d (zc .i64<|c-1) (set j (toNat c)<|zc .u64<|p-1)<|set b h'<|zc .u64<|getD b h' 0+e):=by kernel_rfl
end T212
end
namespace T212
variable {Q:PV->Ob->Prop}
theorem dqr{r x d:Int}(a:0<d)(hr:0<=r/\r<d)(b:0<=x/\x<18446744073709551616):Sp.dq r x d*d+Sp.dr r x d=r*18446744073709551616+x/\0<=Sp.dq r x d/\Sp.dq r x d<18446744073709551616/\0<=Sp.dr r x d/\Sp.dr r x d<d:=by
 unfold Sp.dq Sp.dr;have h:=yj (r*18446744073709551616+x) d;rw[zp]at h;refine⟨h,Int.ediv_nonneg ae ae,Int.ediv_lt_of_lt_mul a ae,Int.emod_nonneg _ ae,Int.emod_lt_of_pos _ a⟩
theorem Ar(a:List Int)(d:Int)(j:Az Ap a)(f:0<d/\d<18446744073709551616)(l:a.length<=20000)(g:∀q r ob,Az Ap q->(0<=r/\r<d)->At a=At q*d+r->Q (.tup [.dat DE<|Ay q,.dat DE<|Ay [r]]) ob):∀(i:Nat) (q:List Int) (r:Int),i+q.length=a.length->Az Ap q->(0<=r/\r<d)->zf Ap (a.drop i)=zf Ap q*d+r->
  Ends Kc (L1 a [d] a.length r ((i:Int)-1)<|zx i 0++q) Q
 |0,q,r,s,b,hr,e=>by
  have m:((zx 0 0++q).take a.length)=q:=by
   rw[List.replicate_zero,List.nil_append];exact yb ae
  refine yu (Al ..) (Ends.ff (by simp) ?_);rw[m];refine zg (Ab (by simp;omega)<|EJ ae b) (zg (Ab rfl (EJ (by simp)<|fun x c=>by rw[List.mem_singleton]at c;subst c;exact⟨hr.1,by show x<18446744073709551616;omega⟩))<|Ends.leaf<|g q r _ b hr e)
 |i+1,q,r,s,b,hr,e=>by
  have p:(((i+1:Nat):Int)-1)=(i:Int):=ae
  have h:=AZ j i;obtain⟨v,u,o,k,n⟩:=dqr f.1 hr<|yp h;have t:a.drop i=a.getD i 0::a.drop (i+1):=by
   rw[zu,yf ae];exact yt ae
  have es:∀x,(zx (i+1) (0:Int)++q).set i x=zx i 0++(x::q):=by
   intro x;rw[yk,yc];exact DN _ _ _ _ (by simp)
  rw[p];refine yu (Al ..) (zg (by simp) ?_);rw[zn,es,wr ((i:Int)-1) ae ae];refine zg (by simp;omega) (zg (by simp) (zg ?_ (zg (by simp;omega)<|zg (by simp;omega) ?_)))
  ·exact Ab (Ab (Ab (CZ hr.1 ae) h)<|CZ (by show 0<=d;omega) f.2)<|w4 hr.2
  ·refine Ar a d j f l g i _ _ (by simp;omega) (fun x c=>?_) ⟨k,n⟩ ?_
   ·rcases List.mem_cons.1 c with rfl|c
    ·exact⟨u,o⟩
    ·exact b x c
   ·rw[t];show a.getD i 0+(18446744073709551616:Int)*zf Ap (a.drop<|i+1)=(Sp.dq r (a.getD i 0) d+(18446744073709551616:Int)*zf Ap q)*d+Sp.dr r (a.getD i 0) d;rw[e,zw,zr,zk];omega
end T212
end Go.Pe
namespace Go.Sp
theorem U0{B P u0 u1 u2 a v1 v2 v' q r:Int}(g:0<P)(f:0<=v')(k:a<P)(i:0<=q)(c:q*v1+r=u0*B+u1)(h:r*B+u2<q*v2):
  ((u0*B+u1)*B+u2)*P+a<q*((v1*B+v2)*P+v'):=by
 have e:q*(v1*B+v2)=q*v1*B+q*v2:=by rw[zr,zk]
 have d:(u0*B+u1)*B=q*v1*B+r*B:=by rw[<-c,zw]
 have j:(u0*B+u1)*B+u2+1<=q*(v1*B+v2):=by rw[e,d];omega
 have b:=zj j<|z8 g;have l:0<=q*v':=yd i f;rw[zr q, <-zk];rw[zw,z6]at b;omega
theorem Wp{B P u0 u1 u2 c v1 v2 v' q r:Int}(b:0<P)(l:0<=v'/\v'<P)(o:0<=c)(d:0<=q/\q<B)(a:1<=v1)(j:0<=v2)(f:q*v1+r=u0*B+u1)(h:q*v2<=r*B+u2):
  q*((v1*B+v2)*P+v')<((u0*B+u1)*B+u2)*P+c+((v1*B+v2)*P+v'):=by
 have e:q*(v1*B+v2)=q*v1*B+q*v2:=by rw[zr,zk]
 have k:(u0*B+u1)*B=q*v1*B+r*B:=by rw[<-f,zw]
 have g:q*(v1*B+v2)<=(u0*B+u1)*B+u2:=by rw[e,k];omega
 have n:=zj g<|z8 b;have m:q*v'<=(B-1)*P:=Int.le_trans (zz (z8 l.2) d.1) (zj ae<|z8 b);have i:B<=v1*B+v2:=by
  have:=zj a (show 0<=B by omega);omega
 have p:=zj i<|z8 b;rw[yz,z6]at m;rw[zr q, <-zk];omega
theorem HX(b:Int):∀(l:List Int) (i:Nat) (x:Int),i<l.length->val b (l.set i x)=val b l+b^i*(x-l.getD i 0)
 |[],i,x,h=>by simp at h
 |d::l,0,x,_=>by
  show x+b*val b l=d+b*val b l+b^0*(x-d);rw[Int.pow_zero,z6];omega
 |d::l,i+1,x,h=>by
  have:=HX b l i x (by simpa using h);show d+b*val b (l.set i x)=d+b*val b l+b^(i+1)*(x-l.getD i 0);rw[this,zr,yi,zp (b^i) b,zk,Int.add_assoc]
theorem Hw{b:Int}{l:List Int}(h:Az b l)(i:Nat){x:Int}(c:0<=x/\x<b):Az b (l.set i x):=by
 intro d a;rcases List.mem_or_eq_of_mem_set a with a|rfl
 ·exact h d a
 ·exact c
theorem Fo{b:Int}{l r:List Int}(c:Az b l)(e:Az b r):Az b (l++r):=by
 intro d a;rcases yw.1 a with a|a
 ·exact c d a
 ·exact e d a
theorem KM{b:Int}(c:0<b){l:List Int}(h:Az b l)(i:Nat):0<=l.getD i 0/\l.getD i 0<b:=by
 rcases Nat.lt_or_ge i l.length with a|a
 ·have:l.getD i 0∈l:=by rw[zu,yf a];exact List.getElem_mem a
  exact h _ this
 ·rw[zu,List.getElem?_eq_none a];exact⟨Int.le_refl _,c⟩
theorem Cx{l:List Int}{i:Nat}(h:i<l.length):l.drop i=l.getD i 0::l.drop (i+1):=by
 rw[zu,yf h];exact yt h
theorem Hk(p r:List Int)(i j:Nat)(h:p.length=j):(p++r).getD (i+j) 0=r.getD i 0:=by
 subst h;rw[zu,zu,List.getElem?_append_right ae,yg]
theorem Uw(p r:List Int)(i j:Nat)(x:Int)(h:p.length=j):(p++r).set (i+j) x=p++r.set i x:=by
 subst h;rw[List.set_append_right _ _ ae,yg]
theorem tV(b:Int)(r:List Int)(k:Nat)(e:k+3<=r.length)(f:val b (r.drop<|k+3)=0):
  val b r=((r.getD (k+2) 0*b+r.getD (k+1) 0)*b+r.getD k 0)*b^k+val b (r.take k):=by
 have a:b^(k+1)=b^k*b:=yi ..;have c:b^(k+2)=b^k*b*b:=by rw[<-a];exact yi ..
 rw[Cy b r (k+3) e,f,AI,AI,AI,a,c,qc,qd];generalize b^k=P;generalize r.getD (k+2) 0=x;generalize r.getD (k+1) 0=y;generalize r.getD k 0=z;have h:P*b*b*x=x*b*b*P:=by rw[zp (P*b*b) x,zp P b,zk b P b,zp P b, <-zk, <-zk]
 have g:P*b*y=y*b*P:=by rw[zp (P*b) y,zp P b,zk]
 have i:P*z=z*P:=zp _ _;have d:((x*b+y)*b+z)*P=x*b*b*P+y*b*P+z*P:=by rw[zw,zw,zw]
 rw[d];omega
theorem vL(b:Int)(v:List Int)(k:Nat)(e:v.length=k+2):
  val b v=(v.getD (k+1) 0*b+v.getD k 0)*b^k+val b (v.take k):=by
 have h0:val b (v.drop<|k+2)=0:=by rw[List.drop_eq_nil_of_le ae];rfl
 have d:b^(k+1)=b^k*b:=yi ..;rw[Cy b v (k+2) ae,h0,AI,AI,d,qc,qd];generalize b^k=P;generalize v.getD (k+1) 0=y;generalize v.getD k 0=z;have a:P*b*y=y*b*P:=by rw[zp (P*b) y,zp P b,zk]
 have c:P*z=z*P:=zp _ _;rw[a,c,zw];omega
theorem oF{b:Int}(g:2<=b){v:List Int}(c:Az b v)(e:nz v){k:Nat}(d:b^k<=val b v)(f:val b v<b^(k+1)):v.length=k+1:=by
 have hp:=AU (show 0<b by omega) k;have a:v≠[]:=by rintro rfl;simp[val]at d;omega
 have a1:=Bz ae c;have a2:=DF ae c e a;rcases Nat.lt_trichotomy v.length (k+1)with h|h|h
 ·have:=AQ (show 1<=b by omega) (show v.length<=k by omega);omega
 ·exact h
 ·have:=AQ (show 1<=b by omega) (show k+1<=v.length-1 by omega);omega
theorem J0{b:Int}(e:2<=b){r:List Int}(a:Az b r){n:Nat}(c:n<=r.length)(h:val b r<b^n):val b (r.drop n)=0:=by
 have h0:=AD (show 0<=b by omega)<|E9 a n;have d:=AD (show 0<=b by omega)<|AS a n;rw[Cy b r n c]at h;have hp:=AU (show 0<b by omega) n;rcases qe 0 (val b<|r.drop n)with g|g
 ·have:=zz (show 1<=val b (r.drop n)by omega) (show 0<=b^n by omega);omega
 ·omega
theorem R9{b:Int}(d:2<=b){r:List Int}(c:Az b r){n:Nat}(a:n<=r.length)(h:val b (r.drop n)=0):val b r<b^n:=by
 have:=Bz (show 0<b by omega)<|AS c n;rw[ye,yq a]at this;rw[Cy b r n a,h];omega
theorem nP{b c d x y X:Int}(l:0<c)(k:b=c*d):(x+b*(y+b*X))/c=(x/c+(y % c)*d)+b*((y+b*X)/c):=by
 subst k;have e:(x+c*d*(y+c*d*X))/c=x/c+d*(y+c*d*X):=by
  rw[zk c d,Int.add_mul_ediv_left _ _ ae]
 have a:(y+c*d*X)/c=y/c+d*X:=by
  rw[zk c d,Int.add_mul_ediv_left _ _ ae]
 have j:=yj y c;rw[e,a];have g:d*(y+c*d*X)=d*(c*(y/c)+y % c+c*d*X):=by rw[j]
 rw[g,zr,zr,zr<|c*d];have f:d*(c*(y/c))=c*d*(y/c):=by rw[<-zk,zp d c]
 have i:d*(y % c)=(y % c)*d:=zp _ _;have h:d*(c*d*X)=c*d*(d*X):=by rw[<-zk,zp d<|c*d,zk]
 rw[f,i,h];omega
theorem WJ{b c d x k:Int}(o:0<c)(f:0<d)(h:b=c*d)(l:0<=k/\k<c)(a:0<=x/\x<b):
  (x*c) % b=(x % d)*c/\(x % d)*c+k<b/\0<=(x % d)*c/\0<=x/d/\x/d<c/\(x % d)*c+b*(x/d)=x*c:=by
 subst h;have i:=yj x d;have g:=Int.emod_nonneg x (show d≠0 by omega);have j:=Int.emod_lt_of_pos x f;have q0:0<=x/d:=Int.ediv_nonneg a.1 ae;have q1:x/d<c:=Int.ediv_lt_of_lt_mul f (by have:=a.2;omega);have p0:0<=(x % d)*c:=yd g ae;have m:(x % d)*c<=(d-1)*c:=zj ae ae;have n:(d-1)*c=c*d-c:=by rw[yz,z6,zp]
 have e:(x % d)*c+c*d*(x/d)=x*c:=by
  conv=>rhs;rw[<-i]
  rw[zw,zk c d,zp c<|d*(x/d)];omega
 refine⟨?_,by omega,p0,q0,q1,e⟩;rw[<-e,Int.add_mul_emod_self_left];exact Int.emod_eq_of_lt p0 ae
theorem NH{B P u0 u1 u2 b v1 v2 v' q r:Int}(c:0<P)(j:0<B)(m:0<=q)(i:0<=v')(a:0<=v2)(p:b<P)(k:u2<B)(n:q*v1+r=u0*B+u1)(h:r<v1):
  ((u0*B+u1)*B+u2)*P+b<(q+1)*((v1*B+v2)*P+v'):=by
 have f:u0*B+u1+1<=(q+1)*v1:=by rw[zw,z6];omega
 have d:=zj f<|z8 j;have l:(u0*B+u1)*B+u2+1<=(q+1)*v1*B:=by
  rw[zw,z6]at d;omega
 have g:=zj l<|z8 c;rw[zw,z6]at g;have s:0<=(q+1)*(v2*P):=yd ae<|yd a<|z8 c;have o:0<=(q+1)*v':=yd ae i;have e:(q+1)*((v1*B+v2)*P+v')=(q+1)*v1*B*P+(q+1)*(v2*P)+(q+1)*v':=by
  rw[zw<|v1*B,zr,zr];congr 2;rw[zk,zk,zk]
 rw[e];omega
end Go.Sp
namespace Go.Pe
open Sp
open Go.Det
theorem WM{q x y c b:Int}(d:zt q=true)(e:zt x=true)(i:zt y=true)(f:zt c=true)(j:0<=b/\b<=1):
  zt (IJ q x)=true/\zt (IC (IJ q x) c 0)=true/\zc .u64 (Sb q x+Qo (IJ q x) c 0)=(q*x+c)/18446744073709551616/\zt ((q*x+c)/18446744073709551616)=true/\
  zt (UO y (IC (IJ q x) c 0) b)=true/\(0<=Rr y (IC (IJ q x) c 0) b/\Rr y (IC (IJ q x) c 0) b<=1)/\
  c+b+(UO y (IC (IJ q x) c 0) b-y)=18446744073709551616*((q*x+c)/18446744073709551616+Rr y (IC (IJ q x) c 0) b)-q*x:=by
 have d:=yp d;have e:=yp e;have f:=yp f;have h0:0<=q*x:=yd d.1 e.1;have k:q*x<=18446744073709551615*18446744073709551615:=by
  have a:=zz (show x<=18446744073709551615 by omega) d.1;have b:=zj (show q<=18446744073709551615 by omega) (show(0:Int)<=18446744073709551615 by omega);omega
 have g:zt (IC (IJ q x) c 0)=true:=by unfold IC;exact CZ ae ae
 obtain⟨s1,s2,s3⟩:=Sp.Hn i g j;refine⟨?_,g,?_,?_,s1,s2,?_⟩
 ·unfold IJ;exact CZ ae ae
 ·unfold IJ Sb Qo;rw[Mm];generalize q*x=P at*;omega
 ·generalize q*x=P at*;exact CZ ae ae
 ·generalize Rr y (IC (IJ q x) c 0) b=h at*;generalize UO y (IC (IJ q x) c 0) b=l at*;unfold IC IJ at s3;generalize q*x=P at*;omega
namespace T212
variable {Q:PV->Ob->Prop}
theorem gw{lo r:List Int}{j:Nat}(h:lo.length=j)(i:Nat):(lo++r).getD (zo i j) 0=r.getD i 0:=Hk lo r i j h
theorem sw{lo r:List Int}{j:Nat}(h:lo.length=j)(i:Nat)(x:Int):(lo++r).set (zo i j) x=lo++r.set i x:=Uw lo r i j x h
theorem lw{lo r:List Int}{j i:Nat}(h:lo.length=j)(a:i<r.length):decide (zo i j<(lo++r).length)=true:=by
 refine w4 ?_;show i+j<_;rw[List.length_append];omega
theorem JW(r:List Int)(i n:Nat)(x:Int)(h:i<n):(r.set i x).drop n=r.drop n:=by
 rw[List.drop_set,wd h]
theorem CG(v9:Int)(o:List Int)(f:Nat)(l:Int)(a:Nat)(o1 G:List Int)(p:Nat)(v:List Int)(n j:Nat)(lo:List Int)(m:Nat)(q W:Int)(g:List Int)
  (Y:v.length=n) (F:n<=9000) (X:n+1<=m) (d:lo.length=j) (C:j<a) (z:j<g.length) (K:Az Ap v) (H:zt q=true)
  (h0:∀r:List Int,r.length=m->Az Ap r->zf Ap (r.drop<|n+1)=0->zf Ap r=W-q*zf Ap v->Ends Kc (L4 v9 o f l a (zc .i64<|(j:Int)-1) (g.set j q)<|lo++r) Q)
  (N:∀r:List Int,r.length=m->Az Ap r->zf Ap (r.drop<|n+1)=0->zf Ap r=W-q*zf Ap v+(Ap:Int)^(n+1)->Ends Kc (L8 v9 o f l a j o1 G j (n+1) p v n q 0 n 0 g<|lo++r) Q):
  ∀(k i:Nat) (r:List Int) (b c:Int),i+k=n->r.length=m->Az Ap r->zf Ap (r.drop<|n+1)=0->zt c=true->(0<=b/\b<=1)->zf Ap r=W-q*zf Ap (v.take i)+(Ap:Int)^i*(c+b)->
   Ends Kc (L7 v9 o f l a j o1 G j (n+1) p v n q b c n i g<|lo++r) Q
 |0,i,r,b,c,I,hr,y,J,A,s,E=>by
  have I:i=n:=ae
  subst I;have u:=AZ y i;obtain⟨s1,s2,s3⟩:=Sp.Hn u A s;have h:decide (zo i j<(lo++r).length)=true:=lw d ae;have t1:(decide ((0:Int)<=(i:Int))&&decide ((i:Int)<((i+1:Nat):Int)))=true:=by simp;omega
  have D:v.take i=v:=yb ae;have w:∀x:Int,0<=x/\x<18446744073709551616->(r.set i x).length=m/\Az Ap (r.set i x)/\zf Ap ((r.set i x).drop<|i+1)=0:=fun x P=>
   ⟨by simp[hr],Hw y i P,by rw[JW _ _ _ _ ae];exact J⟩
  obtain⟨L,B,O⟩:=w _<|yp s1;have ev:zf Ap (r.set i<|UO (r.getD i 0) c b)=W-q*zf Ap v+(Ap:Int)^(i+1)*Rr (r.getD i 0) c b:=by
   rw[HX _ _ _ _ ae,E,D,LX,Int.add_assoc, <-zr];congr 2;omega
  refine yu (D5 ..) (Ends.ff (by simp) ?_);rw[zn,zn,gw d,sw d];refine zg t1<|zg h<|zg (Ab (Ab (Ab u A)<|w4 s.1)<|w4 s.2)<|zg t1<|zg h<|y7 (fun t=>?_)<|fun t=>?_
  ·have t:Rr (r.getD i 0) c b=0:=by simpa using t
   refine zg (by simp;omega)<|zg (w4 z)<|h0 _ L B O ?_;rw[ev,t,qc,qd]
  ·have t:Rr (r.getD i 0) c b≠0:=by simpa using t
   refine N _ L B O ?_;rw[ev,show Rr (r.getD i 0) c b=1 by omega,Int.mul_one]
 |k+1,i,r,b,c,I,hr,y,J,A,s,E=>by
  have M:=AZ K i;have u:=AZ y i;obtain⟨S,Z,R,U,T,m6,V⟩:=WM H M u A s;have h:decide (zo i j<(lo++r).length)=true:=lw d ae;have t1:(decide ((0:Int)<=(i:Int))&&decide ((i:Int)<((n+1:Nat):Int)))=true:=by simp;omega
  have B:=wn (i:=i) ae;refine yu (D5 ..) (zg (by simp;omega) ?_);rw[zn,gw d,sw d,R,B];refine zg (by simp;omega)<|zg (Ab H M)<|zg (Ab (Ab (Ab S A) rfl) rfl)<|zg t1<|zg h<|zg (Ab (Ab (Ab u Z)<|w4 s.1)<|w4 s.2)<|zg t1<|zg h ?_;refine CG v9 o f l a o1 G p v n j lo m q W g Y F X d C z K H h0 N k (i+1) _ _ _ ae (by simp[hr]) (Hw y i<|yp T) (by rw[JW _ _ _ _ ae];exact J) U m6 ?_;rw[HX _ _ _ _ ae,E,LX,AI,zr q,Int.mul_left_comm q];have e:(Ap:Int)^i*(c+b)+(Ap:Int)^i*(UO (r.getD i 0) (IC (IJ q<|v.getD i 0) c 0) b-r.getD i 0)=(Ap:Int)^i*(18446744073709551616*((q*v.getD i 0+c)/18446744073709551616+Rr (r.getD i 0) (IC (IJ q<|v.getD i 0) c 0) b))-(Ap:Int)^i*(q*v.getD i 0):=by
   rw[<-zr, <-yv,V]
  omega
theorem FX(v9:Int)(p:List Int)(h:Nat)(o:Int)(d:Nat)(o1 F:List Int)(s:Nat)(v:List Int)(n j:Nat)(lo:List Int)(m:Nat)(q W:Int)(l:List Int)
  (P:v.length=n) (A:n<=9000) (O:n+1<=m) (a:lo.length=j) (y:j<d) (u:j<l.length) (J:Az Ap v)
  (hW:0<=W+zf Ap v)
  (h0:∀r:List Int,r.length=m->Az Ap r->zf Ap (r.drop<|n+1)=0->zf Ap r=W+zf Ap v->Ends Kc (L4 v9 p h o d (zc .i64<|(j:Int)-1) (l.set j<|zc .u64<|q-1)<|lo++r) Q):
  ∀(k i:Nat) (r:List Int) (c:Int),i+k=n->r.length=m->Az Ap r->zf Ap (r.drop<|n+1)=0->(0<=c/\c<=1)->zf Ap r=W+(Ap:Int)^(n+1)+zf Ap (v.take i)-(Ap:Int)^i*c->
   Ends Kc (L8 v9 p h o d j o1 F j (n+1) s v n q c n i l<|lo++r) Q
 |0,i,r,c,E,hr,t,B,x,z=>by
  have E:i=n:=ae
  subst E;have C:=yp<|AZ t i;have f:decide (zo i j<(lo++r).length)=true:=lw a ae;have t1:(decide ((0:Int)<=(i:Int))&&decide ((i:Int)<((i+1:Nat):Int)))=true:=by simp;omega
  have D:v.take i=v:=yb ae;have L:0<=(r.getD i 0+c) % 18446744073709551616/\(r.getD i 0+c) % 18446744073709551616<18446744073709551616:=ae
  have M:(r.set i<|(r.getD i 0+c) % 18446744073709551616).length=m:=by simp[hr]
  have w:Az Ap (r.set i<|(r.getD i 0+c) % 18446744073709551616):=Hw t i L;have I:zf Ap ((r.set i<|(r.getD i 0+c) % 18446744073709551616).drop<|i+1)=0:=by rw[JW _ _ _ _ ae];exact B
  have G:=R9 (b:=Ap) af w (n:=i+1) ae I;refine yu (Ho ..) (Ends.ff (by simp) ?_);rw[zn,zn,gw a,sw a,Mm<|r.getD i 0+c];refine zg t1 (zg f<|zg t1<|zg f<|zg (by simp;omega)<|zg (w4 u)<|h0 _ M w I ?_);have hp:=AU (b:=Ap) af i;rw[HX _ _ _ _ ae,z,D]at G ⊢;rcases show(r.getD i 0+c) % 18446744073709551616=r.getD i 0+c\/(r.getD i 0+c) % 18446744073709551616=r.getD i 0+c-18446744073709551616 by omega with g|g
  ·exfalso;rw[g,show r.getD i 0+c-r.getD i 0=c by omega]at G;omega
  ·have K:(Ap:Int)^(i+1)=(Ap:Int)^i*18446744073709551616:=yi ..;rw[g,show r.getD i 0+c-18446744073709551616-r.getD i 0=c-18446744073709551616 by omega,yv,K];omega
 |k+1,i,r,c,E,hr,t,B,x,z=>by
  have H:=AZ J i;have C:=AZ t i;obtain⟨N,R,S⟩:=Mp C H x;have f:decide (zo i j<(lo++r).length)=true:=lw a ae;have t1:(decide ((0:Int)<=(i:Int))&&decide ((i:Int)<((n+1:Nat):Int)))=true:=by simp;omega
  have w:=wn (i:=i) ae;refine yu (Ho ..) (zg (by simp;omega) ?_);rw[zn,gw a,sw a,w];refine zg t1 (zg f (zg (by simp;omega)<|zg (Ab (Ab (Ab C H)<|w4 x.1)<|w4 x.2)<|zg t1<|zg f ?_));refine FX v9 p h o d o1 F s v n j lo m q W l P A O a y u J hW h0 k (i+1) _ _ ae (by simp[hr]) (Hw t i<|yp N) (by rw[JW _ _ _ _ ae];exact B) R ?_;rw[HX _ _ _ _ ae,z,LX,AI];have e:(Ap:Int)^i*(IC (r.getD i 0) (v.getD i 0) c-r.getD i 0)-(Ap:Int)^i*c=(Ap:Int)^i*v.getD i 0-(Ap:Int)^i*(18446744073709551616*Qo (r.getD i 0) (v.getD i 0) c):=by
   rw[<-yv, <-yv];congr 1;omega
  omega
theorem vB(v9:Int)(l:List Int)(f:Nat)(k:Int)(e:Nat)(o1 y:List Int)(p:Nat)(v:List Int)(n j:Nat)(lo:List Int)(m:Nat)(i h:List Int)
  (C:v.length=n) (t:n<=9000) (z:n+1<=m) (w:lo.length=j) (s:j<e) (u:j<h.length) (x:Az Ap v)
  (hr:i.length=m) (B:Az Ap i) (K:zf Ap (i.drop<|n+1)=0)
  (o:∀(q:Int) (r:List Int),r.length=m->Az Ap r->(0<=q/\q<18446744073709551616)->zf Ap r<zf Ap v->zf Ap r=zf Ap i-q*zf Ap v->Ends Kc (L4 v9 l f k e (zc .i64<|(j:Int)-1) (h.set j q)<|lo++r) Q)
  (q:Int) (A:zt q=true) (H:zf Ap i<(q+1)*zf Ap v) (N:q*zf Ap v<zf Ap i+zf Ap v):
  Ends Kc (L7 v9 l f k e j o1 y j (n+1) p v n q 0 0 n 0 h<|lo++i) Q:=by
 have F:=yp A;have M:=AD (b:=Ap) af B;have L:=AD (b:=Ap) af x;rw[zw,z6]at H;refine CG v9 l f k e o1 y p v n j lo m q (zf Ap i) h C t z w s u x A (fun r a b c d=>o q r a b F ae d) (fun r a b c d=>?_) n 0 i 0 0 ae hr B K af af (by simp[zf]);have O:=R9 (b:=Ap) af b (n:=n+1) ae c;have E:1<=q:=by
  rcases qe 0 q with g|g
  ·exact g
  ·have:q=0:=ae
   subst this;rw[Int.zero_mul]at d;omega
 have G:zc .u64 (q-1)=q-1:=wu _ ae ae;refine FX v9 l f k e o1 y p v n j lo m q (zf Ap i-q*zf Ap v) h C t z w s u x ae (fun D J b' P I=>?_) n 0 r 0 ae a b c af (by rw[d];simp[zf]);rw[G];refine o (q-1) D J b' ae ae ?_;rw[I,yz,z6];omega
theorem AeP(q x:Int):Sb q x*18446744073709551616+IJ q x=q*x/\0<=IJ q x/\IJ q x<18446744073709551616:=by
 unfold Sb IJ;generalize q*x=P;omega
theorem CP(v9:Int)(p:List Int)(h:Nat)(n:Int)(d:Nat)(o1 F:List Int)(s:Nat)(v:List Int)(k j:Nat)(lo:List Int)(m:Nat)(e i:List Int)
  (U:v.length=k+2) (E:k+2<=9000) (hm:k+3<=m) (u:lo.length=j) (C:j<d) (L:j<i.length) (A:Az Ap v)
  (hr:e.length=m) (J:Az Ap e) (R:zf Ap (e.drop<|k+3)=0) (H:1<=v.getD (k+1) 0)
  (w:∀(q:Int) (r:List Int),r.length=m->Az Ap r->(0<=q/\q<18446744073709551616)->zf Ap r<zf Ap v->zf Ap r=zf Ap e-q*zf Ap v->Ends Kc (L4 v9 p h n d (zc .i64<|(j:Int)-1) (i.set j q)<|lo++r) Q):
  ∀(f:Nat) (q r o:Int),0<=q->q<f->q<18446744073709551616->zt r=true->(o=0\/o=1)->q*v.getD (k+1) 0+(r+18446744073709551616*o)=e.getD (k+2) 0*18446744073709551616+e.getD (k+1) 0->zf Ap e<(q+1)*zf Ap v->
   Ends Kc (L5 v9 p h n d j o1 F j (k+3) s v ((k+2:Nat):Int) q r o i<|lo++e) Q
 |0,q,r,o,h0,hf,_,_,_,_,_=>by omega
 |f+1,q,r,o,h0,hf,Y,l,ho,he,O=>by
  have uq:zt q=true:=CZ h0 Y;have K:=AZ A k;have t:=AZ A<|k+1;have V:=AZ J k;have T:=yp K;have gv1:=yp t;have gu2:=yp V;have gr:=yp l;have Z:=AU (b:=Ap) af k;have hW:=tV Ap e k ae R;have X:=vL Ap v k U;have W:=AD (b:=Ap) af<|AS J k;have y:=Bz (b:=Ap) af<|AS J k;have D:=AD (b:=Ap) af<|AS A k;have x:=Bz (b:=Ap) af<|AS A k;rw[ye,yq ae]at y x;have exit:q*v.getD k 0<=(r+18446744073709551616*o)*18446744073709551616+e.getD k 0->Ends Kc (L7 v9 p h n d j o1 F j (k+3) s v ((k+2:Nat):Int) q 0 0 ((k+2:Nat):Int) 0 i<|lo++e) Q:=by
   intro N;refine vB v9 p h n d o1 F s v (k+2) j lo m e i U E hm u C L A hr J R w q uq O ?_;rw[hW,X];exact Wp Z ⟨D,x⟩ W ⟨h0,Y⟩ H T.1 he N
  have e1:zc .i64 (((k+2:Nat):Int)-2)=(k:Int):=by rw[wr _ ae ae];omega
  have e2:zc .i64 (((k+2:Nat):Int)-1)=((k+1:Nat):Int):=by rw[wr _ ae ae];omega
  obtain⟨w1,w2,w3⟩:=AeP q<|v.getD k 0;have P:decide (zo k j<(lo++e).length)=true:=lw u ae;refine yu (EO ..)<|y7 (fun c=>?_)<|fun c=>?_
  ·have c:o=0:=by simpa using c
   subst c;rw[e1,e2,zn,zn,gw u];refine zg (by simp;omega)<|zg (Ab uq K) ?_;have M:r*18446744073709551616+e.getD k 0<q*v.getD k 0->Ends Kc (L5 v9 p h n d j o1 F j (k+3) s v ((k+2:Nat):Int) (zc .u64<|q-1) (IC r (v.getD (k+1) 0) 0) (Qo r (v.getD (k+1) 0) 0) i<|lo++e) Q:=by
    intro N;obtain⟨a1,a2,a3⟩:=Mp l t (c:=0) af;have hq1:1<=q:=by
     rcases qe 0 q with g|g
     ·exact g
     ·have:q=0:=ae
      subst this;rw[Int.zero_mul]at N;omega
    rw[wu (q-1) ae ae];refine CP v9 p h n d o1 F s v k j lo m e i U E hm u C L A hr J R H w f (q-1) _ _ ae ae ae a1 ae ?_ ?_
    ·rw[yz,z6,a3];omega
    ·have S:q*v.getD (k+1) 0+r=e.getD (k+2) 0*18446744073709551616+e.getD (k+1) 0:=ae
     have:=U0 (B:=Ap) (u0:=e.getD (k+2) 0) (u1:=e.getD (k+1) 0) (u2:=e.getD k 0) Z D y h0 (v1:=v.getD (k+1) 0) (v2:=v.getD k 0) (r:=r) S N;rw[<-hW, <-X]at this;rw[show q-1+1=q by omega];exact this
   refine y7 (fun I=>exit ?_) (fun I=>y7 (fun z=>zg (by simp;omega)<|zg P<|y7 (fun G=>exit ?_)<|fun G=>zg (by simp;omega)<|zg (Ab (Ab (Ab l t) rfl) rfl)<|M ?_) (fun z=>zg (by simp;omega)<|zg (Ab (Ab (Ab l t) rfl) rfl)<|M ?_))
   ·have I:=w6 I;omega
   ·have z:Sb q (v.getD k 0)=r:=by simpa using z
    have G:=w6 G;omega
   ·have z:Sb q (v.getD k 0)=r:=by simpa using z
    have G:=w7 G;omega
   ·have I:=w7 I;have z:Sb q (v.getD k 0)≠r:=by simpa using z
    omega
  ·have c:o≠0:=by simpa using c
   refine exit ?_;have a:=zz (show v.getD k 0<=18446744073709551615 by omega) h0;omega
theorem Cb(s:Int)(v:List Int)(k e:Nat)(E:v.length=k+2)(T:e<=9000)(hkl:k+2<=e)(y:Az Ap v)(D:1<=v.getD (k+1) 0)(W0:Int)
  (hq:∀u f:List Int,u.length=e+1->Az Ap u->Az Ap f->zf Ap u<zf Ap v->f.length=e-(k+2)+1->W0=zf Ap u+zf Ap v*zf Ap f->Ends Kc (L6 s (e+1) ((k+2:Nat):Int) (e-(k+2)+1) ((k+2:Nat):Int) 0 f u) Q):
  ∀(t:Nat) (u f:List Int),t+f.length=e-(k+2)+1->u.length=e+1->Az Ap u->Az Ap f->zf Ap (u.drop t)<zf Ap v->W0=zf Ap u+zf Ap v*((Ap:Int)^t*zf Ap f)->
   Ends Kc (L4 s v (e+1) ((k+2:Nat):Int) (e-(k+2)+1) ((t:Int)-1) (zx t 0++f) u) Q
 |0,u,f,hl,hu,O,A,C,W=>by
  refine yu (Ci ..) (Ends.ff (by simp) ?_);exact hq u f hu O A C ae (by rw[W,Int.pow_zero,z6])
 |j+1,u,f,hl,hu,O,A,C,W=>by
  obtain⟨lo,r,rfl,g⟩:∃lo r:List Int,u=lo++r/\lo.length=j:=⟨u.take j,u.drop j,(List.take_append_drop j u).symm,by rw[ye];omega⟩;have G:Az Ap lo:=fun d h=>O d<|yw.2<|.inl h
  have a:Az Ap r:=fun d h=>O d<|yw.2<|.inr h
  have F:r.length=e+1-j:=by rw[List.length_append]at hu;omega
  have m:∀z:List Int,(lo++z).drop j=z:=fun z=>by rw[<-g];exact List.drop_left
  have U:r=r.getD 0 0::r.drop 1:=by
   have:=Cx (l:=r) (i:=0) ae;rw[List.drop_zero]at this;exact this
  have X:(lo++r).drop (j+1)=r.drop 1:=by rw[Nat.add_comm j 1,Nat.add_comm 1 j, <-List.drop_drop,m]
  rw[X]at C;have g0:=KM (b:=Ap) af a 0;have Y:zf Ap r=r.getD 0 0+18446744073709551616*zf Ap (r.drop 1):=by
   conv=>lhs;rw[U]
   rfl
  have K:=Bz (b:=Ap) af y;rw[E]at K;have g0:0<=r.getD 0 0/\r.getD 0 0<18446744073709551616:=g0;have Z:zf Ap r<18446744073709551616*zf Ap v:=by rw[Y];omega
  have N:zf Ap (r.drop<|k+3)=0:=by
   refine J0 (b:=Ap) af a ae ?_;have ep:(Ap:Int)^(k+3)=(Ap:Int)^(k+2)*18446744073709551616:=yi ..;rw[ep];omega
  have J:=AZ a<|k+2;have o:=AZ a<|k+1;have V:=AZ a k;have n:=AZ y<|k+1;have gu0:=yp J;have S:=yp o;have P:=yp V;have gv1:=yp n;have gv2:=yp<|AZ y k;have hP:=AU (b:=Ap) af k;have hW:=tV Ap r k ae N;have hV:=vL Ap v k E;have hu':=AD (b:=Ap) af<|AS a k;have p:=Bz (b:=Ap) af<|AS a k;have R:=AD (b:=Ap) af<|AS y k;rw[ye,yq ae]at p;have hle:r.getD (k+2) 0<=v.getD (k+1) 0:=by
   have a1:=Cy Ap (r.drop 1) (k+1) (by rw[List.length_drop];omega);have a2:(r.drop 1).drop (k+1)=r.getD (k+2) 0::r.drop (k+3):=by
    rw[List.drop_drop,show 1+(k+1)=k+2 by omega];exact Cx ae
   have a3:zf Ap (r.getD (k+2) 0::r.drop (k+3))=r.getD (k+2) 0:=by
    show r.getD (k+2) 0+(Ap:Int)*zf Ap (r.drop<|k+3)=_;rw[N];omega
   rw[a2,a3]at a1;have b1:zf Ap v=zf Ap (v.take<|k+1)+(Ap:Int)^(k+1)*v.getD (k+1) 0:=by
    rw[<-AI,yb ae]
   have I:=Bz (b:=Ap) af<|AS y<|k+1;rw[ye,yq ae]at I;have c1:=AD (b:=Ap) af<|AS (E9 a 1)<|k+1;have c2:(Ap:Int)^(k+1)*r.getD (k+2) 0<(Ap:Int)^(k+1)*(v.getD (k+1) 0+1):=by
    rw[zr,Int.mul_one];omega
   have:=Int.lt_of_mul_lt_mul_left c2 (z8<|AU af<|k+1);omega
  have w:∀(q:Int) (B:List Int),B.length=e+1-j->Az Ap B->(0<=q/\q<18446744073709551616)->zf Ap B<zf Ap v->zf Ap B=zf Ap r-q*zf Ap v->Ends Kc (L4 s v (e+1) ((k+2:Nat):Int) (e-(k+2)+1) (zc .i64<|(j:Int)-1) ((zx (j+1) 0++f).set j q)<|lo++B) Q:=by
   intro q B h1 h2 h3 h4 h5;have es:(zx (j+1) (0:Int)++f).set j q=zx j 0++(q::f):=by
    rw[yk,yc];exact DN _ _ _ _ (by simp)
   rw[es,wr ((j:Int)-1) ae ae];refine Cb s v k e E T hkl y D W0 hq j (lo++B) (q::f) (by simp;omega) (by simp;omega) (Fo G h2) (fun d h=>?_) (by rw[m];exact h4) ?_
   ·rcases List.mem_cons.1 h with rfl|h
    ·exact h3
    ·exact A d h
   ·rw[W,De,De,g,h5,LX];show zf Ap lo+(Ap:Int)^j*zf Ap r+zf Ap v*((Ap:Int)^j*(18446744073709551616*zf Ap f))=zf Ap lo+(Ap:Int)^j*(zf Ap r-q*zf Ap v)+zf Ap v*((Ap:Int)^j*(q+18446744073709551616*zf Ap f));have x1:zf Ap v*((Ap:Int)^j*q)=(Ap:Int)^j*(q*zf Ap v):=by
     rw[Int.mul_left_comm,zp (zf Ap v) q]
    rw[yv,zr ((Ap:Int)^j) q,zr<|zf Ap v,x1];omega
  have ez:zo 0 j=j:=Nat.zero_add j;have e0:(((j+1:Nat):Int)-1)=(j:Int):=ae
  have e1:zc .i64 (zc .i64 ((j:Int)+((k+2:Nat):Int))+1)=((j+(k+3):Nat):Int):=by
   rw[wr ((j:Int)+((k+2:Nat):Int)) ae ae,wr _ ae ae];omega
  have e2:zc .i64 (((k+2:Nat):Int)-1)=((k+1:Nat):Int):=by rw[wr _ ae ae];omega
  have e3:zy (j+(k+3)) j=k+3:=by show j+(k+3)-j=_;omega
  have H:decide (zo (k+2) j<(lo++r).length)=true:=lw g ae;have L:decide (zo (k+1) j<(lo++r).length)=true:=lw g ae;rw[e0];refine yu (Ci ..) (zg (by simp) ?_);rw[E,e1,e2,zn,zn,zn,zn,ez,e3,gw g,gw g];have b1:(decide ((0:Int)<=((k+2:Nat):Int))&&decide (((k+2:Nat):Int)<((k+3:Nat):Int)))=true:=by simp;omega
  have I:(decide ((0:Int)<=((k+1:Nat):Int))&&decide (((k+1:Nat):Int)<((k+2:Nat):Int)))=true:=by simp;omega
  have b3:(decide ((0:Int)<=((k+1:Nat):Int))&&decide (((k+1:Nat):Int)<((k+3:Nat):Int)))=true:=by simp;omega
  have M:j<(zx (j+1) (0:Int)++f).length:=by simp;omega
  refine zg (by simp;omega)<|zg b1<|zg H<|zg I<|y7 (fun c=>?_)<|fun c=>?_
  ·have c:=w6 c;obtain⟨a1,a2,a3⟩:=Mp o n (c:=0) af;refine zg b3<|zg L<|zg I<|zg (Ab (Ab (Ab o n) rfl) rfl) ?_;refine CP s v (e+1) _ _ _ _ _ v k j lo (e+1-j) r _ E ae ae g ae M y F a N D w 18446744073709551616 _ _ _ af af af a1 ae ?_ ?_
   ·rw[a3];omega
   ·exact Z
  ·have c:=w7 c;obtain⟨d1,d2,d3,d4,d5⟩:=dqr (r:=r.getD (k+2) 0) (x:=r.getD (k+1) 0) (d:=v.getD (k+1) 0) ae ae S;refine zg b1 (zg H<|zg b3<|zg L<|zg I<|zg (Ab (Ab (Ab J o) n)<|w4 ae) ?_);refine CP s v (e+1) _ _ _ _ _ v k j lo (e+1-j) r _ E ae ae g ae M y F a N D w 18446744073709551616 _ _ _ d2 d3 d3 (CZ d4 ae) (.inl rfl) ?_ ?_
   ·rw[<-d1];omega
   ·rw[hW,hV];exact NH hP af d2 R gv2.1 p P.2 d1 d5
end T212
end Go.Pe
