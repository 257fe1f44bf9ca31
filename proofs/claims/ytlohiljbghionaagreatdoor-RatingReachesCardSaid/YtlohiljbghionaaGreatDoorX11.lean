import Derived.Test.YtlohiljbghionaaGreatDoorX10
import Derived.Lib.ItoaMem
/- A part of a proof; no law is stated here. -/
noncomputable section
open Go.IntKind renaming wrap -> zc, u64 -> zd, u8 -> yh, i64 -> ym
open Go.Pe.Sh renaming list -> ze, str -> zh, bool -> zl, int -> zm, T -> qf
open Go.Sp renaming val -> zf, u64 -> zt, A5 -> yp, C5 -> yr, first -> yy, vI -> y8
open Go.Pe.Ends renaming tt -> zg, Ah -> yu, ite -> y7
open UInt8 renaming toNat -> zi, ofNat -> yx
open Int renaming mul_le_mul_of_nonneg_right -> zj, mul_assoc -> zk, toNat_natCast -> zn, mul_comm -> zp, mul_add -> zr, add_mul -> zw, mul_le_mul_of_nonneg_left -> zz, one_mul -> z6, le_of_lt -> z8, tmod -> ya, mul_nonneg -> yd, pow_succ -> yi, mul_ediv_add_emod -> yj, tdiv -> yn, mul_sub -> yv, sub_mul -> yz, mul_zero -> qc, add_zero -> qd, lt_or_le -> qe
open Nat renaming add -> zo, sub -> zy, add_sub_cancel -> yg, min_eq_left -> yq
open Go.Pe.PV renaming agg -> zq
open List renaming getD_eq_getElem?_getD -> zu, replicate -> zx, take_of_length_le -> yb, append_assoc -> yc, length_take -> ye, getElem?_eq_getElem -> yf, replicate_succ' -> yk, map -> yo, drop_eq_getElem_cons -> yt, mem_append -> yw
open Option renaming getD -> z7
open Min renaming min -> y9
namespace Go.Sp
abbrev Aj:=(Int×List Int)×(Int×List Int)
def NJ(a:AG):Bool:=C5 a&&decide (a.2.length<=4000)
def De(a:Aj):Bool:=NJ a.1&&NJ a.2
def FN(a b:Aj):Int:=Cg (vI a.1*vI b.2)<|vI b.1*vI a.2
def VQ(a:Z):Int:=C0<|Bc a
def Vx(a:Z):List Int:=CZ<|Bc a
def TT(a:Z):Int:=C0<|AN a
def Sv(a:Z):List Int:=CZ<|AN a
def iQ(a b:AG):AG:=if vI b<0 then El (Ck a) (Ck b)else El a b
def iQS(a b:AG):Int:=(iQ a b).1
def iQW(a b:AG):List Int:=(iQ a b).2
def C4(d:AG):Bool:=decide (d.2=[])&&decide (d.1=1)
def gR(n d:AG):AG:=(Nx n d,Nd n d)
def ND(n d:AG):Aj:=if C4 d=true then(n,d)else(iQ n<|gR n d,iQ d<|gR n d)
def YO(n d:AG):Aj:=if vI d<0 then ND (Ck n) (Ck d)else ND n d
def fWh(n:AG):Aj:=(n,(1,CT 1))
def Cf(a b:Aj):Aj:=if C4 a.2=true/\C4 b.2=true then fWh (EO a.1 b.1)else YO (EO (FB a.1 b.2)<|FB b.1 a.2)<|FB a.2 b.2
def Lh(a b:Aj):Aj:=YO (FB a.1 b.1)<|FB a.2 b.2
def uR(a:Aj):Aj:=(Ck a.1,a.2)
def NB(a b:Aj):Aj:=Cf a<|uR b
def We(a:Aj):Aj:=YO a.2 a.1
def Kv(a b:Aj):Aj:=Lh a<|We b
def nS(f:Aj):Int:=f.1.1
def nW(f:Aj):List Int:=f.1.2
def dS(f:Aj):Int:=f.2.1
def dW(f:Aj):List Int:=f.2.2
def vP(n d:AG):Int:=nS<|YO n d
def uV(n d:AG):List Int:=nW<|YO n d
def rQ(n d:AG):Int:=dS<|YO n d
def xE(n d:AG):List Int:=dW<|YO n d
def UR(a b:Aj):Int:=nS<|Cf a b
def UD(a b:Aj):List Int:=nW<|Cf a b
def VA(a b:Aj):Int:=dS<|Cf a b
def V4(a b:Aj):List Int:=dW<|Cf a b
def AcH(a b:Aj):Int:=nS<|NB a b
def Adg(a b:Aj):List Int:=nW<|NB a b
def Acn(a b:Aj):Int:=dS<|NB a b
def Adt(a b:Aj):List Int:=dW<|NB a b
def xW(a b:Aj):Int:=nS<|Lh a b
def yV(a b:Aj):List Int:=nW<|Lh a b
def zE(a b:Aj):Int:=dS<|Lh a b
def yQ(a b:Aj):List Int:=dW<|Lh a b
def Aci(a:Aj):Int:=nS<|We a
def AcI(a:Aj):List Int:=nW<|We a
def AdH(a:Aj):Int:=dS<|We a
def AdB(a:Aj):List Int:=dW<|We a
def yK(a b:Aj):Int:=nS<|Kv a b
def yN(a b:Aj):List Int:=nW<|Kv a b
def yG(a b:Aj):Int:=dS<|Kv a b
def zP(a b:Aj):List Int:=dW<|Kv a b
def flS(a:Aj):Int:=ZW a.1 a.2
def flW(a:Aj):List Int:=Ym a.1 a.2
def CP(a:Aj):Bool:=De a&&decide (0<vI a.2)
def Mh(n d:AG):Bool:=Bb n&&Bb d&&decide (vI d≠0)
end Go.Sp
namespace Go.Pe
open Sp
open Go.Det
abbrev AB:Sh:=.pair AY AY
def Nj:An:=⟨[.str],fun s=>EB s,[AB],fun s=>((VQ s,Vx s),(TT s,Sv s)),false⟩
def Uo:An:=⟨[AB,AB],fun i=>Sp.De (i.1:Aj)&&Sp.De (i.2:Aj),[i64],fun i=>FN (i.1:Aj) (i.2:Aj),false⟩
def cIQ:An:=⟨[AY,AY],fun i=>Mh i.1 i.2,[AY],fun i=>(Sp.iQS i.1 i.2,Sp.iQW i.1 i.2),false⟩
def yX:An:=⟨[AY,AY],fun i=>Mh i.1 i.2,[AB],fun i=>((vP i.1 i.2,uV i.1 i.2),(rQ i.1 i.2,xE i.1 i.2)),false⟩
def Ou:An:=⟨[AB],fun _=>true,[.bool],fun a=>C4 (a:Aj).2,false⟩
def jL:An:=⟨[AY],fun _=>true,[AB],fun n=>((n:AG),((1:Int),CT 1)),false⟩
def cF:An:=⟨[i64],fun _=>true,[AB],fun n=>(((n:Int),CT n),((1:Int),CT 1)),false⟩
def fV:An:=⟨[AB],fun a=>yr (a:Aj).1,[AB],fun a=>((Ef (a:Aj).1,Eg (a:Aj).1),((a:Aj).2.1,(a:Aj).2.2)),false⟩
def R4:An:=⟨[AB,AB],fun i=>Sp.CP (i.1:Aj)&&Sp.CP (i.2:Aj),[AB],fun i=>((UR i.1 i.2,UD i.1 i.2),(VA i.1 i.2,V4 i.1 i.2)),false⟩
def pG:An:=⟨[AB,AB],fun i=>Sp.CP (i.1:Aj)&&Sp.CP (i.2:Aj),[AB],fun i=>((AcH i.1 i.2,Adg i.1 i.2),(Acn i.1 i.2,Adt i.1 i.2)),false⟩
def pA:An:=⟨[AB,AB],fun i=>Sp.CP (i.1:Aj)&&Sp.CP (i.2:Aj),[AB],fun i=>((xW i.1 i.2,yV i.1 i.2),(zE i.1 i.2,yQ i.1 i.2)),false⟩
def zH:An:=⟨[AB],fun a=>Sp.CP (a:Aj)&&decide (y8 (a:Aj).1≠0),[AB],fun a=>((Aci a,AcI a),(AdH a,AdB a)),false⟩
def fM:An:=⟨[AB,AB],fun i=>Sp.CP (i.1:Aj)&&Sp.CP (i.2:Aj)&&decide (y8 (i.2:Aj).1≠0),[AB],fun i=>((yK i.1 i.2,yN i.1 i.2),(yG i.1 i.2,zP i.1 i.2)),false⟩
def lY:An:=⟨[AB],fun a=>Sp.CP (a:Aj),[AY],fun a=>(Sp.flS a,Sp.flW a),false⟩
def pO:AT:=YT [(189,[3])] [] [(189,[(3,[2,3,4])])] [(161,KO),(143,RK),(190,Hi),(170,ZZ),(106,dC),(139,OL),(127,RR),(105,nG),(124,pN),(126,Ov)]
def XA1:AT:=YT [(140,[3,6])] [] [(140,[(3,[2,3,4]),(6,[2,3,4,5])])] [(161,KO),(143,RK),(170,ZZ),(189,cIQ)]
def XA2:AT:=YT [(75,[3])] [] [(75,[(3,[2,3,4])])] [(138,Ou),(125,jL),(139,OL),(127,RR),(140,yX)]
def XA3:AT:=X7 [(137,fV),(75,R4),(102,pA),(141,zH)]
end Go.Pe
namespace Go.Sp
def Sa(a:Z):Z:=if Bq a=true then AS a else[49]
def Co(a:Z)(n:Int):Bool:=decide ((a.length:Int)<=2*n+2)&&decide (Am a=0)&&decide (((A2<|AA a).length:Int)<=n)&&decide (((Sa a).length:Int)<=n)
end Go.Sp
namespace Go.Pe
open Go.Det
def ZR:An:=⟨[.str,i64],fun i=>decide (0<=(i.2:Int))&&decide ((i.2:Int)<=1000),[.bool],fun i=>Sp.Co i.1 i.2,false⟩
def Zr:An:=⟨[.str],fun s=>decide (s.length<=1000000),[.str],fun s=>Sp.A2 s,false⟩
def jB:An:=⟨[.str],fun s=>decide (s.length<=1000000),[.str],fun s=>Sp.AA s,false⟩
def ZJ:An:=⟨[.str],fun s=>decide (s.length<=1000000),[.str],fun s=>Sp.Sa s,false⟩
def XM5:AT:=X7 [(128,PE)]
def XM3:AT:=X7 [(62,EH),(144,Zr),(145,jB),(146,ZJ)]
end Go.Pe
namespace Go.Sp
def D4(a:Z):Bool:=decide (a.length<=20)&&decide ((AA<|A2 a).length<=9)&&decide ((AS<|A2 a).length<=9)
def Ja(a:Z):Int:=if preB a=true then -AE 0 (AA<|A2 a)else AE 0<|AA<|A2 a
def SS(a:Z):Int:=if Bq (A2 a)=true then AE 0 (AS<|A2 a)else 1
def Ey(a:Z):Int:=if a=[48]then 0 else if a.getD 0 0=45 then -1 else 1
def Lm(a:Z):Z:=if a=[48]then a else if a.getD 0 0=45 then a.drop 1 else 45::a
def HV:Nat->Nat->Nat->Z->Z
 |0,_,_,a=>a
 |f+1,n,l,a=>if n=0/\l<=a.length then a else HV f (n/10) l (yx (48+n % 10)::a)
def Il(n l:Int):Z:=HV 64 n.toNat l.toNat []
def Ab9(a b:Int):Bool:=decide (0<=a)&&decide (a<9223372036854775808)&&decide (0<=b)&&decide (b<9223372036854775808)
end Go.Sp
namespace Go.Pe
open Go.Det
def zL:An:=⟨[i64,i64],fun i=>Sp.Ab9 i.1 i.2,[i64],fun i=>Sp.gI i.1 i.2,false⟩
def MS:An:=⟨[.str],fun s=>decide (s.length<=1000000),[i64],fun s=>Sp.Ey s,false⟩
def lU:An:=⟨[.str],fun s=>decide (s.length<=1000000),[.str],fun s=>Sp.Lm s,false⟩
def O4:An:=⟨[i64,i64],fun i=>decide (0<=(i.1:Int))&&decide ((i.1:Int)<9223372036854775808)&&decide (0<=(i.2:Int))&&decide ((i.2:Int)<=20),[.str],fun i=>Sp.Il i.1 i.2,false⟩
def NN:AT:=YT [(91,[5,7,11,13])] [] [(91,[(5,[5,6]),(7,[5,6]),(11,[5,6,7,8,9]),(13,[6,8,9])])] [(152,TA),(128,PE)]
def XO2:AT:=X7 [(38,MS)]
end Go.Pe
namespace Go.Sp
open Go.Lib
theorem Gk(a d:Nat)(c:0<a)(b:d<10):decDigits (10*a+d)=decDigits a++[yx<|48+d]:=by
 rw[decDigits,dif_neg ae,show(10*a+d)/10=a from by omega,show(10*a+d) % 10=d from by omega]
theorem oA(a d:Nat)(c:0<a)(b:d<10):nDigits (10*a+d)=nDigits a+1:=by
 rw[nDigits_big ae,show(10*a+d)/10=a from by omega]
def Gn(k b:Nat):Z:=zx (k-nDigits b) 48++decDigits b
theorem Rw(k b d:Nat)(f:1<=k)(a:d<10):Gn (k+1) (10*b+d)=Gn k b++[yx<|48+d]:=by
 unfold Gn;rcases Nat.eq_zero_or_pos b with rfl|c
 ·rw[Nat.mul_zero,Nat.zero_add,nDigits_small a,decDigits_one a,nDigits_small ae,decDigits_one ae];obtain⟨j,rfl⟩:∃j,k=j+1:=⟨k-1,by omega⟩;have e:(48:UInt8)=yx (48+0):=rfl;rw[yg,yg, <-e,yk,yc]
 ·rw[oA b d c a,Gk b d c a, <-yc,Nat.add_sub_add_right]
theorem Tx:∀(k a b:Nat),1<=k->0<a->b<10^k->decDigits (a*10^k+b)=decDigits a++Gn k b
 |0,_,_,h,_,_=>by omega
 |1,a,b,_,d,c=>by
  rw[Nat.pow_one]at*;rw[Nat.mul_comm,Gk a b d c];unfold Gn;rw[nDigits_small c,decDigits_one c];rfl
 |k+2,a,b,_,d,c=>by
  have e:b=10*(b/10)+b % 10:=ae
  have i:b/10<10^(k+1):=by
   rw[Nat.pow_succ 10<|k+1]at c;omega
  have f:a*10^(k+2)+b=10*(a*10^(k+1)+b/10)+b % 10:=by
   rw[Nat.pow_succ 10<|k+1, <-Nat.mul_assoc];omega
  have hp:0<a*10^(k+1):=Nat.mul_pos d (Nat.pow_pos ae);have j:=Tx (k+1) a (b/10) ae d i;have g:=Rw (k+1) (b/10) (b % 10) ae ae;rw[f,Gk _ _ ae ae,j,yc, <-g, <-e]
def Cu:Nat->Nat->List Z
 |0,_=>[]
 |f+1,v=>if v<10^18 then[decDigits v]else Gn 18 (v % 10^18)::Cu f (v/10^18)
theorem IF:∀(f v:Nat),v<f->(Cu f v).reverse.flatten=decDigits v
 |0,_,h=>by omega
 |f+1,v,h=>by
  unfold Cu;split
  ·simp
  ·next c=>
   have hp:1<=v/10^18:=ae
   have b:v/10^18<f:=ae
   have d:=IF f (v/10^18) b;rw[List.reverse_cons,List.flatten_append,d];have a:=Tx 18 (v/10^18) (v % 10^18) ae ae (Nat.mod_lt _ af);rw[show v/10^18*10^18+v % 10^18=v from by omega]at a;rw[a];simp
end Go.Sp
namespace Go.Pe
open Sp
open Go.Det
section
open List Int Prod
namespace T55
def T(s:Z):Tr:=tree pO false 9 55<|Ae ([zh]) s
theorem Ak(s:Z):T s=.ck (Abx s [(47:UInt8)]) (.ite (!Bq s) (.ck (Es<|AA s)<|.ck true<|.leaf (zq [.dat i64<|DA<|AA s,.dat wU<|Dv<|AA s,.dat i64 (1:Int),.dat wU<|CT 1]) [])<|.ck (Es<|AA s)<|.ck (Es<|Sp.AS s)<|.leaf (zq [.dat i64<|DA<|AA s,.dat wU<|Dv<|AA s,.dat i64<|DA<|Sp.AS s,.dat wU<|Dv<|Sp.AS s]) []):=by kernel_rfl
end T55
namespace T189
def T(a b:AG):Tr:=tree pO false 9 189<|Ae ([AY,AY]) (a,b)
def L1(c o1:Int)(b:List Int)(d:Int)(a:List Int):Tr:=re ((T (0,[]) (0,[])).L.L.L.L)<|Av 21 [(2,.ptr 0 0),(3,.ptr 1 0),(4,.ptr 2 0)] [(2,.box [.dat i64 c,.nil]),(1,.box [.dat i64 o1,.dat wU b]),(0,.box [.dat i64 d,.dat wU a])] 3
theorem Ak(a b:AG):T a b=.ck (yr b) (.ite (decide (Ic b<0)) (.ck (yr a)<|.ck (yr b)<|L1 0 (Ef b) (Eg b) (Ef a)<|Eg a)<|L1 0 (fst b) (snd b) (fst a)<|snd a):=by kernel_rfl
theorem Al(d o1:Int)(a:List Int)(c:Int)(b:List Int):stepT pO (L1 d o1 a c b)=.ck (Bb (c,b)&&Bb (o1,a)&&decide (0<y8 (o1,a))) (.leaf (zq [.dat i64<|ZW (c,b) (o1,a),.dat wU<|Ym (c,b) (o1,a)]) []):=by kernel_rfl
end T189
namespace T140
def T(n d:AG):Tr:=tree XA1 false 9 140<|Ae ([AY,AY]) (n,d)
def L1(d a o1:Int)(c:List Int)(e:Int)(b:List Int):Tr:=re ((T (0,[]) (0,[])).L.L.L.L)<|Av 34 [(2,.ptr 0 0),(3,.ptr 1 0),(4,.ptr 2 0)] [(2,.box [.dat i64 d,.nil,.dat i64 a,.nil]),(1,.box [.dat i64 o1,.dat wU c]),(0,.box [.dat i64 e,.dat wU b])] 3
theorem Ak(n d:AG):T n d=.ck (yr d) (.ite (decide (Ic d<0)) (.ck (yr n)<|.ck (yr d)<|L1 0 0 (Ef d) (Eg d) (Ef n)<|Eg n)<|L1 0 0 (fst d) (snd d) (fst n)<|snd n):=by kernel_rfl
def L2(g:Int)(a:List Int)(e d o1:Int)(b:List Int)(f:Int)(c:List Int):Tr:=re ((stepT XA1<|L1 0 0 0 [] 0 []).L.R.L)<|Av 34 [(2,.ptr 0 0),(3,.ptr 1 0),(4,.ptr 2 0),(5,.ptr 3 0)] [(3,.box [.dat i64 g,.dat wU a]),(2,.box [.dat i64 e,.nil,.dat i64 d,.nil]),(1,.box [.dat i64 o1,.dat wU b]),(0,.box [.dat i64 f,.dat wU c])] 4
theorem Al(e c o1:Int)(a:List Int)(d:Int)(b:List Int):stepT XA1 (L1 e c o1 a d b)=let f:Tr:=.ck (Bb (d,b)&&Bb (o1,a))<|L2 (Nx (d,b) (o1,a)) (Nd (d,b) (o1,a)) e c o1 a d b;.ite (!decide (0<length a)) (.ite (o1==1) (.leaf (zq [.dat i64 d,.dat wU b,.dat i64 o1,.dat wU a]) []) f) f:=by kernel_rfl
theorem AJ(d:Int)(a:List Int)(g e o1:Int)(b:List Int)(f:Int)(c:List Int):stepT XA1 (L2 d a g e o1 b f c)=.ck (Mh (f,c) (d,a)) (.ck (Mh (o1,b) (d,a))<|.leaf (zq [.dat i64<|Sp.iQS (f,c) (d,a),.dat wU<|Sp.iQW (f,c) (d,a),.dat i64<|Sp.iQS (o1,b) (d,a),.dat wU<|Sp.iQW (o1,b) (d,a)]) []):=by kernel_rfl
end T140
namespace T138
def T(a:Aj):Tr:=tree pO false 9 138<|Ae ([AB]) a
theorem Ak(a:Aj):T a=.ite (!decide (0<length (snd<|snd a))) (.leaf (.dat zl<|fst (snd a)==1) []) (.leaf (.bl false) []):=by kernel_rfl
end T138
namespace T125
def T(n:AG):Tr:=tree pO false 9 125<|Ae ([AY]) n
theorem Ak(n:AG):T n=.ck true (.leaf (zq [.dat i64<|fst n,.dat wU<|snd n,.dat i64 (1:Int),.dat wU<|CT 1]) []):=by kernel_rfl
end T125
namespace T137
def T(a:Aj):Tr:=tree pO false 9 137<|Ae ([AB]) a
theorem Ak(a:Aj):T a=.ck (yr<|fst a) (.leaf (zq [.dat i64<|Ef<|fst a,.dat wU<|Eg<|fst a,.dat i64<|fst<|snd a,.dat wU<|snd<|snd a]) []):=by kernel_rfl
end T137
namespace T75
def T(a b:Aj):Tr:=tree XA2 false 9 75<|Ae ([AB,AB]) (a,b)
def L1(h d o1:Int)(g:List Int)(e:Int)(a:List Int)(i:Int)(b:List Int)(c:Int)(f:List Int):Tr:=re ((T ((0,[]),(0,[])) ((0,[]),(0,[]))).L.L.L.R)<|Av 34 [(2,.ptr 0 0),(3,.ptr 1 0),(4,.ptr 2 0)] [(2,.box [.dat i64 h,.nil,.dat i64 d,.nil]),(1,.box [.dat i64 o1,.dat wU g,.dat i64 e,.dat wU a]),(0,.box [.dat i64 i,.dat wU b,.dat i64 c,.dat wU f])] 3
theorem Ak(a b:Aj):T a b=let c:=L1 0 0 (fst<|fst b) (snd<|fst b) (fst<|snd b) (snd<|snd b) (fst<|fst a) (snd<|fst a) (fst<|snd a)<|snd<|snd a;.ck true (.ite (C4<|snd a) (.ck true<|.ite (C4<|snd b) (.ck (Bb (fst a)&&Bb (fst b))<|.ck true<|.leaf (zq [.dat i64<|J7 (fst a)<|fst b,.dat wU<|JZ (fst a)<|fst b,.dat i64 (1:Int),.dat wU<|CT 1]) []) c) c):=by kernel_rfl
theorem Al(l g o1:Int)(f:List Int)(c:Int)(a:List Int)(i:Int)(e:List Int)(b:Int)(d:List Int):stepT XA2 (L1 l g o1 f c a i e b d)=let b':=(Fx (b,d) (c,a),Fv (b,d) (c,a));let j:=(Fx (i,e) (c,a),Fv (i,e) (c,a));let k:=(Fx (o1,f) (b,d),Fv (o1,f) (b,d));let h:=(J7 j k,JZ j k);.ck (Bb (i,e)&&Bb (c,a)) (.ck (Bb (o1,f)&&Bb (b,d))<|.ck (Bb j&&Bb k)<|.ck (Bb (b,d)&&Bb (c,a))<|.ck (Mh h b')<|.leaf (zq [.dat i64<|vP h b',.dat wU<|uV h b',.dat i64<|rQ h b',.dat wU<|xE h b']) []):=by kernel_rfl
end T75
namespace T102
def T(a b:Aj):Tr:=tree XA2 false 9 102<|Ae ([AB,AB]) (a,b)
theorem Ak(a b:Aj):T a b=let c:=(Fx (fst a)<|fst b,Fv (fst a)<|fst b);let b':=(Fx (snd a)<|snd b,Fv (snd a)<|snd b);.ck (Bb (fst a)&&Bb (fst b)) (.ck (Bb (snd a)&&Bb (snd b))<|.ck (Mh c b')<|.leaf (zq [.dat i64<|vP c b',.dat wU<|uV c b',.dat i64<|rQ c b',.dat wU<|xE c b']) []):=by kernel_rfl
end T102
namespace T141
def T(a:Aj):Tr:=tree XA2 false 9 141<|Ae ([AB]) a
theorem Ak(a:Aj):T a=.ck (Mh (snd a)<|fst a) (.leaf (zq [.dat i64<|vP (snd a)<|fst a,.dat wU<|uV (snd a)<|fst a,.dat i64<|rQ (snd a)<|fst a,.dat wU<|xE (snd a)<|fst a]) []):=by kernel_rfl
end T141
namespace T74
def T(a b:Aj):Tr:=tree XA3 false 9 74<|Ae ([AB,AB]) (a,b)
theorem Ak(a b:Aj):T a b=let c:=((Ef<|fst b,Eg<|fst b),fst<|snd b,snd<|snd b);let b':=((fst a),fst<|snd a,snd<|snd a);.ck (yr<|fst b) (.ck (Sp.CP b'&&Sp.CP c)<|.leaf (zq [.dat i64<|UR b' c,.dat wU<|UD b' c,.dat i64<|VA b' c,.dat wU<|V4 b' c]) []):=by kernel_rfl
end T74
namespace T76
def T(a b:Aj):Tr:=tree XA3 false 9 76<|Ae ([AB,AB]) (a,b)
theorem Ak(a b:Aj):T a b=let b':=((fst a),fst<|snd a,snd<|snd a);let d:=((fst b),fst<|snd b,snd<|snd b);let c:=We d;.ck (Sp.CP d&&decide (y8 (fst b)≠0)) (.ck (Sp.CP b'&&Sp.CP c)<|.leaf (zq [.dat i64<|xW b' c,.dat wU<|yV b' c,.dat i64<|zE b' c,.dat wU<|yQ b' c]) []):=by kernel_rfl
end T76
namespace T56
def T(a b:Aj):Tr:=tree pO false 9 56<|Ae ([AB,AB]) (a,b)
theorem Ak(a b:Aj):T a b=let c:=(Fx (fst a)<|snd b,Fv (fst a)<|snd b);let b':=(Fx (fst b)<|snd a,Fv (fst b)<|snd a);.ck (Bb (fst a)&&Bb (snd b)) (.ck (Bb (fst b)&&Bb (snd a))<|.ck (Bb c&&Bb b')<|.leaf (.dat i64<|dE c b') []):=by kernel_rfl
end T56
namespace T142
def T(a:Aj):Tr:=tree pO false 9 142<|Ae ([AB]) a
theorem Ak(a:Aj):T a=.ck (Bb (fst a)&&Bb (snd a)&&decide (0<y8 (snd a))) (.leaf (zq [.dat i64<|ZW (fst a)<|snd a,.dat wU<|Ym (fst a)<|snd a]) []):=by kernel_rfl
end T142
namespace T128
def T(s:Z):Tr:=tree NQ false 9 128<|Ae ([zh]) s
def L1(v0:Z)(v3:Int):Tr:=re ((T []))<|Av 17 [(0,.dat zh v0),(3,.dat i64 v3)] [] 0
theorem Ak(s:Z):T s=L1 s 0:=by kernel_rfl
theorem Al(v0:Z)(v3:Int):stepT NQ (L1 v0 v3)=let a:=(length v0:Int);.di (v3<a) (.ck (decide (0<=v3)&&decide (v3<a))<|.ite ((↑(zi<|getD v0 (toNat v3) (0:UInt8)):Int)==47) (.leaf (.dat i64 v3) [])<|L1 v0<|zc .i64<|v3+1) (.leaf (.dat i64 a) []):=by kernel_rfl
end T128
namespace T129
def T(s:Z):Tr:=tree NQ false 9 129<|Ae ([zh]) s
def L1(s v0:Z)(v3:Int):Tr:=re ((T s).R.L.L.R)<|Av 20 [(0,.dat zh v0),(3,.dat i64 v3)] [] 0
def L2(s v0:Z)(v3:Int):Tr:=re ((T s).R.R)<|Av 20 [(0,.dat zh v0),(3,.dat i64 v3)] [] 0
theorem Ak(s:Z):T s=let a:=(length s:Int);.ite (a==0) (.leaf (.bl false) []) (.di (a>1) (.cd (0<a)<|.ite ((↑(zi<|getD s 0 (0:UInt8)):Int)==48) (.leaf (.bl false) [])<|L1 s s 0)<|L2 s s 0):=by kernel_rfl
theorem Al(s v0:Z)(v3:Int):stepT NQ (L1 s v0 v3)=let a:=decide (v3<(length v0:Int));let b':=(↑(zi<|getD v0 (toNat v3) (0:UInt8)):Int);.ite a (.ck (decide (0<=v3)&&a)<|.di (b'<48) (.leaf (.bl false) [])<|.ck (decide (0<=v3)&&a)<|.di (b'>57) (.leaf (.bl false) [])<|L1 s v0<|zc .i64<|v3+1) (.leaf (.bl true) []):=by kernel_rfl
theorem AJ(s v0:Z)(v3:Int):stepT NQ (L2 s v0 v3)=let a:=decide (v3<(length v0:Int));let b':=(↑(zi<|getD v0 (toNat v3) (0:UInt8)):Int);.ite a (.ck (decide (0<=v3)&&a)<|.di (b'<48) (.leaf (.bl false) [])<|.ck (decide (0<=v3)&&a)<|.di (b'>57) (.leaf (.bl false) [])<|L2 s v0<|zc .i64<|v3+1) (.leaf (.bl true) []):=by kernel_rfl
end T129
namespace T97
def T(n:Int):Tr:=tree zB false 9 97<|Ae ([zm ym]) n
def L1(v0:Int)(v4:Bool):Tr:=re ((T 0))<|Av 25 [(0,.dat i64 v0),(2,.ptr 0 0),(3,.nil),(4,.dat zl v4)] [(0,.box [.bl false,.nil])] 1
theorem Ak(n:Int):T n=L1 n (decide (n<0)):=by kernel_rfl
def L2(v0:Int)(a:Nat)(v4:Bool)(o1:List Int):Tr:=re ((stepT zB<|L1 0 false).L.L.L.L.L)<|Av 25 [(0,.dat i64 v0),(2,.ptr 0 0),(3,.sl 1 1 0 a none),(4,.dat zl v4)] [(1,.arr false 3 i64 o1),(0,.box [.bl false,.nil])] 2
theorem Al(v0:Int)(v4:Bool):stepT zB (L1 v0 v4)=let a:=aa 8;let b':=zc .i64<|yn v0 1000000000;.ite (v0 !=0) (.ck true<|.di (ya v0 1000000000<0) (.ck a<|.ck true<|L2 b' 1 v4<|[zc .i64<|0-ya v0 1000000000])<|.ck a<|.ck true<|L2 b' 1 v4<|[ya v0 1000000000]) (.cd (0<=20000)<|.leaf (zq [.dat zl<|Sp.C1 v4 [],.dat (ze i64)<|Sp.Ax []]) []):=by kernel_rfl
theorem AJ(v0:Int)(a:Nat)(v4:Bool)(o1:List Int):stepT zB (L2 v0 a v4 o1)=let b:=ac a (length o1) 8;let b':=zc .i64<|yn v0 1000000000;.ite (v0 !=0) (.ck true<|.di (ya v0 1000000000<0) (.ck b<|.ck true<|L2 b' (zo a 1) v4<|o1++[zc .i64<|0-ya v0 1000000000])<|.ck b<|.ck true<|L2 b' (zo a 1) v4<|o1++[ya v0 1000000000]) (.ck (decide (0+a<=length o1)&&true&&decide (length (take a o1)<=20000))<|.leaf (zq [.dat zl<|Sp.C1 v4<|take a o1,.dat (ze i64)<|Sp.Ax<|take a o1]) []):=by kernel_rfl
end T97
namespace T92
def T(a:Z):Tr:=tree XK3 false 9 92<|Ae ([zh]) a
theorem Ak(a:Z):T a=let b':=zc .i64<|A3 a+1;let b:=take (toNat<|A3 a) a;let c:=take (zy (length a)<|toNat b')<|drop (toNat b') a;.cd (length a<=1000000) (.ite (A3 a==(length a:Int)) (.ck (Es a)<|.ck true<|.leaf (.tup [zq [.dat zl<|HB a,.dat (ze i64)<|Hx a],zq [.dat zl false,.dat (ze i64)<|Sp.rW 1]]) [])<|.ck (decide (0<=A3 a)&&decide (0<=toNat (A3 a))&&decide (toNat (A3 a)<=length a))<|.ck (decide (0<=zc .i64 (A3 a+1))&&true&&decide (toNat b'<=length a)&&decide (length a<=length a))<|.ck (Es b)<|.ck (Es c)<|.leaf (.tup [zq [.dat zl<|HB b,.dat (ze i64)<|Hx b],zq [.dat zl<|HB c,.dat (ze i64)<|Hx c]]) []):=by kernel_rfl
end T92
namespace T62
def T(a:Z):Tr:=tree Uj false 9 62<|Ae ([zh]) a
def L1(v0 v3:Z):Tr:=re ((T []).L.L.L.L)<|Av 96 [(0,.dat zh v0),(3,.dat zh v3)] [] 0
theorem Ak(a:Z):T a=.di ((length a:Int)>0) (.cd (0<(length a:Int))<|.ite ((↑(zi<|getD a 0 (0:UInt8)):Int)==45) (.ck (decide (1<=length a)&&decide (length a<=length a))<|L1 a<|take (zy (length a) 1)<|drop 1 a)<|L1 a a) (L1 a a):=by kernel_rfl
def L2(v3:Z)(v4:Int):Tr:=re ((stepT Uj<|L1 [] []).L.L.L.R.L.L.L.R)<|Av 96 [(3,.dat zh v3),(4,.dat i64 v4)] [] 0
theorem Al(v0 v3:Z):stepT Uj (L1 v0 v3)=let b':=A3 v3;let a:Tr:=.leaf (.dat i64 (1:Int)) [];let b:=decide (0<=A3 v3)&&decide (0<=toNat b')&&decide (toNat b'<=length v3);.cd (length v3<=9223372036854775807) (.ck b<|.cd (length (take (toNat b') v3)<=9223372036854775807)<|.ite (!AV (take (toNat b') v3)) a<|.cd (0<(length v0:Int))<|.ite ((↑(zi<|getD v0 0 (0:UInt8)):Int)==45) (.ck b<|.ite (take (toNat b') v3==[(48:UInt8)]) a<|L2 v3 b')<|L2 v3 b'):=by kernel_rfl
def L3(v3:Z)(v4:Int):Tr:=re ((stepT Uj<|L2 [] 0).L.L.L.R.L.R.L.R)<|Av 96 [(3,.dat zh v3),(4,.dat i64 v4)] [] 0
theorem AJ(v3:Z)(v4:Int):stepT Uj (L2 v3 v4)=let b:Tr:=.leaf (.dat i64 (1:Int)) [];let d:=zc .i64<|v4+1;let c:=decide (0<=zc .i64 (v4+1))&&true&&decide (toNat d<=length v3)&&decide (length v3<=length v3);let b':=toNat d;let a:=zy (length v3) b';.di (v4<(length v3:Int)) (.ck c<|.cd (length (take a<|drop b' v3)<=9223372036854775807)<|.ite (!AV (take a<|drop b' v3)) b<|.ck c<|.ite (take a (drop b' v3)==[(48:UInt8)]) b<|.ck c<|.ite (take a (drop b' v3)==[(49:UInt8)]) b<|L3 v3 v4) (L3 v3 v4):=by kernel_rfl
def L4(v3:Z)(v4:Int):Tr:=re ((stepT Uj<|L3 [] 0).R.R)<|Av 96 [(3,.dat zh v3),(4,.dat i64 v4)] [] 0
theorem Ca(v3:Z)(v4:Int):stepT Uj (L3 v3 v4)=let a:Tr:=.leaf (.dat i64 (4:Int)) [];.di (v4>600) a (.di (zc .i64 (zc .i64 ((length v3:Int)-v4)-1)>600) a<|L4 v3 v4):=by kernel_rfl
def L5(o1:Bool)(b:List Int)(c:Bool)(a:List Int):Tr:=re ((stepT Uj<|L4 [] 0).L.L)<|Av 96 [(5,.ptr 0 0),(6,.ptr 1 0)] [(1,.box [.dat zl o1,.dat (ze i64) b]),(0,.box [.dat zl c,.dat (ze i64) a])] 2
theorem CD(v3:Z)(v4:Int):stepT Uj (L4 v3 v4)=.di (v4<(length v3:Int)) (.ck (EB v3)<|L5 (BD v3) (Bt v3) (BZ v3)<|BO v3) (.leaf (.dat i64 (0:Int)) []):=by kernel_rfl
def L6(a:List Int):Tr:=re ((stepT Uj<|L5 false [] false []).L)<|Av 96 [(7,.dat (ze i64) a)] [] 0
theorem Eu(o1:Bool)(b:List Int)(c:Bool)(a:List Int):stepT Uj (L5 o1 b c a)=.ck (Ba a&&Ba b&&decide (length a<=9000)&&decide (length b<=9000)) (L6<|Cy a b):=by kernel_rfl
theorem EP(a:List Int):stepT Uj (L6 a)=let b:Tr:=.leaf (.dat i64 (1:Int)) [];.ite ((length a:Int) !=1) b (.cd (0<(length a:Int))<|.ite (getD a 0 0 !=1) b<|.leaf (.dat i64 (0:Int)) []):=by kernel_rfl
end T62
namespace T168
def T(l:List Int):Tr:=tree NQ false 9 168<|Ae ([ze i64]) l
def L1(v5:List Int)(b a:Int):Tr:=re ((T []))<|Av 15 [(5,.dat (ze i64) v5),(6,.dat i64 b),(7,.dat i64 a)] [] 0
theorem Ak(l:List Int):T l=L1 l ((length l:Int)) 0:=by kernel_rfl
theorem Al(v5:List Int)(b a:Int):stepT NQ (L1 v5 b a)=.di (a<b) (.ck (decide (0<=a)&&decide (a<(length v5:Int)))<|.ite (getD v5 (toNat a) 0 !=0) (.leaf (.dat i64<|getD v5 (toNat a) 0) [])<|L1 v5 b<|zc .i64<|a+1) (.leaf (.dat i64 (0:Int)) []):=by kernel_rfl
end T168
namespace T169
def T(b:Bool)(e:Int):Tr:=tree NQ false 9 169<|Ae ([zl,zm ym]) (b,e)
theorem Ak(b:Bool)(e:Int):T b e=.ite b (.leaf (.dat i64 e) []) (.leaf (.dat i64 (0:Int)) []):=by kernel_rfl
end T169
namespace T122
def T(a:Z):Tr:=tree MJ false 9 122<|Ae ([zh]) a
def L1(v5 b:Z)(a:Bool):Tr:=re ((T []).L.L.L.L.L)<|Av 76 [(5,.dat zh v5),(6,.dat zh b),(7,.dat zl a),(8,.bl true)] [] 0
def L2(v5 c:Z)(b a:Bool):Tr:=re ((T []).L.L.L.L.R)<|Av 76 [(5,.dat zh v5),(6,.dat zh c),(7,.dat zl b),(8,.dat zl a)] [] 0
def L3(v5 b:Z)(a:Bool):Tr:=re ((T []).L.L.L.R)<|Av 76 [(5,.dat zh v5),(6,.dat zh b),(7,.dat zl a),(8,.bl false)] [] 0
theorem Ak(a:Z):T a=let b:=AA<|A2 a;let b':=Sp.AS<|A2 a;let c:=Bq<|A2 a;.ck (R6 a [(45:UInt8)]) (.ck (Abx (A2 a) [(47:UInt8)])<|.cd (length b<=1000000)<|.ite (AV b) (.ite (!Sp.preB a) (L1 b b' c)<|L2 b b' c<|!AA (A2 a)==[(48:UInt8)])<|L3 b b' c):=by kernel_rfl
def L4(v5 c:Z)(b a:Bool):Tr:=re ((stepT MJ<|L1 [] [] false).L.L.L.L)<|Av 76 [(5,.dat zh v5),(6,.dat zh c),(7,.dat zl b),(8,.dat zl a)] [] 0
def L5(v5 b:Z)(a:Bool):Tr:=re ((stepT MJ<|L1 [] [] false).L.L.L.R)<|Av 76 [(5,.dat zh v5),(6,.dat zh b),(7,.dat zl a),(8,.bl false)] [] 0
def L6(v5 b:Z)(a:Bool):Tr:=re ((stepT MJ<|L1 [] [] false).R)<|Av 76 [(5,.dat zh v5),(6,.dat zh b),(7,.dat zl a),(8,.bl true)] [] 0
theorem Al(v5 a:Z)(b:Bool):stepT MJ (L1 v5 a b)=.ite b (.cd (length a<=1000000)<|.ite (AV a) (.ite (!a==[(48:UInt8)]) (L4 v5 a b<|!a==[(49:UInt8)])<|L5 v5 a b)<|L5 v5 a b) (L6 v5 a b):=by kernel_rfl
theorem AJ(v5 a:Z)(b c:Bool):stepT MJ (L2 v5 a b c)=.ite b (.ite c (.cd (length a<=1000000)<|.ite (AV a) (.ite (!a==[(48:UInt8)]) (L4 v5 a b<|!a==[(49:UInt8)])<|L5 v5 a b)<|L5 v5 a b)<|L5 v5 a b) (L4 v5 a b c):=by kernel_rfl
theorem Ca(v5 b:Z)(a:Bool):stepT MJ (L3 v5 b a)=.ite a (L5 v5 b a) (L5 v5 b a):=by kernel_rfl
def L7(v5 b:Z)(a:Bool)(v9:Int):Tr:=re ((stepT MJ<|L4 [] [] false false).L.L.L.L)<|Av 76 [(5,.dat zh v5),(6,.dat zh b),(7,.dat zl a),(9,.dat i64 v9)] [] 0
theorem CD(v5 a:Z)(b c:Bool):stepT MJ (L4 v5 a b c)=let d:=decide (2<=2)&&true&&decide (2<=1000000);.ck true (.di ((length v5:Int)>600) (.ck true<|.ck d<|L7 v5 a b<|yy [Cs (!c) 1,Cs true 4])<|.ck true<|.ck d<|L7 v5 a b<|yy [Cs (!c) 1,Cs (decide ((length a:Int)>600)) 4]):=by kernel_rfl
theorem Eu(v5 a:Z)(b:Bool):stepT MJ (L5 v5 a b)=.ck true (.di ((length v5:Int)>600) (.ck true<|.ck true<|L7 v5 a b<|yy [Cs true 1,Cs true 4])<|.ck true<|.ck (decide (2<=2)&&true&&decide (2<=1000000))<|L7 v5 a b<|yy [Cs true 1,Cs (decide ((length a:Int)>600)) 4]):=by kernel_rfl
theorem EP(v5 a:Z)(b:Bool):stepT MJ (L6 v5 a b)=.ck true (.di ((length v5:Int)>600) (.ck true<|.ck true<|L7 v5 a b<|yy [Cs false 1,Cs true 4])<|.ck true<|.ck (decide (2<=2)&&true&&decide (2<=1000000))<|L7 v5 a b<|yy [Cs false 1,Cs (decide ((length a:Int)>600)) 4]):=by kernel_rfl
def L8(v5 b:Z)(a:Bool):Tr:=re ((stepT MJ<|L7 [] [] false 0).R)<|Av 76 [(5,.dat zh v5),(6,.dat zh b),(7,.dat zl a)] [] 0
theorem DT(v5 b:Z)(a:Bool)(v9:Int):stepT MJ (L7 v5 b a v9)=.ite (v9 !=0) (.leaf (.dat i64 v9) []) (L8 v5 b a):=by kernel_rfl
def L9(a:Bool):Tr:=re ((stepT MJ<|L8 [] [] false).L.L.L.L.L.L)<|Av 76 [(10,.dat zl a)] [] 0
def zN:Tr:=re ((stepT MJ<|L8 [] [] false).R)<|Av 76 [(10,.bl false)] [] 0
theorem Hu(v5 a:Z)(b:Bool):stepT MJ (L8 v5 a b)=let c:=(Nx (DA v5,Dv v5) (DA a,Dv a),Nd (DA v5,Dv v5) (DA a,Dv a));.ite b (.ck (Es v5)<|.ck (Es a)<|.ck (Bb (DA v5,Dv v5)&&Bb (DA a,Dv a))<|.ck true<|.ck (Bb c&&Bb (1,CT 1))<|L9<|dE c (1,CT 1) !=0) zN:=by kernel_rfl
theorem lH(a:Bool):stepT MJ (L9 a)=.ck true (.leaf (.dat i64<|Cs a 1) []):=by kernel_rfl
theorem TV:stepT MJ zN=.ck true (.leaf (.dat i64<|Cs false 1) []):=by kernel_rfl
end T122
namespace T126
def T(s:Z):Tr:=tree Q5 false 9 126<|Ae ([zh]) s
def L1(v0:Z)(v3:Bool)(o1 a:Int):Tr:=re ((T []).L.L.L.L.L.L)<|Av 41 [(0,.dat zh v0),(2,.ptr 0 0),(3,.dat zl v3),(4,.ptr 1 0)] [(1,.box [.dat i64 o1,.nil]),(0,.box [.dat i64 a,.nil])] 2
def L2(v0:Z)(o1 a:Int):Tr:=re ((T []).R.L.L.L.L)<|Av 41 [(0,.dat zh v0),(2,.ptr 0 0),(3,.bl false),(4,.ptr 1 0)] [(1,.box [.dat i64 o1,.nil]),(0,.box [.dat i64 a,.nil])] 2
theorem Ak(s:Z):T s=let a:=take 1 s==[(45:UInt8)];let b':=decide ((length s:Int)>=1);let c:=decide (1<=length s)&&decide (length s<=length s);let b:=decide (1<=length s);let d:=take (zy (length s) 1)<|drop 1 s;.ite b' (.ck b<|.ite b' (.ck b<|.ite a (.ck c<|L1 d a 0 0)<|L1 s a 0 0)<|L1 s a 0 0) (.ite b' (.ck b<|.ite a (.ck c<|L2 d 0 0)<|L2 s 0 0)<|L2 s 0 0):=by kernel_rfl
def L3(v0:Z)(v3:Bool)(o1 g:Int)(v5:Z)(h:Int)(a:Nat)(c e:Int)(f:List Int)(d:Int)(b:Int):Tr:=re ((stepT Q5<|L1 v0 v3 o1 g).L.L.L.L.L.L.L.R)<|Av 77 [(5,.dat zh v5),(6,.dat i64 h),(47,.sl 2 1 0 a none),(48,.dat i64 c),(49,.dat i64 e)] [(2,.arr false 5 (zm yh) f),(1,.box [.dat i64 d,.nil]),(0,.box [.dat i64 b,.nil])] 3
theorem Al(v0:Z)(v3:Bool)(o1 c:Int):stepT Q5 (L1 v0 v3 o1 c)=let d:=(length v0:Int);let a:=take (toNat<|EZ 18 d) v0;let b':=take (zy (length a) 1)<|drop 1 a;let f:=(↑(length a):Int);let h:=decide (1<=length a)&&decide (length a<=length a);let g:=(↑(zi<|getD a 0 (0:UInt8)):Int);let e:=decide (0<f);.di (d>0) (.ck (decide (0<=EZ 18 d)&&decide (0<=toNat (EZ 18 d))&&decide (toNat (EZ 18 d)<=length v0))<|.ite e (.di (f<19) (.ck e<|.ite (g==45) (.ck h<|.di ((↑(length b'):Int)<1) .fail<|L3 v0 v3 o1 c a 0 (length b') ((↑(length b'):Int)) 0 (yo (fun b=>(↑(zi b):Int)) b') o1 c)<|.ck e<|.ite (g==43) (.ck h<|.di ((↑(length b'):Int)<1) .fail<|L3 v0 v3 o1 c a 0 (length b') ((↑(length b'):Int)) 0 (yo (fun b=>(↑(zi b):Int)) b') o1 c)<|L3 v0 v3 o1 c a 0 (length a) f 0 (yo (fun b=>(↑(zi b):Int)) a) o1 c)<|.ck false .fail)<|.ck false .fail) (.ite v3 (.ck (yr (o1,[]))<|.leaf (zq [.dat i64<|Ef (o1,[]),.dat wU<|Eg (o1,[])]) [])<|.leaf (zq [.dat i64 o1,.nil]) []):=by kernel_rfl
def L4(v0:Z)(o1 g:Int)(v5:Z)(h:Int)(a:Nat)(c e:Int)(f:List Int)(d:Int)(b:Int):Tr:=re ((stepT Q5<|L2 v0 o1 g).L.L.L.L.L.L.L.R)<|Av 77 [(5,.dat zh v5),(6,.dat i64 h),(47,.sl 2 1 0 a none),(48,.dat i64 c),(49,.dat i64 e)] [(2,.arr false 5 (zm yh) f),(1,.box [.dat i64 d,.nil]),(0,.box [.dat i64 b,.nil])] 3
theorem AJ(v0:Z)(o1 c:Int):stepT Q5 (L2 v0 o1 c)=let d:=(length v0:Int);let a:=take (toNat<|EZ 18 d) v0;let b':=take (zy (length a) 1)<|drop 1 a;let f:=(↑(length a):Int);let h:=decide (1<=length a)&&decide (length a<=length a);let g:=(↑(zi<|getD a 0 (0:UInt8)):Int);let e:=decide (0<f);.di (d>0) (.ck (decide (0<=EZ 18 d)&&decide (0<=toNat (EZ 18 d))&&decide (toNat (EZ 18 d)<=length v0))<|.ite e (.di (f<19) (.ck e<|.ite (g==45) (.ck h<|.di ((↑(length b'):Int)<1) .fail<|L4 v0 o1 c a 0 (length b') ((↑(length b'):Int)) 0 (yo (fun b=>(↑(zi b):Int)) b') o1 c)<|.ck e<|.ite (g==43) (.ck h<|.di ((↑(length b'):Int)<1) .fail<|L4 v0 o1 c a 0 (length b') ((↑(length b'):Int)) 0 (yo (fun b=>(↑(zi b):Int)) b') o1 c)<|L4 v0 o1 c a 0 (length a) f 0 (yo (fun b=>(↑(zi b):Int)) a) o1 c)<|.ck false .fail)<|.ck false .fail) (.leaf (zq [.dat i64 o1,.nil]) []):=by kernel_rfl
def L5(v0:Z)(v3:Bool)(o1:Int)(a:List Int)(b:Int):Tr:=re ((stepT Q5<|L3 [] false 0 0 [] 0 0 0 0 [] 0 0).R.L.L.L.L.L.L.L.L)<|Av 41 [(0,.dat zh v0),(2,.ptr 0 0),(3,.dat zl v3),(4,.ptr 1 0)] [(1,.box [.dat i64 o1,.dat wU a]),(0,.box [.dat i64 b,.nil])] 2
theorem Ca(v0:Z)(v3:Bool)(o1 l:Int)(v5:Z)(d:Int)(c:Nat)(f a:Int)(h:List Int)(b:Int)(e:Int):stepT Q5 (L3 v0 v3 o1 l v5 d c f a h b e)=let b':=EZ 18 (length v0:Int);let j:=(zc .i64<|0-d,CT<|zc .i64<|0-d);let n:=getD h (toNat a) 0-48;let i:=(VE (10,CT 10) b',Wf (10,CT 10) b');let m:=decide (0<=EZ 18 (length v0:Int))&&true&&decide (toNat b'<=length v0)&&decide (length v0<=length v0);let k:=take (zy (length v0)<|toNat b')<|drop (toNat b') v0;let o:=Bb (10,CT 10)&&iI (y8 (10,CT 10)) b';let g:=(Fx (b,[]) i,Fv (b,[]) i);let h':=Bb (b,[])&&Bb i;.di (a<f) (.ck (decide (0<=a)&&decide (a<(↑c:Int)))<|.cd (toNat a<length h)<|.di (zc .u8 n>9) .fail<|L3 v0 v3 o1 l v5 (zc .i64<|zc .i64 (d*10)+zc .i64 (zc .u8 n)) c f (zc .i64<|a+1) h b e) (.cd (0<(length v5:Int))<|.ite ((↑(zi<|getD v5 0 (0:UInt8)):Int)==45) (.ck true<|.ck o<|.ck h'<|.ck true<|.ck (Bb g&&Bb j)<|.ck m<|L5 k v3 (J7 g j) (JZ g j) e)<|.ck true<|.ck o<|.ck h'<|.ck true<|.ck (Bb g&&Bb (d,CT d))<|.ck m<|L5 k v3 (J7 g (d,CT d)) (JZ g (d,CT d)) e):=by kernel_rfl
def L7(v0:Z)(v3:Bool)(o1:Int)(c:List Int)(i:Int)(v5:Z)(j:Int)(b:Nat)(e g:Int)(h:List Int)(f:Int)(a:List Int)(d:Int):Tr:=re ((stepT Q5<|L5 v0 v3 o1 c i).L.L.L.L.L.L.L.R)<|Av 77 [(5,.dat zh v5),(6,.dat i64 j),(47,.sl 2 1 0 b none),(48,.dat i64 e),(49,.dat i64 g)] [(2,.arr false 5 (zm yh) h),(1,.box [.dat i64 f,.dat wU a]),(0,.box [.dat i64 d,.nil])] 3
theorem Eu(v0:Z)(v3:Bool)(o1:Int)(a:List Int)(d:Int):stepT Q5 (L5 v0 v3 o1 a d)=let e:=(length v0:Int);let c:=take (toNat<|EZ 18 e) v0;let b':=take (zy (length c) 1)<|drop 1 c;let g:=(↑(length c):Int);let i:=decide (1<=length c)&&decide (length c<=length c);let h:=(↑(zi<|getD c 0 (0:UInt8)):Int);let f:=decide (0<g);.di (e>0) (.ck (decide (0<=EZ 18 e)&&decide (0<=toNat (EZ 18 e))&&decide (toNat (EZ 18 e)<=length v0))<|.ite f (.di (g<19) (.ck f<|.ite (h==45) (.ck i<|.di ((↑(length b'):Int)<1) .fail<|L7 v0 v3 o1 a d c 0 (length b') ((↑(length b'):Int)) 0 (yo (fun b=>(↑(zi b):Int)) b') o1 a d)<|.ck f<|.ite (h==43) (.ck i<|.di ((↑(length b'):Int)<1) .fail<|L7 v0 v3 o1 a d c 0 (length b') ((↑(length b'):Int)) 0 (yo (fun b=>(↑(zi b):Int)) b') o1 a d)<|L7 v0 v3 o1 a d c 0 (length c) g 0 (yo (fun b=>(↑(zi b):Int)) c) o1 a d)<|.ck false .fail)<|.ck false .fail) (.ite v3 (.ck (yr (o1,a))<|.leaf (zq [.dat i64<|Ef (o1,a),.dat wU<|Eg (o1,a)]) [])<|.leaf (zq [.dat i64 o1,.dat wU a]) []):=by kernel_rfl
theorem DT(v0:Z)(v3:Bool)(o1:Int)(g:List Int)(n:Int)(v5:Z)(e:Int)(d:Nat)(h b:Int)(j:List Int)(c:Int)(a:List Int)(f:Int):stepT Q5 (L7 v0 v3 o1 g n v5 e d h b j c a f)=let i:=EZ 18 (length v0:Int);let l:=(zc .i64<|0-e,CT<|zc .i64<|0-e);let p:=getD j (toNat b) 0-48;let k:=(VE (10,CT 10) i,Wf (10,CT 10) i);let o:=decide (0<=EZ 18 (length v0:Int))&&true&&decide (toNat i<=length v0)&&decide (length v0<=length v0);let m:=take (zy (length v0)<|toNat i)<|drop (toNat i) v0;let q:=Bb (10,CT 10)&&iI (y8 (10,CT 10)) i;let b':=(Fx (c,a) k,Fv (c,a) k);let h':=Bb (c,a)&&Bb k;.di (b<h) (.ck (decide (0<=b)&&decide (b<(↑d:Int)))<|.cd (toNat b<length j)<|.di (zc .u8 p>9) .fail<|L7 v0 v3 o1 g n v5 (zc .i64<|zc .i64 (e*10)+zc .i64 (zc .u8 p)) d h (zc .i64<|b+1) j c a f) (.cd (0<(length v5:Int))<|.ite ((↑(zi<|getD v5 0 (0:UInt8)):Int)==45) (.ck true<|.ck q<|.ck h'<|.ck true<|.ck (Bb b'&&Bb l)<|.ck o<|L5 m v3 (J7 b' l) (JZ b' l) f)<|.ck true<|.ck q<|.ck h'<|.ck true<|.ck (Bb b'&&Bb (e,CT e))<|.ck o<|L5 m v3 (J7 b' (e,CT e)) (JZ b' (e,CT e)) f):=by kernel_rfl
end T126
namespace T201
def T(s t:Z):Tr:=tree bK false 9 201<|Ae ([zh,zh]) (s,t)
def L1(s t v0:Z)(v4:Int)(a:List Bool):Tr:=re ((T s t).R.R.L.L.R)<|Av 21 [(0,.dat zh v0),(2,.ptr 0 0),(4,.dat i64 v4)] [(0,.arr false 266 zl a)] 1
def L2(s t v0:Z)(v4:Int)(a:List Bool):Tr:=re ((T s t).R.R.R)<|Av 21 [(0,.dat zh v0),(2,.ptr 0 0),(4,.dat i64 v4)] [(0,.arr false 266 zl a)] 1
theorem Ak(s t:Z):T s t=let a:=decide (0<(length t:Int));let b':Tr:=.leaf (.dat zh s) [];.ite (s==[]) b' (.ite (t==[]) b'<|.ite ((length t:Int)==1) (.ck a<|.di ((↑(zi<|getD t 0 (0:UInt8)):Int)<128) (.ck a<|.ck a<|.ck false<|.ck false b')<|L1 s t t 0 Sp.zS)<|L2 s t t 0 Sp.zS):=by kernel_rfl
def L4(s t v0:Z)(v4:Int)(c:List Bool)(a:Z)(o1:List Bool)(b:List Bool):Tr:=re ((stepT bK<|L2 s t v0 v4 c).R.L.L.L.L)<|Av 22 [(0,.dat zh a),(1,.ptr 1 0)] [(1,.arr false 266 zl o1),(0,.arr false 266 zl b)] 2
theorem AJ(s t v0:Z)(v4:Int)(a:List Bool):stepT bK (L2 s t v0 v4 a)=let b:=(↑(zi<|getD v0 (toNat v4) (0:UInt8)):Int);let b':=decide (length a=256);let c:=decide (v4<(length v0:Int));.ite c (.ck (decide (0<=v4)&&c)<|.di (b>=128) (.ck b'<|.ck b'<|.cd (256=256)<|.ck true<|.ck false<|.ck false<|.leaf (.dat zh s) [])<|.ck (decide ((0:qf (zm yh))<=b)&&decide (b<(↑256:Int)))<|.cd (toNat b<length a)<|L2 s t v0 (zc .i64<|v4+1)<|set a (toNat b) true) (.ck b'<|.ck b'<|.cd (256=256)<|.ck true<|L4 s t v0 v4 a s ((Sp.yP a))<|(Sp.yP a)):=by kernel_rfl
def L7(s t v0:Z)(v4:Int)(f:List Bool)(e:Z)(o1:List Bool)(c:List Bool)(b:Z)(d:List Bool)(a:List Bool):Tr:=re ((stepT bK<|L4 s t v0 v4 f e o1 c).L.L.L.L.L)<|Av 16 [(0,.dat zh b),(1,.ptr 1 0)] [(1,.arr false 266 zl d),(0,.arr false 266 zl a)] 2
def L8(s t v0:Z)(v4:Int)(f:List Bool)(e:Z)(o1:List Bool)(c:List Bool)(b:Z)(d:List Bool)(a:List Bool):Tr:=re ((stepT bK<|L4 s t v0 v4 f e o1 c).R)<|Av 16 [(0,.dat zh b),(1,.ptr 1 0)] [(1,.arr false 266 zl d),(0,.arr false 266 zl a)] 2
theorem CD(s t v0:Z)(v4:Int)(e:List Bool)(a:Z)(o1:List Bool)(b:List Bool):stepT bK (L4 s t v0 v4 e a o1 b)=let b':=(↑(length a):Int);let c:=zc .i64<|b'-1;let f:=decide (0<=zc .i64 (b'-1));let d:=(↑(zi<|getD a (toNat c) (0:UInt8)):Int);.di (b'>0) (.ck (f&&decide (zc .i64 (b'-1)<b'))<|.ck (decide ((0:qf (zm yh))<=d)&&decide (d<(↑256:Int)))<|.cd (toNat d<length o1)<|.ite (!getD o1 (toNat d) false) (L7 s t v0 v4 e a o1 b a o1 b)<|.ck (f&&decide (0<=toNat c)&&decide (toNat c<=length a))<|L4 s t v0 v4 e (take (toNat c) a) o1 b) (L8 s t v0 v4 e a o1 b a o1 b):=by kernel_rfl
theorem DT(s t v0:Z)(v4:Int)(g:List Bool)(e:Z)(o1:List Bool)(d:List Bool)(a:Z)(b:List Bool)(c:List Bool):stepT bK (L7 s t v0 v4 g e o1 d a b c)=let f:=(↑(zi<|getD a 0 (0:UInt8)):Int);let b':Tr:=.leaf (.dat zh a) [];.di ((↑(length a):Int)>0) (.cd (0<(↑(length a):Int))<|.ck (decide ((0:qf (zm yh))<=f)&&decide (f<(↑256:Int)))<|.cd (toNat f<length b)<|.ite (!getD b (toNat f) false) b'<|.ck (decide (1<=length a)&&decide (length a<=length a))<|L7 s t v0 v4 g e o1 d (take (zy (length a) 1)<|drop 1 a) b c) b':=by kernel_rfl
theorem Hu(s t v0:Z)(v4:Int)(g:List Bool)(e:Z)(o1:List Bool)(d:List Bool)(a:Z)(b:List Bool)(c:List Bool):stepT bK (L8 s t v0 v4 g e o1 d a b c)=let f:=(↑(zi<|getD a 0 (0:UInt8)):Int);let b':Tr:=.leaf (.dat zh a) [];.di ((↑(length a):Int)>0) (.cd (0<(↑(length a):Int))<|.ck (decide ((0:qf (zm yh))<=f)&&decide (f<(↑256:Int)))<|.cd (toNat f<length b)<|.ite (!getD b (toNat f) false) b'<|.ck (decide (1<=length a)&&decide (length a<=length a))<|L8 s t v0 v4 g e o1 d (take (zy (length a) 1)<|drop 1 a) b c) b':=by kernel_rfl
end T201
namespace T167
def T(s:Z):Tr:=tree XH1 false 9 167<|Ae ([zh]) s
theorem Ak(s:Z):T s=.ite (!s==[]) (.ck (Sp.zJ s [(48:UInt8),49,50,51,52,53,54,55,56,57])<|.ite (Sp.P3 s==[]) (.cd (0<(length s:Int))<|.ite ((↑(zi<|getD s 0 (0:UInt8)):Int) !=48) (.leaf (.bl true) [])<|.leaf (.dat zl<|s==[(48:UInt8)]) [])<|.leaf (.bl false) []) (.leaf (.bl false) []):=by kernel_rfl
end T167
namespace T166
def T(s t:Z):Tr:=tree NQ false 9 166<|Ae ([zh,zh]) (s,t)
theorem Ak(s t:Z):T s t=let a:=(length t:Int);let b':Tr:=.leaf (.tup [.dat zh s,.bl false]) [];let b:=decide (toNat a<=length s);.di ((length s:Int)>=a) (.ck (decide (0<=a)&&decide (0<=toNat a)&&b)<|.ite (!take (toNat a) s==t) b'<|.ck (decide (0<=a)&&true&&b&&decide (length s<=length s))<|.leaf (.tup [.dat zh<|take (zy (length s)<|toNat a)<|drop (toNat a) s,.bl true]) []) b':=by kernel_rfl
end T166
namespace T124
def T(s t:Z):Tr:=tree XH2 false 9 124<|Ae ([zh,zh]) (s,t)
theorem Ak(s t:Z):T s t=let b':=(↑(zi<|getD t 0 (0:UInt8)):Int);let a:=(length t:Int);let d:Tr:=.leaf (.tup [.dat zh s,.dat zh [],.bl false]) [];let b:=decide (length s<=length s);let h:=BC [zm yh];let e:=zc .i64<|Sp.QE s b'+a;let c:=zc .i64<|(-1)+a;let h':=zc .i64<|0+a;let f:=Sp.QE s b';let g:Tr:=.ite true (.cd (0<=length s)<|.ck (decide (0<=zc .i64 (0+a))&&true&&decide (toNat h'<=length s)&&b)<|.leaf (.tup [.dat zh<|take 0 s,.dat zh<|take (zy (length s)<|toNat h')<|drop (toNat h') s,.bl true]) []) d;.ite (a==0) g (.ite (t==s) g<|.ite (a==1) (.cd (0<a)<|.ck (decide ((0:qf h)<=b')&&decide (b'<(256:qf h)))<|.di (Sp.QE s b'>=0) (.ck (decide (0<=Sp.QE s b')&&decide (0<=toNat f)&&decide (toNat f<=length s))<|.ck (decide (0<=zc .i64 (Sp.QE s b'+a))&&true&&decide (toNat e<=length s)&&b)<|.leaf (.tup [.dat zh<|take (toNat f) s,.dat zh<|take (zy (length s)<|toNat e)<|drop (toNat e) s,.bl true]) []) d)<|.cd (a>=(length s:Int))<|.ite false (.ck (false&&decide (0<=length s))<|.ck (decide (0<=zc .i64 ((-1)+a))&&true&&decide (toNat c<=length s)&&b)<|.leaf (.tup [.dat zh<|take 0 s,.dat zh<|take (zy (length s)<|toNat c)<|drop (toNat c) s,.bl true]) []) d):=by kernel_rfl
end T124
namespace T193
def T(w:List Int):Tr:=tree pR false 9 193<|Ae ([ze i64]) w
def L1(v0:List Int):Tr:=re ((T []))<|Av 21 [(0,.dat (ze i64) v0)] [] 0
theorem Ak(w:List Int):T w=L1 w:=by kernel_rfl
theorem Al(v0:List Int):stepT pR (L1 v0)=let b':=(length v0:Int);let c:Tr:=.leaf (.dat (ze i64) v0) [];let a:=zc .i64<|b'-1;let b:=decide (0<=zc .i64 (b'-1));.di (b'>0) (.ck (b&&decide (zc .i64 (b'-1)<b'))<|.ite (getD v0 (toNat a) 0==0) (.ck (b&&decide (0<=toNat a)&&decide (toNat a<=length v0))<|L1<|take (toNat a) v0) c) c:=by kernel_rfl
end T193
namespace T155
def T(n:Bool)(w:List Int):Tr:=tree eG false 9 155<|Ae ([zl,ze i64]) (n,w)
theorem Ak(n:Bool)(w:List Int):T n w=.cd (length w<=20000) (.ite n (.leaf (zq [.dat zl<|decide ((↑(length<|Ax w):Int)>0),.dat (ze i64)<|Ax w]) [])<|.leaf (zq [.bl false,.dat (ze i64)<|Ax w]) []):=by kernel_rfl
end T155
namespace T157
def T(a b:List Int):Tr:=tree pR false 9 157<|Ae ([ze i64,ze i64]) (a,b)
def L1(v0 v1:List Int)(v5:Int):Tr:=re ((T [] []).R)<|Av 41 [(0,.dat (ze i64) v0),(1,.dat (ze i64) v1),(5,.dat i64 v5)] [] 0
theorem Ak(a b:List Int):T a b=let c:=(length a:Int);.ite (c !=(length b:Int)) (.di (c<(length b:Int)) (.leaf (.dat i64 (-1:Int)) [])<|.leaf (.dat i64 (1:Int)) []) (L1 a b<|zc .i64<|c-1):=by kernel_rfl
theorem Al(v0 v1:List Int)(v5:Int):stepT pR (L1 v0 v1 v5)=let a:=decide (0<=v5)&&decide (v5<(length v0:Int));let b':=decide (0<=v5)&&decide (v5<(length v1:Int));.di (v5>=0) (.ck a<|.ck b'<|.di (getD v0 (toNat v5) 0<getD v1 (toNat v5) 0) (.leaf (.dat i64 (-1:Int)) [])<|.ck a<|.ck b'<|.di (getD v0 (toNat v5) 0>getD v1 (toNat v5) 0) (.leaf (.dat i64 (1:Int)) [])<|L1 v0 v1<|zc .i64<|v5-1) (.leaf (.dat i64 (0:Int)) []):=by kernel_rfl
end T157
namespace T159
def T(a b:List Int):Tr:=tree eG false 9 159<|Ae ([ze i64,ze i64]) (a,b)
def L1(v0 v1:List Int)(a:Nat)(c:Int)(b:List Int):Tr:=re ((T [] []).L)<|Av 72 [(0,.dat (ze i64) v0),(1,.dat (ze i64) v1),(5,.sl 0 1 0 a none),(6,.dat i64 c)] [(0,.arr false 3 i64 b)] 1
theorem Ak(a b:List Int):T a b=let c:=(length a:Int)+(length b:Int);let b':=zc .i64 c;.ck (decide (0<=zc .i64 c)&&decide (zc .i64 c=zc .i64 c)&&decide (8*toNat b'<=281474976710656)&&decide (zc .i64 c<9223372036854775808)) (L1 a b (toNat b') 0<|replicate (toNat b') 0):=by kernel_rfl
def L2(v0 v1:List Int)(a:Nat)(e b c:Int)(d:List Int):Tr:=re ((stepT eG<|L1 [] [] 0 0 []).L)<|Av 72 [(0,.dat (ze i64) v0),(1,.dat (ze i64) v1),(5,.sl 0 1 0 a none),(6,.dat i64 e),(7,.dat i64 b),(8,.dat i64 c)] [(0,.arr false 3 i64 d)] 1
theorem Al(v0 v1:List Int)(a:Nat)(c:Int)(b:List Int):stepT eG (L1 v0 v1 a c b)=.di (c<(length v0:Int)) (L2 v0 v1 a c 0 0 b) (.ck (decide (0+a<=length b)&&true&&decide (length (take a b)<=20000))<|.leaf (.dat (ze i64)<|Ax<|take a b) []):=by kernel_rfl
theorem AJ(v0 v1:List Int)(a:Nat)(b e c:Int)(d:List Int):stepT eG (L2 v0 v1 a b e c d)=let j:=decide (0<=zc .i64 (b+c))&&decide (zc .i64 (b+c)<(↑a:Int));let f:=zc .i64<|b+c;let g:=(length v1:Int);let k:=zc .i64<|zc .i64 (getD d (toNat f) 0+zc .i64 (getD v0 (toNat b) 0*getD v1 (toNat c) 0))+e;let b':=b+g;let i:=decide (toNat f<length d);let l:=decide (0<=zc .i64 b')&&decide (zc .i64 b'<(↑a:Int));let h:=zc .i64 b';let h':=decide (toNat h<length d);.di (c<g) (.ck j<|.ck i<|.ck (decide (0<=b)&&decide (b<(length v0:Int)))<|.ck (decide (0<=c)&&decide (c<g))<|.ck true<|.ck j<|.ck i<|.ck true<|L2 v0 v1 a b (zc .i64<|yn k 1000000000) (zc .i64<|c+1)<|set d (toNat f)<|ya k 1000000000) (.ck l<|.ck h'<|.ck l<|.ck h'<|L1 v0 v1 a (zc .i64<|b+1)<|set d (toNat h)<|zc .i64<|getD d (toNat h) 0+e):=by kernel_rfl
end T159
namespace T192
def T(a:List Int)(d:Int):Tr:=tree eG false 9 192<|Ae ([ze i64,zm ym]) (a,d)
def L1(v0:List Int)(v1:Int)(a:Nat)(b c:Int)(d:List Int):Tr:=re ((T [] 0).L)<|Av 39 [(0,.dat (ze i64) v0),(1,.dat i64 v1),(6,.sl 0 1 0 a none),(7,.dat i64 b),(8,.dat i64 c)] [(0,.arr false 3 i64 d)] 1
theorem Ak(a:List Int)(d:Int):T a d=let b:=(length a:Int);.ck (decide (0<=b)&&decide (b=b)&&decide (8*toNat b<=281474976710656)&&decide (b<9223372036854775808)) (L1 a d (toNat b) 0 (zc .i64<|b-1)<|replicate (toNat b) 0):=by kernel_rfl
theorem Al(v0:List Int)(v1:Int)(a:Nat)(d b:Int)(c:List Int):stepT eG (L1 v0 v1 a d b c)=let e:=zc .i64<|zc .i64 (d*1000000000)+getD v0 (toNat b) 0;.di (b>=0) (.ck (decide (0<=b)&&decide (b<(length v0:Int)))<|.cd (v1≠0)<|.ck (decide (0<=b)&&decide (b<(↑a:Int)))<|.cd (toNat b<length c)<|.cd (v1≠0)<|L1 v0 v1 a (ya e v1) (zc .i64<|b-1)<|set c (toNat b)<|zc .i64<|yn e v1) (.ck (decide (0+a<=length c)&&true&&decide (length (take a c)<=20000))<|.leaf (.tup [.dat (ze i64)<|Ax<|take a c,.dat i64 d]) []):=by kernel_rfl
end T192
namespace T154
def T(a b:List Int):Tr:=tree ML false 9 154<|Ae ([ze i64,ze i64]) (a,b)
def L1(v0:List Int)(b:Nat)(v9:List Int)(c:Int)(a:Nat)(o1 d:List Int):Tr:=re ((T [] []).L.R.R.L.L.L.L.L)<|Av 206 [(0,.dat (ze i64) v0),(8,.sl 0 1 0 b none),(9,.dat (ze i64) v9),(10,.dat i64 c),(11,.sl 1 1 0 a none)] [(1,.arr false 3 i64 o1),(0,.arr true 3 i64 d)] 2
theorem Ak(a b:List Int):T a b=let c:=(length b:Int);let f:=getD b (toNat<|zc .i64<|c-1) 0+1;let d:=yn 1000000000<|zc .i64 f;let b':=Au a*Au [zc .i64 d];let e:=B5<|Au b*Au [zc .i64 d];.ck (Ba a&&Ba b) (.di (Cg (Au a) (Au b)<0) (.leaf (.tup [.nil,.dat (ze i64) a]) [])<|.ite (c==1) (.cd (0<c)<|.ck (J1 a&&decide (0<getD b 0 0)&&decide (getD b 0 0<1000000000))<|.ck (decide (1<=1)&&true&&decide (1<=20000))<|.leaf (.tup [.dat (ze i64)<|B5<|Au a/getD b 0 0,.dat (ze i64)<|Ax [Au a % getD b 0 0]]) [])<|.ck (decide (0<=zc .i64 (c-1))&&decide (zc .i64 (c-1)<c))<|.cd (zc .i64 f≠0)<|.ck (decide (1<=1)&&true&&(Sp.hR b&&Sp.hR [zc .i64 d]))<|.ck (decide (1<=1)&&true&&(Sp.hR a&&Sp.hR [zc .i64 d]))<|.cd ((3*(0+length (B5 b'))+2000)*8<=562949953421312)<|L1 a 1 e ((↑(length e):Int)) (zo 0<|length<|B5 b') ([]++B5 b')<|[zc .i64 d]):=by kernel_rfl
def L2(d:Nat)(v9:List Int)(e:Int)(b a:Nat)(c:Int)(f o1 g:List Int):Tr:=re ((stepT ML<|L1 [] 0 [] 0 0 [] []).R.L)<|Av 206 [(8,.sl 0 1 0 d none),(9,.dat (ze i64) v9),(10,.dat i64 e),(11,.sl 1 1 0 b none),(12,.sl 2 1 0 a none),(13,.dat i64 c)] [(2,.arr false 3 i64 f),(1,.arr false 3 i64 o1),(0,.arr true 3 i64 g)] 3
theorem Al(v0:List Int)(c:Nat)(v9:List Int)(b:Int)(a:Nat)(o1 e:List Int):stepT ML (L1 v0 c v9 b a o1 e)=let d:=(↑a:Int)-b;let b':=zc .i64 d;.di ((↑a:Int)<zc .i64 ((length v0:Int)+1)) (.ck (decide (a=length o1)&&decide ((3*(a+1)+2000)*8<=562949953421312))<|L1 v0 c v9 b (zo a 1) (o1++[0]) e) (.ck (decide (0<=zc .i64 d)&&decide (zc .i64 d=zc .i64 d)&&decide (8*toNat b'<=281474976710656)&&decide (zc .i64 d<9223372036854775808))<|L2 c v9 b a (toNat b') (zc .i64<|zc .i64 d-1) (replicate (toNat b') 0) o1 e):=by kernel_rfl
def L3(f:Nat)(v9:List Int)(k:Int)(c b:Nat)(d:Int)(m o1 n:List Int)(j:Nat)(v1:List Int)(v2 l:Int)(g:Int)(a:Int)(e:List Int)(i:List Int)(h:List Int):Tr:=re ((stepT ML<|L2 f v9 k c b d m o1 n).L.L.L.L.L.L.L.L.L)<|Av 77 [(0,.sl 1 1 0 j none),(1,.dat (ze i64) v1),(2,.dat i64 v2),(7,.dat i64 l),(9,.dat i64 g),(10,.dat i64 a)] [(2,.arr false 3 i64 e),(1,.arr false 3 i64 i),(0,.arr true 3 i64 h)] 3
theorem AJ(f:Nat)(v9:List Int)(d:Int)(a c:Nat)(b:Int)(h o1 g:List Int):stepT ML (L2 f v9 d a c b h o1 g)=let e:=(length v9:Int);let k:=take (toNat d) o1;let j:=toNat<|zc .i64<|e-1;let i:=zc .i64 (b+e)-1;let m:=decide (0<=zc .i64 (e-1))&&decide (zc .i64 (e-1)<e);let l:=zc .i64<|b+e;let b':=zc .i64<|zc .i64 (getD o1 (toNat l) 0*1000000000)+getD o1 (toNat<|zc .i64 i) 0;let h':=decide (getD v9 j 0≠0);.di (b>=0) (.ck (decide (0<=zc .i64 (b+e))&&decide (zc .i64 (b+e)<(↑a:Int)))<|.cd (toNat l<length o1)<|.ck (decide (0<=zc .i64 i)&&decide (zc .i64 i<(↑a:Int)))<|.cd (toNat (zc .i64 i)<length o1)<|.ck m<|.ck h'<|.ck m<|.ck h'<|L3 f v9 d a c b h o1 g a v9 b e (zc .i64<|yn b'<|getD v9 j 0) (ya b'<|getD v9 j 0) h o1 g) (.ck (decide (0<=d)&&true&&decide (0<=toNat d)&&decide (toNat d<=z7 none a)&&decide (z7 none a<=z7 none a)&&true)<|.cd (0<(↑f:Int))<|.cd (0<length g)<|.ck (decide (0+toNat d<=length o1)&&true&&decide (length k<=20000))<|.ck (J1 (Ax k)&&decide (0<getD g 0 0)&&decide (getD g 0 0<1000000000))<|.ck (decide (0+c<=length h)&&true&&decide (length (take c h)<=20000))<|.leaf (.tup [.dat (ze i64)<|Ax<|take c h,.dat (ze i64)<|B5<|Au (Ax k)/getD g 0 0]) []):=by kernel_rfl
def L4(d:Nat)(v9:List Int)(g:Int)(b a:Nat)(c f h e:Int)(i o1 j:List Int):Tr:=re ((stepT ML<|L3 0 [] 0 0 0 0 [] [] [] 0 [] 0 0 0 0 [] [] []).L.L.L)<|Av 206 [(8,.sl 0 1 0 d none),(9,.dat (ze i64) v9),(10,.dat i64 g),(11,.sl 1 1 0 b none),(12,.sl 2 1 0 a none),(13,.dat i64 c),(14,.dat i64 f),(15,.dat i64 h),(16,.dat i64 e)] [(2,.arr false 3 i64 i),(1,.arr false 3 i64 o1),(0,.arr true 3 i64 j)] 3
theorem Ca(h:Nat)(v9:List Int)(j:Int)(b a:Nat)(k:Int)(o o1 p:List Int)(l:Nat)(v1:List Int)(v2 g:Int)(d:Int)(e:Int)(f:List Int)(c:List Int)(i:List Int):stepT ML (L3 h v9 j b a k o o1 p l v1 v2 g d e f c i)=let b':=zc .i64 (v2+g)-2;let m:=e+getD v1 (toNat<|zc .i64<|g-1) 0;let q:=zc .i64<|d-1;let n:Tr:=.ck (decide (0<=zc .i64 (g-1))&&decide (zc .i64 (g-1)<(length v1:Int)))<|.di (zc .i64 m>=1000000000) (L4 h v9 j b a k q 0 0 f c i)<|L3 h v9 j b a k o o1 p l v1 v2 g q (zc .i64 m) f c i;.di (d>=1000000000) n (.ck (decide (0<=zc .i64 (g-2))&&decide (zc .i64 (g-2)<(length v1:Int)))<|.ck (decide (0<=zc .i64 b')&&decide (zc .i64 b'<(↑l:Int)))<|.cd (toNat (zc .i64 b')<length c)<|.di (zc .i64 (d*getD v1 (toNat<|zc .i64<|g-2) 0)>zc .i64 (zc .i64 (e*1000000000)+getD c (toNat<|zc .i64 b') 0)) n<|L4 h v9 j b a k d 0 0 f c i):=by kernel_rfl
def L5(d:Nat)(v9:List Int)(f:Int)(b a:Nat)(c e g v20:Int)(h o1 i:List Int):Tr:=re ((stepT ML<|L4 0 [] 0 0 0 0 0 0 0 [] [] []).R.L.L.L.L.L.L.L)<|Av 206 [(8,.sl 0 1 0 d none),(9,.dat (ze i64) v9),(10,.dat i64 f),(11,.sl 1 1 0 b none),(12,.sl 2 1 0 a none),(13,.dat i64 c),(14,.dat i64 e),(19,.dat i64 g),(20,.dat i64 v20)] [(2,.arr false 3 i64 h),(1,.arr false 3 i64 o1),(0,.arr true 3 i64 i)] 3
theorem CD(g:Nat)(v9:List Int)(d:Int)(b c:Nat)(a f h e:Int)(i o1 j:List Int):stepT ML (L4 g v9 d b c a f h e i o1 j)=let o:=decide (0<=zc .i64 (e+a))&&decide (zc .i64 (e+a)<(↑b:Int));let n:=decide (0<=zc .i64 (a+d))&&decide (zc .i64 (a+d)<(↑b:Int));let p:=zc .i64<|zc .i64 (f*getD v9 (toNat e) 0)+h;let l:=zc .i64<|e+a;let k:=zc .i64<|a+d;let s:=zc .i64<|e+1;let m:=set o1 (toNat k)<|zc .i64<|getD o1 (toNat k) 0-h;let b':=getD o1 (toNat l) 0-ya p 1000000000;let h':=decide (toNat l<length o1);let q:=decide (toNat k<length o1);let r:=yn p 1000000000;.di (e<d) (.ck (decide (0<=e)&&decide (e<(length v9:Int)))<|.ck o<|.ck h'<|.ck true<|.ck true<|.di (zc .i64 b'<0) (.ck o<|.ck h'<|L4 g v9 d b c a f (zc .i64<|zc .i64 r+1) s i (set o1 (toNat l)<|zc .i64<|zc .i64 b'+1000000000) j)<|.ck o<|.ck h'<|L4 g v9 d b c a f (zc .i64 r) s i (set o1 (toNat l)<|zc .i64 b') j) (.ck n<|.ck q<|.ck n<|.ck q<|.ck n<|.cd (toNat k<length m)<|.di (getD m (toNat k) 0<0) (L5 g v9 d b c a (zc .i64<|f-1) 0 0 i m j)<|.ck (decide (0<=a)&&decide (a<(↑c:Int)))<|.cd (toNat a<length i)<|L2 g v9 d b c (zc .i64<|a-1) (set i (toNat a) f) m j):=by kernel_rfl
theorem Eu(e:Nat)(v9:List Int)(c:Int)(b d:Nat)(a g f v20:Int)(h o1 i:List Int):stepT ML (L5 e v9 c b d a g f v20 h o1 i)=let b':=decide (0<=zc .i64 (v20+a))&&decide (zc .i64 (v20+a)<(↑b:Int));let o:=decide (0<=zc .i64 (a+c))&&decide (zc .i64 (a+c)<(↑b:Int));let j:=zc .i64<|v20+a;let k:=zc .i64<|a+c;let m:=zc .i64<|zc .i64 (getD o1 (toNat j) 0+getD v9 (toNat v20) 0)+f;let l:=decide (toNat j<length o1);let n:=decide (toNat k<length o1);.di (v20<c) (.ck b'<|.ck l<|.ck (decide (0<=v20)&&decide (v20<(length v9:Int)))<|.ck true<|.ck b'<|.ck l<|.ck true<|L5 e v9 c b d a g (zc .i64<|yn m 1000000000) (zc .i64<|v20+1) h (set o1 (toNat j)<|ya m 1000000000) i) (.ck o<|.ck n<|.ck o<|.ck n<|.ck (decide (0<=a)&&decide (a<(↑d:Int)))<|.cd (toNat a<length h)<|L2 e v9 c b d (zc .i64<|a-1) (set h (toNat a) g) (set o1 (toNat k)<|zc .i64<|getD o1 (toNat k) 0+f) i):=by kernel_rfl
end T154
namespace T130
def T(a b:List Int):Tr:=tree XG3 false 9 130<|Ae ([ze i64,ze i64]) (a,b)
def L1(v0 v1:List Int):Tr:=re ((T [] []))<|Av 19 [(0,.dat (ze i64) v0),(1,.dat (ze i64) v1)] [] 0
theorem Ak(a b:List Int):T a b=L1 a b:=by kernel_rfl
theorem Al(v0 v1:List Int):stepT XG3 (L1 v0 v1)=.di ((length v1:Int)>0) (.ck (Ba v0&&Ba v1&&decide (length v0<=9000)&&decide (length v1<=9000)&&decide (0<Au v1))<|L1 v1<|B5<|Au v0 % Au v1) (.leaf (.dat (ze i64) v0) []):=by kernel_rfl
end T130
namespace T152
def T(s:Z):Tr:=tree pR false 9 152<|Ae ([zh]) s
def L1(v0:Z)(v3 v4:Int):Tr:=re ((T []))<|Av 20 [(0,.dat zh v0),(3,.dat i64 v3),(4,.dat i64 v4)] [] 0
theorem Ak(s:Z):T s=L1 s 0 0:=by kernel_rfl
theorem Al(v0:Z)(v3 v4:Int):stepT pR (L1 v0 v3 v4)=let a:=decide (v4<(length v0:Int));.ite a (.ck (decide (0<=v4)&&a)<|L1 v0 (zc .i64<|zc .i64 (zc .i64 (10*v3)+zc .i64 (↑(zi<|getD v0 (toNat v4) (0:UInt8)):Int))-48)<|zc .i64<|v4+1) (.leaf (.dat i64 v3) []):=by kernel_rfl
end T152
namespace T149
def T(s:Z):Tr:=tree eB false 9 149<|Ae ([zh]) s
def L1(v0:Z)(v3:Bool):Tr:=re ((T []).L.L.L.L)<|Av 40 [(0,.dat zh v0),(2,.ptr 0 0),(3,.dat zl v3),(4,.nil)] [(0,.box [.bl false,.nil])] 1
def L2(v0:Z):Tr:=re ((T []).R)<|Av 40 [(0,.dat zh v0),(2,.ptr 0 0),(3,.bl false),(4,.nil)] [(0,.box [.bl false,.nil])] 1
theorem Ak(s:Z):T s=let a:=(↑(zi<|getD s 0 (0:UInt8)):Int)==45;.di ((length s:Int)>0) (.cd (0<(length s:Int))<|.ite a (.ck (decide (1<=length s)&&decide (length s<=length s))<|L1 (take (zy (length s) 1)<|drop 1 s) a)<|L1 s a) (L2 s):=by kernel_rfl
def L3(v0:Z)(v3:Bool)(a:Nat)(o1:List Int):Tr:=re ((stepT eB<|L1 [] false).L.L.L.L.L)<|Av 40 [(0,.dat zh v0),(2,.ptr 0 0),(3,.dat zl v3),(4,.sl 1 1 0 a none)] [(1,.arr false 3 i64 o1),(0,.box [.bl false,.nil])] 2
theorem Al(v0:Z)(v3:Bool):stepT eB (L1 v0 v3)=let b':=aa 8;let b:=(length v0:Int);let a:=zc .i64<|b-9;let d:=decide (0<=zc .i64 (b-9));let c:=take (zy (length v0)<|toNat a)<|drop (toNat a) v0;let e:=decide (toNat a<=length v0);.di (b>9) (.ck (d&&true&&e&&decide (length v0<=length v0))<|.ck (D9 c)<|.ck b'<|.ck (d&&decide (0<=toNat a)&&e)<|L3 (take (toNat a) v0) v3 1<|[BP c]) (.ck (D9 v0)<|.ck b'<|.ck (decide (0+1<=1)&&true&&decide (1<=20000))<|.leaf (zq [.dat zl<|C1 v3 [BP v0],.dat (ze i64)<|Ax [BP v0]]) []):=by kernel_rfl
def L4(v0:Z)(a:Nat)(o1:List Int):Tr:=re ((stepT eB<|L2 []).L.L.L.L.L)<|Av 40 [(0,.dat zh v0),(2,.ptr 0 0),(3,.bl false),(4,.sl 1 1 0 a none)] [(1,.arr false 3 i64 o1),(0,.box [.bl false,.nil])] 2
theorem AJ(v0:Z):stepT eB (L2 v0)=let b':=aa 8;let b:=(length v0:Int);let a:=zc .i64<|b-9;let d:=decide (0<=zc .i64 (b-9));let c:=take (zy (length v0)<|toNat a)<|drop (toNat a) v0;let e:=decide (toNat a<=length v0);.di (b>9) (.ck (d&&true&&e&&decide (length v0<=length v0))<|.ck (D9 c)<|.ck b'<|.ck (d&&decide (0<=toNat a)&&e)<|L4 (take (toNat a) v0) 1<|[BP c]) (.ck (D9 v0)<|.ck b'<|.ck (decide (0+1<=1)&&true&&decide (1<=20000))<|.leaf (zq [.dat zl<|C1 false [BP v0],.dat (ze i64)<|Ax [BP v0]]) []):=by kernel_rfl
theorem Ca(v0:Z)(v3:Bool)(a:Nat)(o1:List Int):stepT eB (L3 v0 v3 a o1)=let b':=ac a (length o1) 8;let c:=take (zo a 1)<|o1++[BP v0];let d:=(length v0:Int);let b:=zc .i64<|d-9;let g:=decide (0<=zc .i64 (d-9));let f:=take (zy (length v0)<|toNat b)<|drop (toNat b) v0;let e:=decide (toNat b<=length v0);.di (d>9) (.ck (g&&true&&e&&decide (length v0<=length v0))<|.ck (D9 f)<|.ck b'<|.ck (g&&decide (0<=toNat b)&&e)<|L3 (take (toNat b) v0) v3 (zo a 1)<|o1++[BP f]) (.ck (D9 v0)<|.ck b'<|.ck (decide (0+zo a 1<=length (o1++[BP v0]))&&true&&decide (length c<=20000))<|.leaf (zq [.dat zl<|C1 v3 c,.dat (ze i64)<|Ax c]) []):=by kernel_rfl
theorem CD(v0:Z)(a:Nat)(o1:List Int):stepT eB (L4 v0 a o1)=let b':=ac a (length o1) 8;let c:=take (zo a 1)<|o1++[BP v0];let d:=(length v0:Int);let b:=zc .i64<|d-9;let g:=decide (0<=zc .i64 (d-9));let f:=take (zy (length v0)<|toNat b)<|drop (toNat b) v0;let e:=decide (toNat b<=length v0);.di (d>9) (.ck (g&&true&&e&&decide (length v0<=length v0))<|.ck (D9 f)<|.ck b'<|.ck (g&&decide (0<=toNat b)&&e)<|L4 (take (toNat b) v0) (zo a 1)<|o1++[BP f]) (.ck (D9 v0)<|.ck b'<|.ck (decide (0+zo a 1<=length (o1++[BP v0]))&&true&&decide (length c<=20000))<|.leaf (zq [.dat zl<|C1 false c,.dat (ze i64)<|Ax c]) []):=by kernel_rfl
end T149
namespace T106n
def T(n:Int):Tr:=tree XF0 false 9 106<|Ae ([zm ym]) n
theorem Ak(n:Int):T n=.leaf (zq [.dat i64 n,.nil]) []:=by kernel_rfl
end T106n
namespace T190
def T(a b:AG):Tr:=tree XF1 false 9 190<|Ae ([AY,AY]) (a,b)
def L1(d:Bool)(c b:List Int)(e o1 f:Int)(a:List Int):Tr:=re ((T (0,[]) (0,[])).L.L.R.L.L.L)<|Av 84 [(3,.ptr 0 0),(4,.ptr 1 0),(5,.ptr 2 0),(8,.dat zl d),(12,.dat (ze<|zm zd) c),(13,.dat (ze<|zm zd) b)] [(2,.box [.dat i64 e,.nil]),(1,.box [.dat i64 o1,.nil]),(0,.box [.dat i64 f,.dat wU a])] 3
theorem Ak(a b:AG):T a b=let b':=Bv<|Ag<|y8 a;let c:=Bv<|Ag<|y8 b;let e:=yn (fst a)<|fst b;let d:Tr:=.ck (yr a)<|.ck (yr b)<|.ck (Th b' c)<|L1 (decide (y8 a<0)) (Bv<|As b'/As c) (Bv<|As b' % As c) 0 0 (fst b)<|snd b;.ite (!decide (0<length (snd a))) (.ite (!decide (0<length (snd b))) (.ite (fst a !=(-9223372036854775808)) (.cd (fst b≠0)<|.cd (fst b≠0)<|.di (ya (fst a) (fst b)<0) (.leaf (.tup [zq [.dat i64<|zc .i64<|zc .i64 e-1,.nil],zq [.dat i64<|zc .i64<|ya (fst a) (fst b)+fst b,.nil]]) [])<|.leaf (.tup [zq [.dat i64<|zc .i64 e,.nil],zq [.dat i64<|ya (fst a)<|fst b,.nil]]) []) d) d) d:=by kernel_rfl
def L2(f:Int)(a:List Int)(g:Int)(b:List Int)(d o1 e:Int)(c:List Int):Tr:=re ((stepT XF1<|L1 false [] [] 0 0 0 []).L.L)<|Av 84 [(3,.ptr 0 0),(4,.ptr 1 0),(5,.ptr 2 0),(14,.ptr 3 0),(15,.ptr 4 0)] [(4,.box [.dat i64 f,.dat wU a]),(3,.box [.dat i64 g,.dat wU b]),(2,.box [.dat i64 d,.nil]),(1,.box [.dat i64 o1,.nil]),(0,.box [.dat i64 e,.dat wU c])] 5
theorem Al(d:Bool)(b c:List Int)(f o1 g:Int)(a:List Int):stepT XF1 (L1 d b c f o1 g a)=let e:=Sp.sg d<|As c;let b':=Sp.sg d<|As b;.ck (Cm b) (.ck (Cm c)<|L2 (C0 e) (CZ e) (C0 b') (CZ b') f o1 g a):=by kernel_rfl
theorem AJ(d:Int)(a:List Int)(e:Int)(b:List Int)(g o1 f:Int)(c:List Int):stepT XF1 (L2 d a e b g o1 f c)=.ck (yr (d,a)) (.di (Ic (d,a)<0) (.ck true<|.ck (Bb (e,b)&&Bb (1,CT 1))<|.ck (Bb (d,a)&&Bb (f,c))<|.leaf (.tup [zq [.dat i64<|ZE (e,b) (1,CT 1),.dat wU<|ZC (e,b) (1,CT 1)],zq [.dat i64<|J7 (d,a) (f,c),.dat wU<|JZ (d,a) (f,c)]]) [])<|.leaf (.tup [zq [.dat i64 e,.dat wU b],zq [.dat i64 d,.dat wU a]]) []):=by kernel_rfl
end T190
namespace T170
def T(a b:AG):Tr:=tree XF2 false 9 170<|Ae ([AY,AY]) (a,b)
def L1(c o1:Int)(b:List Int)(d:Int)(a:List Int):Tr:=re ((T (0,[]) (0,[])).L.L)<|Av 23 [(2,.ptr 0 0),(3,.ptr 1 0),(4,.ptr 2 0)] [(2,.box [.dat i64 c,.nil]),(1,.box [.dat i64 o1,.dat wU b]),(0,.box [.dat i64 d,.dat wU a])] 3
theorem Ak(a b:AG):T a b=.ck (yr a) (.ck (yr b)<|L1 0 (Pr b) (Qt b) (Pr a)<|Qt a):=by kernel_rfl
theorem Al(d o1:Int)(a:List Int)(c:Int)(b:List Int):stepT XF2 (L1 d o1 a c b)=.ck (yr (o1,a)) (.ite (Ic (o1,a) !=0) (.ck (Bb (c,b)&&Bb (o1,a)&&decide (0<y8 (o1,a)))<|L1 d (eQ (c,b) (o1,a)) (kF (c,b) (o1,a)) o1 a)<|.leaf (zq [.dat i64 c,.dat wU b]) []):=by kernel_rfl
end T170
namespace T176
def T(a:AG)(k:Int):Tr:=tree XF3 false 9 176<|Ae ([AY,zm ym]) (a,k)
def L1(v1 c:Int)(b:List Int)(o1 d:Int)(a:List Int):Tr:=re ((T (0,[]) 0).L)<|Av 23 [(1,.dat i64 v1),(2,.ptr 0 0),(4,.ptr 1 0),(5,.ptr 2 0)] [(2,.box [.dat i64 c,.dat wU b]),(1,.box [.dat i64 o1,.nil]),(0,.box [.dat i64 d,.dat wU a])] 3
theorem Ak(a:AG)(k:Int):T a k=.ck true (L1 k 1 (CT 1) 0 (fst a)<|snd a):=by kernel_rfl
theorem Al(v1 d:Int)(b:List Int)(o1 c:Int)(a:List Int):stepT XF3 (L1 v1 d b o1 c a)=let e:=Int.fdiv v1<|2^1;let b':=Bb (c,a)&&Bb (c,a);let f:=Fx (d,b) (c,a);let h:=Fv (d,b) (c,a);let i:=Fx (c,a) (c,a);let g:=Fv (c,a) (c,a);.di (v1>0) (.ite (H4 ym v1 1==1) (.ck (Bb (d,b)&&Bb (c,a))<|.di (v1>1) (.ck b'<|.ck true<|L1 e f h o1 i g)<|.ck true<|L1 e f h o1 c a)<|.di (v1>1) (.ck b'<|.ck true<|L1 e d b o1 i g)<|.ck true<|L1 e d b o1 c a) (.leaf (zq [.dat i64 d,.dat wU b]) []):=by kernel_rfl
end T176
namespace T212
def T(a b:List Int):Tr:=tree JS false 9 212<|Ae ([ze<|zm zd,ze<|zm zd]) (a,b)
def L1(v0 v1:List Int)(a:Nat)(b c:Int)(d:List Int):Tr:=re ((T [] []).L.R.L.L)<|Av 137 [(0,.dat (ze<|zm zd) v0),(1,.dat (ze<|zm zd) v1),(6,.sl 0 1 0 a none),(7,.dat (zm zd) b),(8,.dat i64 c)] [(0,.arr false 216 (zm zd) d)] 1
def L2(a b:List Int)(v1:Int)(c:Nat)(f:List Int)(d e:Int)(g:List Int):Tr:=re ((T a b).L.R.R.L.L.L)<|Av 40 [(1,.dat i64 v1),(5,.sl 0 1 0 c none),(12,.dat (ze<|zm zd) f),(13,.dat i64 d),(14,.dat i64 e)] [(0,.arr false 216 (zm zd) g)] 1
theorem Ak(a b:List Int):T a b=let c:=(length b:Int);let b':=(length a:Int);let d:=zc .i64<|c+1;let e:=getD b (toNat<|zc .i64<|c-1) 0;.ck (Cm a&&Cm b) (.di (Cg (As a) (As b)<0) (.leaf (.tup [.nil,.dat (ze<|zm zd) a]) [])<|.ite (c==1) (.ck (decide (0<=b')&&decide (b'=b')&&decide (8*toNat b'<=281474976710656)&&decide (b'<9223372036854775808))<|L1 a b (toNat b') 0 (zc .i64<|b'-1)<|replicate (toNat b') 0)<|.ck (decide (0<=zc .i64 (c-1))&&decide (zc .i64 (c-1)<c))<|.ck (zt e)<|.ck (decide (0<=zc .i64 (c+1))&&decide (zc .i64 (c+1)=zc .i64 (c+1))&&decide (8*toNat d<=281474976710656)&&decide (zc .i64 (c+1)<9223372036854775808))<|L2 a b (Sp.lz e) (toNat d) b c 0<|replicate (toNat d) 0):=by kernel_rfl
theorem Al(v0 v1:List Int)(a:Nat)(c b:Int)(d:List Int):stepT JS (L1 v0 v1 a c b d)=let e:=getD v0 (toNat b) 0;let b':=ze<|zm zd;.di (b>=0) (.ck (decide (0<=b)&&decide (b<(length v0:Int)))<|.cd (0<(length v1:Int))<|.ck (zt c&&zt e&&zt (getD v1 0 0)&&decide (c<getD v1 0 0))<|.ck (decide (0<=b)&&decide (b<(↑a:Int)))<|.cd (toNat b<length d)<|L1 v0 v1 a (Sp.dr c e<|getD v1 0 0) (zc .i64<|b-1)<|set d (toNat b)<|Sp.dq c e<|getD v1 0 0) (.ck (decide (0+a<=length d)&&true&&C3 (take a d))<|.ck (decide (1<=1)&&true&&C3 [c])<|.leaf (.tup [.dat b'<|Ax<|take a d,.dat b'<|Ax [c]]) []):=by kernel_rfl
def L3(a b:List Int)(v1:Int)(k:Nat)(i:List Int)(g l:Int)(m:List Int)(j:Int)(c:Nat)(d:List Int)(e:Int)(f:Int)(o1:List Int)(h:List Int):Tr:=re ((stepT JS<|L2 a b v1 k i g l m).R.L.L)<|Av 40 [(1,.dat i64 j),(5,.sl 1 1 0 c none),(12,.dat (ze<|zm zd) d),(13,.dat i64 e),(14,.dat i64 f)] [(1,.arr false 216 (zm zd) o1),(0,.arr true 216 (zm zd) h)] 2
theorem AJ(a b:List Int)(v1:Int)(d:Nat)(e:List Int)(f c:Int)(g:List Int):stepT JS (L2 a b v1 d e f c g)=let j:=set g (toNat c)<|aL zd (getD g (toNat c) 0)<|zc .u64<|getD e (toNat c) 0*2^y9 (toNat v1) 64;let b':=(length a:Int)+1;let h:=zc .i64<|c+1;let k:=decide (0<=c)&&decide (c<(↑d:Int));let l:=decide (toNat c<length g);let i:=zc .i64 b';.di (c<f) (.ck (decide (0<=c)&&decide (c<(length e:Int)))<|.ck k<|.ck l<|.cd (0<=v1)<|.ck k<|.ck l<|.di (v1>0) (.cd (0<=zc .i64 (64-v1))<|.ck (decide (0<=zc .i64 (c+1))&&decide (zc .i64 (c+1)<(↑d:Int)))<|.cd (toNat h<length j)<|L2 a b v1 d e f h<|set j (toNat h)<|Int.fdiv (getD e (toNat c) 0)<|2^y9 (toNat<|zc .i64<|64-v1) 64)<|L2 a b v1 d e f h j) (.ck (decide (0+d<=length g)&&true&&C3 (take d g))<|.ck (decide (0<=zc .i64 b')&&decide (zc .i64 b'=zc .i64 b')&&decide (8*toNat i<=281474976710656)&&decide (zc .i64 b'<9223372036854775808))<|L3 a b v1 d e f c g (Sp.lz<|getD b (toNat<|zc .i64<|(length b:Int)-1) 0) (toNat i) a ((length a:Int)) 0 (replicate (toNat i) 0) g):=by kernel_rfl
def L4(v9:Int)(d:List Int)(b:Nat)(e:Int)(a:Nat)(c:Int)(o1 f:List Int):Tr:=re ((stepT JS<|L3 [] [] 0 0 [] 0 0 [] 0 0 [] 0 0 [] []).R.L)<|Av 137 [(9,.dat i64 v9),(10,.dat (ze<|zm zd) d),(11,.sl 0 1 0 b none),(12,.dat i64 e),(13,.sl 1 1 0 a none),(14,.dat i64 c)] [(1,.arr false 216 (zm zd) o1),(0,.arr false 216 (zm zd) f)] 2
theorem Ca(a b:List Int)(v1:Int)(h:Nat)(k:List Int)(i l:Int)(n:List Int)(f:Int)(d:Nat)(e:List Int)(g:Int)(c:Int)(o1:List Int)(j:List Int):stepT JS (L3 a b v1 h k i l n f d e g c o1 j)=let b':=set o1 (toNat c)<|aL zd (getD o1 (toNat c) 0)<|zc .u64<|getD e (toNat c) 0*2^y9 (toNat f) 64;let o:=zc .i64<|c+1;let r:=decide (0<=c)&&decide (c<(↑d:Int));let s:=decide (toNat c<length o1);let h':=Ax<|take h n;let q:=(↑(length h'):Int);let m:=zc .i64 ((length a:Int)-q)+1;let p:=zc .i64 m;.di (c<g) (.ck (decide (0<=c)&&decide (c<(↑(length e):Int)))<|.ck r<|.ck s<|.cd (0<=f)<|.ck r<|.ck s<|.di (f>0) (.cd (0<=zc .i64 (64-f))<|.ck (decide (0<=zc .i64 (c+1))&&decide (zc .i64 (c+1)<(↑d:Int)))<|.cd (toNat o<length b')<|L3 a b v1 h k i l n f d e g o (set b' (toNat o)<|Int.fdiv (getD e (toNat c) 0)<|2^y9 (toNat<|zc .i64<|64-f) 64) j)<|L3 a b v1 h k i l n f d e g o b' j) (.ck (decide (0<=zc .i64 m)&&decide (zc .i64 m=zc .i64 m)&&decide (8*toNat p<=281474976710656)&&decide (zc .i64 m<9223372036854775808))<|L4 (Sp.lz<|getD b (toNat<|zc .i64<|(length b:Int)-1) 0) h' d q (toNat p) (zc .i64<|(length a:Int)-q) (replicate (toNat p) 0) o1):=by kernel_rfl
def L5(v9:Int)(i:List Int)(a:Nat)(e:Int)(b:Nat)(g:Int)(o1 m:List Int)(c h j:Nat)(v1:List Int)(v5 n k l:Int)(f:List Int)(d:List Int):Tr:=re ((stepT JS<|L4 v9 i a e b g o1 m).L.L.L.L.L.L.L.L.L.L)<|Av 186 [(0,.sl 0 1 c h<|Option.some j),(1,.dat (ze<|zm zd) v1),(5,.dat i64 v5),(6,.dat (zm zd) n),(7,.dat (zm zd) k),(8,.dat (zm zd) l)] [(1,.arr false 216 (zm zd) f),(0,.arr false 216 (zm zd) d)] 2
def L6(v9:Int)(b:Nat)(e:Int)(a:Nat)(d c:Int)(o1 f:List Int):Tr:=re ((stepT JS<|L4 0 [] 0 0 0 0 [] []).R)<|Av 137 [(9,.dat i64 v9),(11,.sl 0 1 0 b none),(12,.dat i64 e),(13,.sl 1 1 0 a none),(96,.dat i64 d),(97,.dat i64 c)] [(1,.arr false 216 (zm zd) o1),(0,.arr false 216 (zm zd) f)] 2
theorem CD(v9:Int)(c:List Int)(a:Nat)(e:Int)(d:Nat)(b:Int)(o1 f:List Int):stepT JS (L4 v9 c a e d b o1 f)=let g:=(length c:Int);let i:=zo 0<|toNat b;let p:=zy (z7 none a)<|toNat b;let p':=zc .i64 (b+e)+1;let k:=toNat<|zc .i64<|g-1;let n:=zc .i64 p';let h':=zo (toNat g) i;let l':=decide (zo (toNat g) i<length f);let n':=decide (0<=zc .i64 (g-1));let b':=zy (toNat n)<|toNat b;let m:=n'&&decide (zc .i64 (g-1)<g);let h:=getD f (zo k i) 0;let j:=getD c k 0;let o':=decide (zo k i<length f);let l:=getD f h' 0;let o:=n'&&decide (zc .i64 (g-1)<(↑b':Int));let q:=decide (0<=g)&&decide (g<(↑b':Int));.di (b>=0) (.ck (decide (0<=b)&&decide (0<=zc .i64 p')&&true&&decide (toNat b<=toNat n)&&decide (toNat n<=z7 none a)&&decide (z7 none a<=z7 none a)&&true)<|.ck q<|.ck l'<|.ck m<|.di (getD f h' 0>=getD c k 0) (.ck o<|.ck o'<|.ck m<|.ck (zt h&&zt j&&decide ((0:qf (BC [u64]))<=0)&&decide (0<=(1:qf (BC [u64]))))<|L5 v9 c a e d b o1 f i b' p c g 18446744073709551615 (Ie h j 0) (OW h j 0) o1 f)<|.ck q<|.ck l'<|.ck o<|.ck o'<|.ck m<|.ck (zt l&&zt h&&zt j&&decide (getD f h' 0<getD c k 0))<|L5 v9 c a e d b o1 f i b' p c g (Sp.dq l h j) (Sp.dr l h j) 0 o1 f) (L6 v9 a e d e 0 o1 f):=by kernel_rfl
def L7(v9:Int)(l:List Int)(b:Nat)(j:Int)(c:Nat)(n:Int)(o1 o:List Int)(f k m:Nat)(v1:List Int)(v5 p h:Int)(d:Int)(a e:Int)(i:List Int)(g:List Int):Tr:=re ((stepT JS<|L5 v9 l b j c n o1 o 0 0 0 [] 0 0 0 0 [] []).L.L.L.L)<|Av 186 [(0,.sl 0 1 f k<|Option.some m),(1,.dat (ze<|zm zd) v1),(5,.dat i64 v5),(6,.dat (zm zd) p),(11,.dat (zm zd) h),(12,.dat (zm zd) d),(104,.dat i64 a),(105,.dat i64 e)] [(1,.arr false 216 (zm zd) i),(0,.arr false 216 (zm zd) g)] 2
theorem Eu(v9:Int)(h:List Int)(c:Nat)(g:Int)(d:Nat)(k:Int)(o1 o:List Int)(a e i:Nat)(v1:List Int)(v5 j l q:Int)(f:List Int)(b:List Int):stepT JS (L5 v9 h c g d k o1 o a e i v1 v5 j l q f b)=let b':=toNat<|zc .i64<|v5-2;let n:=L7 v9 h c g d k o1 o a e i v1 v5 j 0 0 v5 0 f b;let p:=getD v1 (toNat<|zc .i64<|v5-1) 0;let r:=decide (0<=zc .i64 (v5-2));let s:Tr:=.ck (decide (0<=zc .i64 (v5-1))&&decide (zc .i64 (v5-1)<(length v1:Int)))<|.ck (zt l&&zt p&&decide ((0:qf (BC [u64]))<=0)&&decide (0<=(1:qf (BC [u64]))))<|L5 v9 h c g d k o1 o a e i v1 v5 (zc .u64<|j-1) (Ie l p 0) (OW l p 0) f b;let m:=getD v1 b' 0;.ite (q==0) (.ck (r&&decide (zc .i64 (v5-2)<(length v1:Int)))<|.ck (zt j&&zt m)<|.di (Rq j m<l) n<|.ite (Rq j m==l) (.ck (r&&decide (zc .i64 (v5-2)<(↑e:Int)))<|.cd (zo b' a<length b)<|.di (Ir j m<=getD b (zo b' a) 0) n s) s) n:=by kernel_rfl
theorem EP(v9:Int)(b:Nat)(d:Int)(c:Nat)(e a:Int)(o1 f:List Int):stepT JS (L6 v9 b d c e a o1 f)=let g:=set f (toNat a)<|Int.fdiv (getD f (toNat a) 0)<|2^y9 (toNat v9) 64;let b':=decide (0<=a)&&decide (a<(↑b:Int));let h:=zc .i64<|a+1;let k:=decide (zc .i64 (a+1)<(↑b:Int));let j:=decide (toNat a<length f);let h':=ze<|zm zd;let l:=L6 v9 b d c e h o1 g;let i:=decide (toNat a<length g);.di (a<e) (.ck b'<|.ck j<|.cd (0<=v9)<|.ck b'<|.ck j<|.di (v9>0) (.ite k (.ck b'<|.ck i<|.ck (decide (0<=zc .i64 (a+1))&&k)<|.cd (toNat h<length g)<|.cd (0<=zc .i64 (64-v9))<|.ck b'<|.ck i<|L6 v9 b d c e h o1<|set g (toNat a)<|aL zd (getD g (toNat a) 0)<|zc .u64<|getD g (toNat h) 0*2^y9 (toNat<|zc .i64<|64-v9) 64) l) l) (.ck (decide (0<=d)&&true&&decide (0<=toNat d)&&decide (toNat d<=z7 none b)&&decide (z7 none b<=z7 none b)&&true)<|.ck (decide (0+c<=length o1)&&true&&C3 (take c o1))<|.ck (decide (0+toNat d<=length f)&&true&&C3 (take (toNat d) f))<|.leaf (.tup [.dat h'<|Ax<|take c o1,.dat h'<|Ax<|take (toNat d) f]) []):=by kernel_rfl
def L8(v9:Int)(j:List Int)(b:Nat)(h:Int)(c:Nat)(l:Int)(o1 n:List Int)(e i k:Nat)(v1:List Int)(v5 o m a d:Int)(g:List Int)(f:List Int):Tr:=re ((stepT JS<|L7 v9 j b h c l o1 n 0 0 0 [] 0 0 0 0 0 0 [] []).R.L.L.L.L.L.R)<|Av 186 [(0,.sl 0 1 e i<|Option.some k),(1,.dat (ze<|zm zd) v1),(5,.dat i64 v5),(6,.dat (zm zd) o),(17,.dat (zm zd) m),(156,.dat i64 a),(157,.dat i64 d)] [(1,.arr false 216 (zm zd) g),(0,.arr false 216 (zm zd) f)] 2
theorem DT(v9:Int)(m:List Int)(h:Nat)(l:Int)(d:Nat)(e:Int)(o1 s:List Int)(f k n:Nat)(v1:List Int)(v5 o c:Int)(b:Int)(i a:Int)(j:List Int)(g:List Int):stepT JS (L7 v9 m h l d e o1 s f k n v1 v5 o c b i a j g)=let b':=zo (toNat v5) f;let t:=getD v1 (toNat a) 0;let z:=decide (zo (toNat a) f<length g);let w:=decide (zo (toNat v5) f<length g);let h':=decide (0<=a)&&decide (a<(↑k:Int));let u:=(0:qf (BC [u64]));let v:=(1:qf (BC [u64]));let x:=decide (0<=v5)&&decide (v5<(↑k:Int));let n':=zo (toNat a) f;let r:=Ir o t;let p:=getD g n' 0;let q:=getD g b' 0;let y:=set g b'<|Uc q b c;let l':=Ie r b 0;.di (a<i) (.ck (decide (0<=a)&&decide (a<(length v1:Int)))<|.ck (zt o&&zt t)<|.ck (zt r&&zt b&&decide (u<=0)&&decide (0<=v))<|.ck h'<|.ck z<|.ck (zt p&&zt l'&&decide (u<=c)&&decide (c<=v))<|.ck h'<|.ck z<|L7 v9 m h l d e o1 s f k n v1 v5 o (QW p l' c) (zc .u64<|Rq o t+OW r b 0) i (zc .i64<|a+1) j<|set g n'<|Uc p l' c) (.ck x<|.ck w<|.ck (zt q&&zt b&&decide (u<=c)&&decide (c<=v))<|.ck x<|.ck w<|.ite (QW q b c==0) (.ck (decide (0<=e)&&decide (e<(↑d:Int)))<|.cd (toNat e<length j)<|L4 v9 m h l d (zc .i64<|e-1) (set j (toNat e) o) y)<|L8 v9 m h l d e o1 s f k n v1 v5 o 0 v5 0 j y):=by kernel_rfl
theorem Hu(v9:Int)(l:List Int)(h:Nat)(k:Int)(d:Nat)(c:Int)(o1 s:List Int)(e j m:Nat)(v1:List Int)(v5 p f g a:Int)(i:List Int)(b:List Int):stepT JS (L8 v9 l h k d c o1 s e j m v1 v5 p f g a i b)=let b':=decide (zo (toNat a) e<length b);let n:=getD v1 (toNat a) 0;let t:=decide (zo (toNat v5) e<length b);let u:=decide (0<=a)&&decide (a<(↑j:Int));let r:=decide (0<=v5)&&decide (v5<(↑j:Int));let q:=zo (toNat a) e;let h':=zo (toNat v5) e;let o:=getD b q 0;.di (a<g) (.ck u<|.ck b'<|.ck (decide (0<=a)&&decide (a<(length v1:Int)))<|.ck (zt o&&zt n&&decide ((0:qf (BC [u64]))<=f)&&decide (f<=(1:qf (BC [u64]))))<|.ck u<|.ck b'<|L8 v9 l h k d c o1 s e j m v1 v5 p (OW o n f) g (zc .i64<|a+1) i<|set b q<|Ie o n f) (.ck r<|.ck t<|.ck r<|.ck t<|.ck (decide (0<=c)&&decide (c<(↑d:Int)))<|.cd (toNat c<length i)<|L4 v9 l h k d (zc .i64<|c-1) (set i (toNat c)<|zc .u64<|p-1)<|set b h'<|zc .u64<|getD b h' 0+f):=by kernel_rfl
end T212
end
namespace T212
variable {Q:PV->Ob->Prop}
theorem dqr{r x d:Int}(a:0<d)(hr:0<=r/\r<d)(b:0<=x/\x<18446744073709551616):Sp.dq r x d*d+Sp.dr r x d=r*18446744073709551616+x/\0<=Sp.dq r x d/\Sp.dq r x d<18446744073709551616/\0<=Sp.dr r x d/\Sp.dr r x d<d:=by
 unfold Sp.dq Sp.dr;have h:=yj (r*18446744073709551616+x) d;rw[zp]at h;refine⟨h,Int.ediv_nonneg ae ae,Int.ediv_lt_of_lt_mul a ae,Int.emod_nonneg _ ae,Int.emod_lt_of_pos _ a⟩
theorem Aq(a:List Int)(d:Int)(g:Aw Ao a)(e:0<d/\d<18446744073709551616)(u:a.length<=20000)(h:∀q r ob,Aw Ao q->(0<=r/\r<d)->As a=As q*d+r->Q (.tup [.dat Dz<|Ax q,.dat Dz<|Ax [r]]) ob):∀(i:Nat) (q:List Int) (r:Int),i+q.length=a.length->Aw Ao q->(0<=r/\r<d)->zf Ao (a.drop i)=zf Ao q*d+r->
  Ends JS (L1 a [d] a.length r ((i:Int)-1)<|zx i 0++q) Q
 |0,q,r,t,b,hr,f=>by
  have o:((zx 0 0++q).take a.length)=q:=by
   rw[List.replicate_zero,List.nil_append];exact yb ae
  refine yu (Al ..) (Ends.ff (by simp) ?_);rw[o];refine zg (Ab (by simp;omega)<|Ep ae b) (zg (Ab rfl (Ep (by simp)<|fun x c=>by rw[List.mem_singleton]at c;subst c;exact⟨hr.1,by show x<18446744073709551616;omega⟩))<|Ends.leaf<|h q r _ b hr f)
 |i+1,q,r,t,b,hr,f=>by
  have p:(((i+1:Nat):Int)-1)=(i:Int):=ae
  have j:=AX g i;obtain⟨v,m,n,s,l⟩:=dqr e.1 hr<|yp j;have k:a.drop i=a.getD i 0::a.drop (i+1):=by
   rw[zu,yf ae];exact yt ae
  have es:∀x,(zx (i+1) (0:Int)++q).set i x=zx i 0++(x::q):=by
   intro x;rw[yk,yc];exact DD _ _ _ _ (by simp)
  rw[p];refine yu (Al ..) (zg (by simp) ?_);rw[zn,es,wr ((i:Int)-1) ae ae];refine zg (by simp;omega) (zg (by simp) (zg ?_ (zg (by simp;omega)<|zg (by simp;omega) ?_)))
  ·exact Ab (Ab (Ab (CX hr.1 ae) j)<|CX (by show 0<=d;omega) e.2)<|w4 hr.2
  ·refine Aq a d g e u h i _ _ (by simp;omega) (fun x c=>?_) ⟨s,l⟩ ?_
   ·rcases List.mem_cons.1 c with rfl|c
    ·exact⟨m,n⟩
    ·exact b x c
   ·rw[k];show a.getD i 0+(18446744073709551616:Int)*zf Ao (a.drop<|i+1)=(Sp.dq r (a.getD i 0) d+(18446744073709551616:Int)*zf Ao q)*d+Sp.dr r (a.getD i 0) d;rw[f,zw,zr,zk];omega
end T212
end Go.Pe
namespace Go.Sp
theorem Ve{B P u0 u1 u2 a v1 v2 v' q r:Int}(d:0<P)(g:0<=v')(k:a<P)(f:0<=q)(j:q*v1+r=u0*B+u1)(h:r*B+u2<q*v2):
  ((u0*B+u1)*B+u2)*P+a<q*((v1*B+v2)*P+v'):=by
 have e:q*(v1*B+v2)=q*v1*B+q*v2:=by rw[zr,zk]
 have c:(u0*B+u1)*B=q*v1*B+r*B:=by rw[<-j,zw]
 have b:(u0*B+u1)*B+u2+1<=q*(v1*B+v2):=by rw[e,c];omega
 have i:=zj b<|z8 d;have l:0<=q*v':=yd f g;rw[zr q, <-zk];rw[zw,z6]at i;omega
theorem Um{B P u0 u1 u2 c v1 v2 v' q r:Int}(a:0<P)(g:0<=v'/\v'<P)(o:0<=c)(m:0<=q/\q<B)(b:1<=v1)(k:0<=v2)(l:q*v1+r=u0*B+u1)(h:q*v2<=r*B+u2):
  q*((v1*B+v2)*P+v')<((u0*B+u1)*B+u2)*P+c+((v1*B+v2)*P+v'):=by
 have e:q*(v1*B+v2)=q*v1*B+q*v2:=by rw[zr,zk]
 have i:(u0*B+u1)*B=q*v1*B+r*B:=by rw[<-l,zw]
 have d:q*(v1*B+v2)<=(u0*B+u1)*B+u2:=by rw[e,i];omega
 have n:=zj d<|z8 a;have f:q*v'<=(B-1)*P:=Int.le_trans (zz (z8 g.2) m.1) (zj ae<|z8 a);have j:B<=v1*B+v2:=by
  have:=zj b (show 0<=B by omega);omega
 have p:=zj j<|z8 a;rw[yz,z6]at f;rw[zr q, <-zk];omega
theorem HW(b:Int):∀(l:List Int) (i:Nat) (x:Int),i<l.length->val b (l.set i x)=val b l+b^i*(x-l.getD i 0)
 |[],i,x,h=>by simp at h
 |d::l,0,x,_=>by
  show x+b*val b l=d+b*val b l+b^0*(x-d);rw[Int.pow_zero,z6];omega
 |d::l,i+1,x,h=>by
  have:=HW b l i x (by simpa using h);show d+b*val b (l.set i x)=d+b*val b l+b^(i+1)*(x-l.getD i 0);rw[this,zr,yi,zp (b^i) b,zk,Int.add_assoc]
theorem G4{b:Int}{l:List Int}(h:Aw b l)(i:Nat){x:Int}(c:0<=x/\x<b):Aw b (l.set i x):=by
 intro d a;rcases List.mem_or_eq_of_mem_set a with a|rfl
 ·exact h d a
 ·exact c
theorem Fj{b:Int}{l r:List Int}(c:Aw b l)(e:Aw b r):Aw b (l++r):=by
 intro d a;rcases yw.1 a with a|a
 ·exact c d a
 ·exact e d a
theorem Km{b:Int}(c:0<b){l:List Int}(h:Aw b l)(i:Nat):0<=l.getD i 0/\l.getD i 0<b:=by
 rcases Nat.lt_or_ge i l.length with a|a
 ·have:l.getD i 0∈l:=by rw[zu,yf a];exact List.getElem_mem a
  exact h _ this
 ·rw[zu,List.getElem?_eq_none a];exact⟨Int.le_refl _,c⟩
theorem Cn{l:List Int}{i:Nat}(h:i<l.length):l.drop i=l.getD i 0::l.drop (i+1):=by
 rw[zu,yf h];exact yt h
theorem Hj(p r:List Int)(i j:Nat)(h:p.length=j):(p++r).getD (i+j) 0=r.getD i 0:=by
 subst h;rw[zu,zu,List.getElem?_append_right ae,yg]
theorem S2(p r:List Int)(i j:Nat)(x:Int)(h:p.length=j):(p++r).set (i+j) x=p++r.set i x:=by
 subst h;rw[List.set_append_right _ _ ae,yg]
theorem wO(b:Int)(r:List Int)(k:Nat)(c:k+3<=r.length)(f:val b (r.drop<|k+3)=0):
  val b r=((r.getD (k+2) 0*b+r.getD (k+1) 0)*b+r.getD k 0)*b^k+val b (r.take k):=by
 have a:b^(k+1)=b^k*b:=yi ..;have e:b^(k+2)=b^k*b*b:=by rw[<-a];exact yi ..
 rw[Cq b r (k+3) c,f,AH,AH,AH,a,e,qc,qd];generalize b^k=P;generalize r.getD (k+2) 0=x;generalize r.getD (k+1) 0=y;generalize r.getD k 0=z;have i:P*b*b*x=x*b*b*P:=by rw[zp (P*b*b) x,zp P b,zk b P b,zp P b, <-zk, <-zk]
 have h:P*b*y=y*b*P:=by rw[zp (P*b) y,zp P b,zk]
 have g:P*z=z*P:=zp _ _;have d:((x*b+y)*b+z)*P=x*b*b*P+y*b*P+z*P:=by rw[zw,zw,zw]
 rw[d];omega
theorem uX(b:Int)(v:List Int)(k:Nat)(e:v.length=k+2):
  val b v=(v.getD (k+1) 0*b+v.getD k 0)*b^k+val b (v.take k):=by
 have h0:val b (v.drop<|k+2)=0:=by rw[List.drop_eq_nil_of_le ae];rfl
 have d:b^(k+1)=b^k*b:=yi ..;rw[Cq b v (k+2) ae,h0,AH,AH,d,qc,qd];generalize b^k=P;generalize v.getD (k+1) 0=y;generalize v.getD k 0=z;have a:P*b*y=y*b*P:=by rw[zp (P*b) y,zp P b,zk]
 have c:P*z=z*P:=zp _ _;rw[a,c,zw];omega
theorem kG{b:Int}(f:2<=b){v:List Int}(c:Aw b v)(e:nz v){k:Nat}(d:b^k<=val b v)(g:val b v<b^(k+1)):v.length=k+1:=by
 have hp:=AR (show 0<b by omega) k;have a:v≠[]:=by rintro rfl;simp[val]at d;omega
 have a1:=Bs ae c;have a2:=Dw ae c e a;rcases Nat.lt_trichotomy v.length (k+1)with h|h|h
 ·have:=AM (show 1<=b by omega) (show v.length<=k by omega);omega
 ·exact h
 ·have:=AM (show 1<=b by omega) (show k+1<=v.length-1 by omega);omega
theorem Jh{b:Int}(e:2<=b){r:List Int}(a:Aw b r){n:Nat}(c:n<=r.length)(h:val b r<b^n):val b (r.drop n)=0:=by
 have h0:=AD (show 0<=b by omega)<|E1 a n;have d:=AD (show 0<=b by omega)<|AQ a n;rw[Cq b r n c]at h;have hp:=AR (show 0<b by omega) n;rcases qe 0 (val b<|r.drop n)with g|g
 ·have:=zz (show 1<=val b (r.drop n)by omega) (show 0<=b^n by omega);omega
 ·omega
theorem RY{b:Int}(d:2<=b){r:List Int}(c:Aw b r){n:Nat}(a:n<=r.length)(h:val b (r.drop n)=0):val b r<b^n:=by
 have:=Bs (show 0<b by omega)<|AQ c n;rw[ye,yq a]at this;rw[Cq b r n a,h];omega
theorem nJ{b c d x y X:Int}(l:0<c)(f:b=c*d):(x+b*(y+b*X))/c=(x/c+(y % c)*d)+b*((y+b*X)/c):=by
 subst f;have a:(x+c*d*(y+c*d*X))/c=x/c+d*(y+c*d*X):=by
  rw[zk c d,Int.add_mul_ediv_left _ _ ae]
 have h:(y+c*d*X)/c=y/c+d*X:=by
  rw[zk c d,Int.add_mul_ediv_left _ _ ae]
 have e:=yj y c;rw[a,h];have j:d*(y+c*d*X)=d*(c*(y/c)+y % c+c*d*X):=by rw[e]
 rw[j,zr,zr,zr<|c*d];have i:d*(c*(y/c))=c*d*(y/c):=by rw[<-zk,zp d c]
 have g:d*(y % c)=(y % c)*d:=zp _ _;have k:d*(c*d*X)=c*d*(d*X):=by rw[<-zk,zp d<|c*d,zk]
 rw[i,g,k];omega
theorem VI{b c d x k:Int}(o:0<c)(f:0<d)(g:b=c*d)(l:0<=k/\k<c)(a:0<=x/\x<b):
  (x*c) % b=(x % d)*c/\(x % d)*c+k<b/\0<=(x % d)*c/\0<=x/d/\x/d<c/\(x % d)*c+b*(x/d)=x*c:=by
 subst g;have i:=yj x d;have h:=Int.emod_nonneg x (show d≠0 by omega);have n:=Int.emod_lt_of_pos x f;have q0:0<=x/d:=Int.ediv_nonneg a.1 ae;have q1:x/d<c:=Int.ediv_lt_of_lt_mul f (by have:=a.2;omega);have p0:0<=(x % d)*c:=yd h ae;have j:(x % d)*c<=(d-1)*c:=zj ae ae;have m:(d-1)*c=c*d-c:=by rw[yz,z6,zp]
 have e:(x % d)*c+c*d*(x/d)=x*c:=by
  conv=>rhs;rw[<-i]
  rw[zw,zk c d,zp c<|d*(x/d)];omega
 refine⟨?_,by omega,p0,q0,q1,e⟩;rw[<-e,Int.add_mul_emod_self_left];exact Int.emod_eq_of_lt p0 ae
theorem M9{B P u0 u1 u2 b v1 v2 v' q r:Int}(c:0<P)(f:0<B)(s:0<=q)(i:0<=v')(a:0<=v2)(n:b<P)(k:u2<B)(p:q*v1+r=u0*B+u1)(h:r<v1):
  ((u0*B+u1)*B+u2)*P+b<(q+1)*((v1*B+v2)*P+v'):=by
 have d:u0*B+u1+1<=(q+1)*v1:=by rw[zw,z6];omega
 have j:=zj d<|z8 f;have g:(u0*B+u1)*B+u2+1<=(q+1)*v1*B:=by
  rw[zw,z6]at j;omega
 have l:=zj g<|z8 c;rw[zw,z6]at l;have o:0<=(q+1)*(v2*P):=yd ae<|yd a<|z8 c;have m:0<=(q+1)*v':=yd ae i;have e:(q+1)*((v1*B+v2)*P+v')=(q+1)*v1*B*P+(q+1)*(v2*P)+(q+1)*v':=by
  rw[zw<|v1*B,zr,zr];congr 2;rw[zk,zk,zk]
 rw[e];omega
end Go.Sp
namespace Go.Pe
open Sp
open Go.Det
theorem VG{q x y c b:Int}(d:zt q=true)(e:zt x=true)(j:zt y=true)(g:zt c=true)(i:0<=b/\b<=1):
  zt (Ir q x)=true/\zt (Ie (Ir q x) c 0)=true/\zc .u64 (Rq q x+OW (Ir q x) c 0)=(q*x+c)/18446744073709551616/\zt ((q*x+c)/18446744073709551616)=true/\
  zt (Uc y (Ie (Ir q x) c 0) b)=true/\(0<=QW y (Ie (Ir q x) c 0) b/\QW y (Ie (Ir q x) c 0) b<=1)/\
  c+b+(Uc y (Ie (Ir q x) c 0) b-y)=18446744073709551616*((q*x+c)/18446744073709551616+QW y (Ie (Ir q x) c 0) b)-q*x:=by
 have d:=yp d;have e:=yp e;have g:=yp g;have h0:0<=q*x:=yd d.1 e.1;have k:q*x<=18446744073709551615*18446744073709551615:=by
  have a:=zz (show x<=18446744073709551615 by omega) d.1;have b:=zj (show q<=18446744073709551615 by omega) (show(0:Int)<=18446744073709551615 by omega);omega
 have f:zt (Ie (Ir q x) c 0)=true:=by unfold Ie;exact CX ae ae
 obtain⟨s1,s2,s3⟩:=Sp.Ha j f i;refine⟨?_,f,?_,?_,s1,s2,?_⟩
 ·unfold Ir;exact CX ae ae
 ·unfold Ir Rq OW;rw[LW];generalize q*x=P at*;omega
 ·generalize q*x=P at*;exact CX ae ae
 ·generalize QW y (Ie (Ir q x) c 0) b=h at*;generalize Uc y (Ie (Ir q x) c 0) b=l at*;unfold Ie Ir at s3;generalize q*x=P at*;omega
namespace T212
variable {Q:PV->Ob->Prop}
theorem gw{lo r:List Int}{j:Nat}(h:lo.length=j)(i:Nat):(lo++r).getD (zo i j) 0=r.getD i 0:=Hj lo r i j h
theorem sw{lo r:List Int}{j:Nat}(h:lo.length=j)(i:Nat)(x:Int):(lo++r).set (zo i j) x=lo++r.set i x:=S2 lo r i j x h
theorem lw{lo r:List Int}{j i:Nat}(h:lo.length=j)(a:i<r.length):decide (zo i j<(lo++r).length)=true:=by
 refine w4 ?_;show i+j<_;rw[List.length_append];omega
theorem JG(r:List Int)(i n:Nat)(x:Int)(h:i<n):(r.set i x).drop n=r.drop n:=by
 rw[List.drop_set,wd h]
theorem Cz(v9:Int)(l:List Int)(f:Nat)(o:Int)(a:Nat)(o1 D:List Int)(s:Nat)(v:List Int)(n j:Nat)(lo:List Int)(m:Nat)(q W:Int)(h:List Int)
  (P:v.length=n) (C:n<=9000) (Z:n+1<=m) (d:lo.length=j) (E:j<a) (u:j<h.length) (M:Aw Ao v) (F:zt q=true)
  (h0:∀r:List Int,r.length=m->Aw Ao r->zf Ao (r.drop<|n+1)=0->zf Ao r=W-q*zf Ao v->Ends JS (L4 v9 l f o a (zc .i64<|(j:Int)-1) (h.set j q)<|lo++r) Q)
  (K:∀r:List Int,r.length=m->Aw Ao r->zf Ao (r.drop<|n+1)=0->zf Ao r=W-q*zf Ao v+(Ao:Int)^(n+1)->Ends JS (L8 v9 l f o a j o1 D j (n+1) s v n q 0 n 0 h<|lo++r) Q):
  ∀(k i:Nat) (r:List Int) (b c:Int),i+k=n->r.length=m->Aw Ao r->zf Ao (r.drop<|n+1)=0->zt c=true->(0<=b/\b<=1)->zf Ao r=W-q*zf Ao (v.take i)+(Ao:Int)^i*(c+b)->
   Ends JS (L7 v9 l f o a j o1 D j (n+1) s v n q b c n i h<|lo++r) Q
 |0,i,r,b,c,H,hr,y,I,A,p,J=>by
  have H:i=n:=ae
  subst H;have w:=AX y i;obtain⟨s1,s2,s3⟩:=Sp.Ha w A p;have g:decide (zo i j<(lo++r).length)=true:=lw d ae;have t1:(decide ((0:Int)<=(i:Int))&&decide ((i:Int)<((i+1:Nat):Int)))=true:=by simp;omega
  have G:v.take i=v:=yb ae;have z:∀x:Int,0<=x/\x<18446744073709551616->(r.set i x).length=m/\Aw Ao (r.set i x)/\zf Ao ((r.set i x).drop<|i+1)=0:=fun x T=>
   ⟨by simp[hr],G4 y i T,by rw[JG _ _ _ _ ae];exact I⟩
  obtain⟨N,B,L⟩:=z _<|yp s1;have ev:zf Ao (r.set i<|Uc (r.getD i 0) c b)=W-q*zf Ao v+(Ao:Int)^(i+1)*QW (r.getD i 0) c b:=by
   rw[HW _ _ _ _ ae,J,G,LG,Int.add_assoc, <-zr];congr 2;omega
  refine yu (DT ..) (Ends.ff (by simp) ?_);rw[zn,zn,gw d,sw d];refine zg t1<|zg g<|zg (Ab (Ab (Ab w A)<|w4 p.1)<|w4 p.2)<|zg t1<|zg g<|y7 (fun t=>?_)<|fun t=>?_
  ·have t:QW (r.getD i 0) c b=0:=by simpa using t
   refine zg (by simp;omega)<|zg (w4 u)<|h0 _ N B L ?_;rw[ev,t,qc,qd]
  ·have t:QW (r.getD i 0) c b≠0:=by simpa using t
   refine K _ N B L ?_;rw[ev,show QW (r.getD i 0) c b=1 by omega,Int.mul_one]
 |k+1,i,r,b,c,H,hr,y,I,A,p,J=>by
  have O:=AX M i;have w:=AX y i;obtain⟨m1,V,Y,U,X,R,S⟩:=VG F O w A p;have g:decide (zo i j<(lo++r).length)=true:=lw d ae;have t1:(decide ((0:Int)<=(i:Int))&&decide ((i:Int)<((n+1:Nat):Int)))=true:=by simp;omega
  have B:=wn (i:=i) ae;refine yu (DT ..) (zg (by simp;omega) ?_);rw[zn,gw d,sw d,Y,B];refine zg (by simp;omega)<|zg (Ab F O)<|zg (Ab (Ab (Ab m1 A) rfl) rfl)<|zg t1<|zg g<|zg (Ab (Ab (Ab w V)<|w4 p.1)<|w4 p.2)<|zg t1<|zg g ?_;refine Cz v9 l f o a o1 D s v n j lo m q W h P C Z d E u M F h0 K k (i+1) _ _ _ ae (by simp[hr]) (G4 y i<|yp X) (by rw[JG _ _ _ _ ae];exact I) U R ?_;rw[HW _ _ _ _ ae,J,LG,AH,zr q,Int.mul_left_comm q];have e:(Ao:Int)^i*(c+b)+(Ao:Int)^i*(Uc (r.getD i 0) (Ie (Ir q<|v.getD i 0) c 0) b-r.getD i 0)=(Ao:Int)^i*(18446744073709551616*((q*v.getD i 0+c)/18446744073709551616+QW (r.getD i 0) (Ie (Ir q<|v.getD i 0) c 0) b))-(Ao:Int)^i*(q*v.getD i 0):=by
   rw[<-zr, <-yv,S]
  omega
theorem FG(v9:Int)(o:List Int)(h:Nat)(p:Int)(d:Nat)(o1 I:List Int)(u:Nat)(v:List Int)(n j:Nat)(lo:List Int)(m:Nat)(q W:Int)(l:List Int)
  (N:v.length=n) (B:n<=9000) (M:n+1<=m) (a:lo.length=j) (C:j<d) (t:j<l.length) (G:Aw Ao v)
  (hW:0<=W+zf Ao v)
  (h0:∀r:List Int,r.length=m->Aw Ao r->zf Ao (r.drop<|n+1)=0->zf Ao r=W+zf Ao v->Ends JS (L4 v9 o h p d (zc .i64<|(j:Int)-1) (l.set j<|zc .u64<|q-1)<|lo++r) Q):
  ∀(k i:Nat) (r:List Int) (c:Int),i+k=n->r.length=m->Aw Ao r->zf Ao (r.drop<|n+1)=0->(0<=c/\c<=1)->zf Ao r=W+(Ao:Int)^(n+1)+zf Ao (v.take i)-(Ao:Int)^i*c->
   Ends JS (L8 v9 o h p d j o1 I j (n+1) u v n q c n i l<|lo++r) Q
 |0,i,r,c,E,hr,s,y,w,A=>by
  have E:i=n:=ae
  subst E;have z:=yp<|AX s i;have f:decide (zo i j<(lo++r).length)=true:=lw a ae;have t1:(decide ((0:Int)<=(i:Int))&&decide ((i:Int)<((i+1:Nat):Int)))=true:=by simp;omega
  have D:v.take i=v:=yb ae;have K:0<=(r.getD i 0+c) % 18446744073709551616/\(r.getD i 0+c) % 18446744073709551616<18446744073709551616:=ae
  have L:(r.set i<|(r.getD i 0+c) % 18446744073709551616).length=m:=by simp[hr]
  have x:Aw Ao (r.set i<|(r.getD i 0+c) % 18446744073709551616):=G4 s i K;have F:zf Ao ((r.set i<|(r.getD i 0+c) % 18446744073709551616).drop<|i+1)=0:=by rw[JG _ _ _ _ ae];exact y
  have J:=RY (b:=Ao) af x (n:=i+1) ae F;refine yu (Hu ..) (Ends.ff (by simp) ?_);rw[zn,zn,gw a,sw a,LW<|r.getD i 0+c];refine zg t1 (zg f<|zg t1<|zg f<|zg (by simp;omega)<|zg (w4 t)<|h0 _ L x F ?_);have hp:=AR (b:=Ao) af i;rw[HW _ _ _ _ ae,A,D]at J ⊢;rcases show(r.getD i 0+c) % 18446744073709551616=r.getD i 0+c\/(r.getD i 0+c) % 18446744073709551616=r.getD i 0+c-18446744073709551616 by omega with g|g
  ·exfalso;rw[g,show r.getD i 0+c-r.getD i 0=c by omega]at J;omega
  ·have O:(Ao:Int)^(i+1)=(Ao:Int)^i*18446744073709551616:=yi ..;rw[g,show r.getD i 0+c-18446744073709551616-r.getD i 0=c-18446744073709551616 by omega,yv,O];omega
 |k+1,i,r,c,E,hr,s,y,w,A=>by
  have H:=AX G i;have z:=AX s i;obtain⟨R,P,S⟩:=Ma z H w;have f:decide (zo i j<(lo++r).length)=true:=lw a ae;have t1:(decide ((0:Int)<=(i:Int))&&decide ((i:Int)<((n+1:Nat):Int)))=true:=by simp;omega
  have x:=wn (i:=i) ae;refine yu (Hu ..) (zg (by simp;omega) ?_);rw[zn,gw a,sw a,x];refine zg t1 (zg f (zg (by simp;omega)<|zg (Ab (Ab (Ab z H)<|w4 w.1)<|w4 w.2)<|zg t1<|zg f ?_));refine FG v9 o h p d o1 I u v n j lo m q W l N B M a C t G hW h0 k (i+1) _ _ ae (by simp[hr]) (G4 s i<|yp R) (by rw[JG _ _ _ _ ae];exact y) P ?_;rw[HW _ _ _ _ ae,A,LG,AH];have e:(Ao:Int)^i*(Ie (r.getD i 0) (v.getD i 0) c-r.getD i 0)-(Ao:Int)^i*c=(Ao:Int)^i*v.getD i 0-(Ao:Int)^i*(18446744073709551616*OW (r.getD i 0) (v.getD i 0) c):=by
   rw[<-yv, <-yv];congr 1;omega
  omega
theorem sB(v9:Int)(k:List Int)(f:Nat)(l:Int)(e:Nat)(o1 x:List Int)(p:Nat)(v:List Int)(n j:Nat)(lo:List Int)(m:Nat)(i h:List Int)
  (z:v.length=n) (t:n<=9000) (C:n+1<=m) (w:lo.length=j) (u:j<e) (s:j<h.length) (y:Aw Ao v)
  (hr:i.length=m) (B:Aw Ao i) (I:zf Ao (i.drop<|n+1)=0)
  (o:∀(q:Int) (r:List Int),r.length=m->Aw Ao r->(0<=q/\q<18446744073709551616)->zf Ao r<zf Ao v->zf Ao r=zf Ao i-q*zf Ao v->Ends JS (L4 v9 k f l e (zc .i64<|(j:Int)-1) (h.set j q)<|lo++r) Q)
  (q:Int) (A:zt q=true) (D:zf Ao i<(q+1)*zf Ao v) (P:q*zf Ao v<zf Ao i+zf Ao v):
  Ends JS (L7 v9 k f l e j o1 x j (n+1) p v n q 0 0 n 0 h<|lo++i) Q:=by
 have L:=yp A;have J:=AD (b:=Ao) af B;have M:=AD (b:=Ao) af y;rw[zw,z6]at D;refine Cz v9 k f l e o1 x p v n j lo m q (zf Ao i) h z t C w u s y A (fun r a b c d=>o q r a b L ae d) (fun r a b c d=>?_) n 0 i 0 0 ae hr B I af af (by simp[zf]);have N:=RY (b:=Ao) af b (n:=n+1) ae c;have G:1<=q:=by
  rcases qe 0 q with g|g
  ·exact g
  ·have:q=0:=ae
   subst this;rw[Int.zero_mul]at d;omega
 have E:zc .u64 (q-1)=q-1:=wu _ ae ae;refine FG v9 k f l e o1 x p v n j lo m q (zf Ao i-q*zf Ao v) h z t C w u s y ae (fun K F b' O H=>?_) n 0 r 0 ae a b c af (by rw[d];simp[zf]);rw[E];refine o (q-1) K F b' ae ae ?_;rw[H,yz,z6];omega
theorem AeE(q x:Int):Rq q x*18446744073709551616+Ir q x=q*x/\0<=Ir q x/\Ir q x<18446744073709551616:=by
 unfold Rq Ir;generalize q*x=P;omega
theorem CN(v9:Int)(n:List Int)(h:Nat)(p:Int)(d:Nat)(o1 H:List Int)(s:Nat)(v:List Int)(k j:Nat)(lo:List Int)(m:Nat)(e i:List Int)
  (V:v.length=k+2) (G:k+2<=9000) (Y:k+3<=m) (u:lo.length=j) (I:j<d) (F:j<i.length) (A:Aw Ao v)
  (hr:e.length=m) (C:Aw Ao e) (S:zf Ao (e.drop<|k+3)=0) (J:1<=v.getD (k+1) 0)
  (w:∀(q:Int) (r:List Int),r.length=m->Aw Ao r->(0<=q/\q<18446744073709551616)->zf Ao r<zf Ao v->zf Ao r=zf Ao e-q*zf Ao v->Ends JS (L4 v9 n h p d (zc .i64<|(j:Int)-1) (i.set j q)<|lo++r) Q):
  ∀(f:Nat) (q r o:Int),0<=q->q<f->q<18446744073709551616->zt r=true->(o=0\/o=1)->q*v.getD (k+1) 0+(r+18446744073709551616*o)=e.getD (k+2) 0*18446744073709551616+e.getD (k+1) 0->zf Ao e<(q+1)*zf Ao v->
   Ends JS (L5 v9 n h p d j o1 H j (k+3) s v ((k+2:Nat):Int) q r o i<|lo++e) Q
 |0,q,r,o,h0,hf,_,_,_,_,_=>by omega
 |f+1,q,r,o,h0,hf,hB,l,ho,he,R=>by
  have Z:zt q=true:=CX h0 hB;have L:=AX A k;have t:=AX A<|k+1;have P:=AX C k;have W:=yp L;have gv1:=yp t;have gu2:=yp P;have gr:=yp l;have X:=AR (b:=Ao) af k;have hW:=wO Ao e k ae S;have hV:=uX Ao v k V;have T:=AD (b:=Ao) af<|AQ C k;have x:=Bs (b:=Ao) af<|AQ C k;have K:=AD (b:=Ao) af<|AQ A k;have y:=Bs (b:=Ao) af<|AQ A k;rw[ye,yq ae]at x y;have exit:q*v.getD k 0<=(r+18446744073709551616*o)*18446744073709551616+e.getD k 0->Ends JS (L7 v9 n h p d j o1 H j (k+3) s v ((k+2:Nat):Int) q 0 0 ((k+2:Nat):Int) 0 i<|lo++e) Q:=by
   intro N;refine sB v9 n h p d o1 H s v (k+2) j lo m e i V G Y u I F A hr C S w q Z R ?_;rw[hW,hV];exact Um X ⟨K,y⟩ T ⟨h0,hB⟩ J W.1 he N
  have e1:zc .i64 (((k+2:Nat):Int)-2)=(k:Int):=by rw[wr _ ae ae];omega
  have e2:zc .i64 (((k+2:Nat):Int)-1)=((k+1:Nat):Int):=by rw[wr _ ae ae];omega
  obtain⟨w1,w2,w3⟩:=AeE q<|v.getD k 0;have O:decide (zo k j<(lo++e).length)=true:=lw u ae;refine yu (Eu ..)<|y7 (fun c=>?_)<|fun c=>?_
  ·have c:o=0:=by simpa using c
   subst c;rw[e1,e2,zn,zn,gw u];refine zg (by simp;omega)<|zg (Ab Z L) ?_;have M:r*18446744073709551616+e.getD k 0<q*v.getD k 0->Ends JS (L5 v9 n h p d j o1 H j (k+3) s v ((k+2:Nat):Int) (zc .u64<|q-1) (Ie r (v.getD (k+1) 0) 0) (OW r (v.getD (k+1) 0) 0) i<|lo++e) Q:=by
    intro N;obtain⟨a1,a2,a3⟩:=Ma l t (c:=0) af;have hq1:1<=q:=by
     rcases qe 0 q with g|g
     ·exact g
     ·have:q=0:=ae
      subst this;rw[Int.zero_mul]at N;omega
    rw[wu (q-1) ae ae];refine CN v9 n h p d o1 H s v k j lo m e i V G Y u I F A hr C S J w f (q-1) _ _ ae ae ae a1 ae ?_ ?_
    ·rw[yz,z6,a3];omega
    ·have U:q*v.getD (k+1) 0+r=e.getD (k+2) 0*18446744073709551616+e.getD (k+1) 0:=ae
     have:=Ve (B:=Ao) (u0:=e.getD (k+2) 0) (u1:=e.getD (k+1) 0) (u2:=e.getD k 0) X K x h0 (v1:=v.getD (k+1) 0) (v2:=v.getD k 0) (r:=r) U N;rw[<-hW, <-hV]at this;rw[show q-1+1=q by omega];exact this
   refine y7 (fun D=>exit ?_) (fun D=>y7 (fun z=>zg (by simp;omega)<|zg O<|y7 (fun E=>exit ?_)<|fun E=>zg (by simp;omega)<|zg (Ab (Ab (Ab l t) rfl) rfl)<|M ?_) (fun z=>zg (by simp;omega)<|zg (Ab (Ab (Ab l t) rfl) rfl)<|M ?_))
   ·have D:=w6 D;omega
   ·have z:Rq q (v.getD k 0)=r:=by simpa using z
    have E:=w6 E;omega
   ·have z:Rq q (v.getD k 0)=r:=by simpa using z
    have E:=w7 E;omega
   ·have D:=w7 D;have z:Rq q (v.getD k 0)≠r:=by simpa using z
    omega
  ·have c:o≠0:=by simpa using c
   refine exit ?_;have a:=zz (show v.getD k 0<=18446744073709551615 by omega) h0;omega
theorem B0(s:Int)(v:List Int)(k e:Nat)(E:v.length=k+2)(Z:e<=9000)(S:k+2<=e)(w:Aw Ao v)(C:1<=v.getD (k+1) 0)(Y:Int)
  (hq:∀u f:List Int,u.length=e+1->Aw Ao u->Aw Ao f->zf Ao u<zf Ao v->f.length=e-(k+2)+1->Y=zf Ao u+zf Ao v*zf Ao f->Ends JS (L6 s (e+1) ((k+2:Nat):Int) (e-(k+2)+1) ((k+2:Nat):Int) 0 f u) Q):
  ∀(t:Nat) (u f:List Int),t+f.length=e-(k+2)+1->u.length=e+1->Aw Ao u->Aw Ao f->zf Ao (u.drop t)<zf Ao v->Y=zf Ao u+zf Ao v*((Ao:Int)^t*zf Ao f)->
   Ends JS (L4 s v (e+1) ((k+2:Nat):Int) (e-(k+2)+1) ((t:Int)-1) (zx t 0++f) u) Q
 |0,u,f,hl,hu,O,B,A,he=>by
  refine yu (CD ..) (Ends.ff (by simp) ?_);exact hq u f hu O B A ae (by rw[he,Int.pow_zero,z6])
 |j+1,u,f,hl,hu,O,B,A,he=>by
  obtain⟨lo,r,rfl,g⟩:∃lo r:List Int,u=lo++r/\lo.length=j:=⟨u.take j,u.drop j,(List.take_append_drop j u).symm,by rw[ye];omega⟩;have K:Aw Ao lo:=fun d h=>O d<|yw.2<|.inl h
  have a:Aw Ao r:=fun d h=>O d<|yw.2<|.inr h
  have G:r.length=e+1-j:=by rw[List.length_append]at hu;omega
  have m:∀z:List Int,(lo++z).drop j=z:=fun z=>by rw[<-g];exact List.drop_left
  have X:r=r.getD 0 0::r.drop 1:=by
   have:=Cn (l:=r) (i:=0) ae;rw[List.drop_zero]at this;exact this
  have T:(lo++r).drop (j+1)=r.drop 1:=by rw[Nat.add_comm j 1,Nat.add_comm 1 j, <-List.drop_drop,m]
  rw[T]at A;have g0:=Km (b:=Ao) af a 0;have U:zf Ao r=r.getD 0 0+18446744073709551616*zf Ao (r.drop 1):=by
   conv=>lhs;rw[X]
   rfl
  have I:=Bs (b:=Ao) af w;rw[E]at I;have g0:0<=r.getD 0 0/\r.getD 0 0<18446744073709551616:=g0;have hrV:zf Ao r<18446744073709551616*zf Ao v:=by rw[U];omega
  have N:zf Ao (r.drop<|k+3)=0:=by
   refine Jh (b:=Ao) af a ae ?_;have ep:(Ao:Int)^(k+3)=(Ao:Int)^(k+2)*18446744073709551616:=yi ..;rw[ep];omega
  have J:=AX a<|k+2;have o:=AX a<|k+1;have uu2:=AX a k;have n:=AX w<|k+1;have gu0:=yp J;have R:=yp o;have V:=yp uu2;have gv1:=yp n;have gv2:=yp<|AX w k;have hP:=AR (b:=Ao) af k;have hW:=wO Ao r k ae N;have hV:=uX Ao v k E;have hu':=AD (b:=Ao) af<|AQ a k;have p:=Bs (b:=Ao) af<|AQ a k;have W:=AD (b:=Ao) af<|AQ w k;rw[ye,yq ae]at p;have hle:r.getD (k+2) 0<=v.getD (k+1) 0:=by
   have a1:=Cq Ao (r.drop 1) (k+1) (by rw[List.length_drop];omega);have a2:(r.drop 1).drop (k+1)=r.getD (k+2) 0::r.drop (k+3):=by
    rw[List.drop_drop,show 1+(k+1)=k+2 by omega];exact Cn ae
   have a3:zf Ao (r.getD (k+2) 0::r.drop (k+3))=r.getD (k+2) 0:=by
    show r.getD (k+2) 0+(Ao:Int)*zf Ao (r.drop<|k+3)=_;rw[N];omega
   rw[a2,a3]at a1;have P:zf Ao v=zf Ao (v.take<|k+1)+(Ao:Int)^(k+1)*v.getD (k+1) 0:=by
    rw[<-AH,yb ae]
   have L:=Bs (b:=Ao) af<|AQ w<|k+1;rw[ye,yq ae]at L;have c1:=AD (b:=Ao) af<|AQ (E1 a 1)<|k+1;have c2:(Ao:Int)^(k+1)*r.getD (k+2) 0<(Ao:Int)^(k+1)*(v.getD (k+1) 0+1):=by
    rw[zr,Int.mul_one];omega
   have:=Int.lt_of_mul_lt_mul_left c2 (z8<|AR af<|k+1);omega
  have y:∀(q:Int) (D:List Int),D.length=e+1-j->Aw Ao D->(0<=q/\q<18446744073709551616)->zf Ao D<zf Ao v->zf Ao D=zf Ao r-q*zf Ao v->Ends JS (L4 s v (e+1) ((k+2:Nat):Int) (e-(k+2)+1) (zc .i64<|(j:Int)-1) ((zx (j+1) 0++f).set j q)<|lo++D) Q:=by
   intro q D h1 h2 h3 h4 h5;have es:(zx (j+1) (0:Int)++f).set j q=zx j 0++(q::f):=by
    rw[yk,yc];exact DD _ _ _ _ (by simp)
   rw[es,wr ((j:Int)-1) ae ae];refine B0 s v k e E Z S w C Y hq j (lo++D) (q::f) (by simp;omega) (by simp;omega) (Fj K h2) (fun d h=>?_) (by rw[m];exact h4) ?_
   ·rcases List.mem_cons.1 h with rfl|h
    ·exact h3
    ·exact B d h
   ·rw[he,Da,Da,g,h5,LG];show zf Ao lo+(Ao:Int)^j*zf Ao r+zf Ao v*((Ao:Int)^j*(18446744073709551616*zf Ao f))=zf Ao lo+(Ao:Int)^j*(zf Ao r-q*zf Ao v)+zf Ao v*((Ao:Int)^j*(q+18446744073709551616*zf Ao f));have x1:zf Ao v*((Ao:Int)^j*q)=(Ao:Int)^j*(q*zf Ao v):=by
     rw[Int.mul_left_comm,zp (zf Ao v) q]
    rw[yv,zr ((Ao:Int)^j) q,zr<|zf Ao v,x1];omega
  have ez:zo 0 j=j:=Nat.zero_add j;have e0:(((j+1:Nat):Int)-1)=(j:Int):=ae
  have e1:zc .i64 (zc .i64 ((j:Int)+((k+2:Nat):Int))+1)=((j+(k+3):Nat):Int):=by
   rw[wr ((j:Int)+((k+2:Nat):Int)) ae ae,wr _ ae ae];omega
  have e2:zc .i64 (((k+2:Nat):Int)-1)=((k+1:Nat):Int):=by rw[wr _ ae ae];omega
  have e3:zy (j+(k+3)) j=k+3:=by show j+(k+3)-j=_;omega
  have F:decide (zo (k+2) j<(lo++r).length)=true:=lw g ae;have M:decide (zo (k+1) j<(lo++r).length)=true:=lw g ae;rw[e0];refine yu (CD ..) (zg (by simp) ?_);rw[E,e1,e2,zn,zn,zn,zn,ez,e3,gw g,gw g];have P:(decide ((0:Int)<=((k+2:Nat):Int))&&decide (((k+2:Nat):Int)<((k+3:Nat):Int)))=true:=by simp;omega
  have L:(decide ((0:Int)<=((k+1:Nat):Int))&&decide (((k+1:Nat):Int)<((k+2:Nat):Int)))=true:=by simp;omega
  have b3:(decide ((0:Int)<=((k+1:Nat):Int))&&decide (((k+1:Nat):Int)<((k+3:Nat):Int)))=true:=by simp;omega
  have H:j<(zx (j+1) (0:Int)++f).length:=by simp;omega
  refine zg (by simp;omega)<|zg P<|zg F<|zg L<|y7 (fun c=>?_)<|fun c=>?_
  ·have c:=w6 c;obtain⟨a1,a2,a3⟩:=Ma o n (c:=0) af;refine zg b3<|zg M<|zg L<|zg (Ab (Ab (Ab o n) rfl) rfl) ?_;refine CN s v (e+1) _ _ _ _ _ v k j lo (e+1-j) r _ E ae ae g ae H w G a N C y 18446744073709551616 _ _ _ af af af a1 ae ?_ ?_
   ·rw[a3];omega
   ·exact hrV
  ·have c:=w7 c;obtain⟨d1,d2,d3,d4,d5⟩:=dqr (r:=r.getD (k+2) 0) (x:=r.getD (k+1) 0) (d:=v.getD (k+1) 0) ae ae R;refine zg P (zg F<|zg b3<|zg M<|zg L<|zg (Ab (Ab (Ab J o) n)<|w4 ae) ?_);refine CN s v (e+1) _ _ _ _ _ v k j lo (e+1-j) r _ E ae ae g ae H w G a N C y 18446744073709551616 _ _ _ d2 d3 d3 (CX d4 ae) (.inl rfl) ?_ ?_
   ·rw[<-d1];omega
   ·rw[hW,hV];exact M9 hP af d2 W gv2.1 p V.2 d1 d5
end T212
end Go.Pe
