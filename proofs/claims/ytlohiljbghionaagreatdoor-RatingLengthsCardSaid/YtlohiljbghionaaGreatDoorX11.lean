import Derived.Test.YtlohiljbghionaaGreatDoorX10
import Derived.Lib.ItoaMem
/- A part of a proof (no law is stated here). Made by program out of texts by AI agents. -/
noncomputable section
open Go.IntKind renaming wrap -> zc, u64 -> zd, u8 -> yh, i64 -> ym
open Go.Pe.Sh renaming list -> ze, str -> zh, bool -> zl, int -> zm, T -> qf
open Go.Sp renaming val -> zf, u64 -> zt, A5 -> yp, C6 -> yr, first -> yy, vI -> y8
open Go.Pe.Ends renaming tt -> zg, Ah -> yu, ite -> y7
open UInt8 renaming toNat -> zi, ofNat -> yx
open Int renaming mul_le_mul_of_nonneg_right -> zj, mul_assoc -> zk, toNat_natCast -> zn, mul_comm -> zp, mul_add -> zr, add_mul -> zw, mul_le_mul_of_nonneg_left -> zz, one_mul -> z6, le_of_lt -> z8, tmod -> ya, mul_nonneg -> yd, pow_succ -> yi, mul_ediv_add_emod -> yj, tdiv -> yn, mul_sub -> yv, sub_mul -> yz, mul_zero -> qc, add_zero -> qd, lt_or_le -> qe
open Nat renaming add -> zo, sub -> zy, add_sub_cancel -> yg, min_eq_left -> yq
open Go.Pe.PV renaming agg -> zq
open List renaming getD_eq_getElem?_getD -> zu, replicate -> zx, take_of_length_le -> yb, append_assoc -> yc, length_take -> ye, getElem?_eq_getElem -> yf, replicate_succ' -> yk, map -> yo, drop_eq_getElem_cons -> yt, mem_append -> yw
open Option renaming getD -> z7
open Min renaming min -> y9
namespace Go.Sp
abbrev Ak:=(Int×List Int)×(Int×List Int)
def NP(a:AG):Bool:=C6 a&&decide (a.2.length<=4000)
def Df(a:Ak):Bool:=NP a.1&&NP a.2
def FZ(a b:Ak):Int:=Cg (vI a.1*vI b.2)<|vI b.1*vI a.2
def Vu(a:Z):Int:=C1<|Bd a
def VZ(a:Z):List Int:=C0<|Bd a
def SH(a:Z):Int:=C1<|AN a
def Sy(a:Z):List Int:=C0<|AN a
def iQ(a b:AG):AG:=if vI b<0 then Et (Cn a) (Cn b)else Et a b
def iQS(a b:AG):Int:=(iQ a b).1
def iQW(a b:AG):List Int:=(iQ a b).2
def C5(d:AG):Bool:=decide (d.2=[])&&decide (d.1=1)
def gR(n d:AG):AG:=(Ny n d,NI n d)
def NO(n d:AG):Ak:=if C5 d=true then(n,d)else(iQ n<|gR n d,iQ d<|gR n d)
def Yz(n d:AG):Ak:=if vI d<0 then NO (Cn n) (Cn d)else NO n d
def fWh(n:AG):Ak:=(n,(1,CW 1))
def Ci(a b:Ak):Ak:=if C5 a.2=true/\C5 b.2=true then fWh (ER a.1 b.1)else Yz (ER (FL a.1 b.2)<|FL b.1 a.2)<|FL a.2 b.2
def LW(a b:Ak):Ak:=Yz (FL a.1 b.1)<|FL a.2 b.2
def vK(a:Ak):Ak:=(Cn a.1,a.2)
def NW(a b:Ak):Ak:=Ci a<|vK b
def Wv(a:Ak):Ak:=Yz a.2 a.1
def KN(a b:Ak):Ak:=LW a<|Wv b
def nS(f:Ak):Int:=f.1.1
def nW(f:Ak):List Int:=f.1.2
def dS(f:Ak):Int:=f.2.1
def dW(f:Ak):List Int:=f.2.2
def sB(n d:AG):Int:=nS<|Yz n d
def uE(n d:AG):List Int:=nW<|Yz n d
def sZ(n d:AG):Int:=dS<|Yz n d
def xH(n d:AG):List Int:=dW<|Yz n d
def UP(a b:Ak):Int:=nS<|Ci a b
def Wu(a b:Ak):List Int:=nW<|Ci a b
def U3(a b:Ak):Int:=dS<|Ci a b
def UH(a b:Ak):List Int:=dW<|Ci a b
def Adw(a b:Ak):Int:=nS<|NW a b
def Acw(a b:Ak):List Int:=nW<|NW a b
def Adg(a b:Ak):Int:=dS<|NW a b
def AcU(a b:Ak):List Int:=dW<|NW a b
def zI(a b:Ak):Int:=nS<|LW a b
def yT(a b:Ak):List Int:=nW<|LW a b
def yI(a b:Ak):Int:=dS<|LW a b
def yF(a b:Ak):List Int:=dW<|LW a b
def Ac0(a:Ak):Int:=nS<|Wv a
def Adn(a:Ak):List Int:=nW<|Wv a
def Acx(a:Ak):Int:=dS<|Wv a
def Ac4(a:Ak):List Int:=dW<|Wv a
def zN(a b:Ak):Int:=nS<|KN a b
def yU(a b:Ak):List Int:=nW<|KN a b
def yS(a b:Ak):Int:=dS<|KN a b
def yM(a b:Ak):List Int:=dW<|KN a b
def flS(a:Ak):Int:=Z8 a.1 a.2
def flW(a:Ak):List Int:=Zo a.1 a.2
def CS(a:Ak):Bool:=Df a&&decide (0<vI a.2)
def MP(n d:AG):Bool:=Bc n&&Bc d&&decide (vI d≠0)
end Go.Sp
namespace Go.Pe
open Sp
open Go.Det
abbrev AB:Sh:=.pair AY AY
def NH:Am:=⟨[.str],fun s=>Eu s,[AB],fun s=>((Vu s,VZ s),(SH s,Sy s)),false⟩
def V7:Am:=⟨[AB,AB],fun i=>Sp.Df (i.1:Ak)&&Sp.Df (i.2:Ak),[i64],fun i=>FZ (i.1:Ak) (i.2:Ak),false⟩
def cIQ:Am:=⟨[AY,AY],fun i=>MP i.1 i.2,[AY],fun i=>(Sp.iQS i.1 i.2,Sp.iQW i.1 i.2),false⟩
def yG:Am:=⟨[AY,AY],fun i=>MP i.1 i.2,[AB],fun i=>((sB i.1 i.2,uE i.1 i.2),(sZ i.1 i.2,xH i.1 i.2)),false⟩
def O9:Am:=⟨[AB],fun _=>true,[.bool],fun a=>C5 (a:Ak).2,false⟩
def oS:Am:=⟨[AY],fun _=>true,[AB],fun n=>((n:AG),((1:Int),CW 1)),false⟩
def cF:Am:=⟨[i64],fun _=>true,[AB],fun n=>(((n:Int),CW n),((1:Int),CW 1)),false⟩
def nJ:Am:=⟨[AB],fun a=>yr (a:Ak).1,[AB],fun a=>((Eg (a:Ak).1,Em (a:Ak).1),((a:Ak).2.1,(a:Ak).2.2)),false⟩
def RR:Am:=⟨[AB,AB],fun i=>Sp.CS (i.1:Ak)&&Sp.CS (i.2:Ak),[AB],fun i=>((UP i.1 i.2,Wu i.1 i.2),(U3 i.1 i.2,UH i.1 i.2)),false⟩
def lG:Am:=⟨[AB,AB],fun i=>Sp.CS (i.1:Ak)&&Sp.CS (i.2:Ak),[AB],fun i=>((Adw i.1 i.2,Acw i.1 i.2),(Adg i.1 i.2,AcU i.1 i.2)),false⟩
def gV:Am:=⟨[AB,AB],fun i=>Sp.CS (i.1:Ak)&&Sp.CS (i.2:Ak),[AB],fun i=>((zI i.1 i.2,yT i.1 i.2),(yI i.1 i.2,yF i.1 i.2)),false⟩
def zJ:Am:=⟨[AB],fun a=>Sp.CS (a:Ak)&&decide (y8 (a:Ak).1≠0),[AB],fun a=>((Ac0 a,Adn a),(Acx a,Ac4 a)),false⟩
def pO:Am:=⟨[AB,AB],fun i=>Sp.CS (i.1:Ak)&&Sp.CS (i.2:Ak)&&decide (y8 (i.2:Ak).1≠0),[AB],fun i=>((zN i.1 i.2,yU i.1 i.2),(yS i.1 i.2,yM i.1 i.2)),false⟩
def iA:Am:=⟨[AB],fun a=>Sp.CS (a:Ak),[AY],fun a=>(Sp.flS a,Sp.flW a),false⟩
def qM:AV:=WY [(189,[3])] [] [(189,[(3,[2,3,4])])] [(161,Ks),(143,RP),(190,Hy),(170,YK),(106,cQ),(139,Qw),(127,RC),(105,lF),(124,pJ),(126,Ph)]
def XA1:AV:=WY [(140,[3,6])] [] [(140,[(3,[2,3,4]),(6,[2,3,4,5])])] [(161,Ks),(143,RP),(170,YK),(189,cIQ)]
def XA2:AV:=WY [(75,[3])] [] [(75,[(3,[2,3,4])])] [(138,O9),(125,oS),(139,Qw),(127,RC),(140,yG)]
def XA3:AV:=X7 [(137,nJ),(75,RR),(102,gV),(141,zJ)]
end Go.Pe
namespace Go.Sp
def S5(a:Z):Z:=if Bs a=true then AS a else[49]
end Go.Sp
namespace Go.Pe
open Go.Det
def qJ:Am:=⟨[.str],fun s=>decide (s.length<=1000000),[.str],fun s=>Sp.A8 s,false⟩
def yP:Am:=⟨[.str],fun s=>decide (s.length<=1000000),[.str],fun s=>Sp.AA s,false⟩
def gK:Am:=⟨[.str],fun s=>decide (s.length<=1000000),[.str],fun s=>Sp.S5 s,false⟩
def XM5:AV:=X7 [(128,Qb)]
end Go.Pe
namespace Go.Sp
def Ee(a:Z):Bool:=decide (a.length<=20)&&decide ((AA<|A8 a).length<=9)&&decide ((AS<|A8 a).length<=9)
def IP(a:Z):Int:=if preB a=true then -AE 0 (AA<|A8 a)else AE 0<|AA<|A8 a
def Uy(a:Z):Int:=if Bs (A8 a)=true then AE 0 (AS<|A8 a)else 1
def EU(a:Z):Int:=if a=[48]then 0 else if a.getD 0 0=45 then -1 else 1
def GD(a:Z):Z:=if a=[48]then a else if a.getD 0 0=45 then a.drop 1 else 45::a
def HL:Nat->Nat->Nat->Z->Z
 |0,_,_,a=>a
 |f+1,n,l,a=>if n=0/\l<=a.length then a else HL f (n/10) l (yx (48+n % 10)::a)
def Iz(n l:Int):Z:=HL 64 n.toNat l.toNat []
def AdK(a b:Int):Bool:=decide (0<=a)&&decide (a<9223372036854775808)&&decide (0<=b)&&decide (b<9223372036854775808)
end Go.Sp
namespace Go.Pe
open Go.Det
def Aai:Am:=⟨[i64,i64],fun i=>Sp.AdK i.1 i.2,[i64],fun i=>Sp.gI i.1 i.2,false⟩
def MN:Am:=⟨[.str],fun s=>decide (s.length<=1000000),[i64],fun s=>Sp.EU s,false⟩
def YO:Am:=⟨[.str],fun s=>decide (s.length<=1000000),[.str],fun s=>Sp.GD s,false⟩
def QI:Am:=⟨[i64,i64],fun i=>decide (0<=(i.1:Int))&&decide ((i.1:Int)<9223372036854775808)&&decide (0<=(i.2:Int))&&decide ((i.2:Int)<=20),[.str],fun i=>Sp.Iz i.1 i.2,false⟩
def Oz:AV:=WY [(91,[5,7,11,13])] [] [(91,[(5,[5,6]),(7,[5,6]),(11,[5,6,7,8,9]),(13,[6,8,9])])] [(152,SY),(128,Qb)]
def XO2:AV:=X7 [(38,MN)]
end Go.Pe
namespace Go.Sp
open Go.Lib
theorem Gq(a d:Nat)(b:0<a)(c:d<10):decDigits (10*a+d)=decDigits a++[yx<|48+d]:=by
 rw[decDigits,dif_neg (by omega),show(10*a+d)/10=a from by omega,show(10*a+d) % 10=d from by omega]
theorem nD(a d:Nat)(b:0<a)(c:d<10):nDigits (10*a+d)=nDigits a+1:=by
 rw[nDigits_big (by omega),show(10*a+d)/10=a from by omega]
def Gz(k b:Nat):Z:=zx (k-nDigits b) 48++decDigits b
theorem RE(k b d:Nat)(f:1<=k)(a:d<10):Gz (k+1) (10*b+d)=Gz k b++[yx<|48+d]:=by
 unfold Gz;rcases Nat.eq_zero_or_pos b with rfl|c
 ·rw[Nat.mul_zero,Nat.zero_add,nDigits_small a,decDigits_one a,nDigits_small (by omega),decDigits_one<|by omega];obtain⟨j,rfl⟩:∃j,k=j+1:=⟨k-1,by omega⟩;have e:(48:UInt8)=yx (48+0):=rfl;rw[yg,yg, <-e,yk,yc]
 ·rw[nD b d c a,Gq b d c a, <-yc,Nat.add_sub_add_right]
theorem TH:∀(k a b:Nat),1<=k->0<a->b<10^k->decDigits (a*10^k+b)=decDigits a++Gz k b
 |0,_,_,h,_,_=>by omega
 |1,a,b,_,d,c=>by
  rw[Nat.pow_one]at*;rw[Nat.mul_comm,Gq a b d c];unfold Gz;rw[nDigits_small c,decDigits_one c];rfl
 |k+2,a,b,_,d,c=>by
  have g:b=10*(b/10)+b % 10:=by omega
  have e:b/10<10^(k+1):=by
   rw[Nat.pow_succ 10<|k+1]at c;omega
  have j:a*10^(k+2)+b=10*(a*10^(k+1)+b/10)+b % 10:=by
   rw[Nat.pow_succ 10<|k+1, <-Nat.mul_assoc];omega
  have hp:0<a*10^(k+1):=Nat.mul_pos d (Nat.pow_pos (by omega));have i:=TH (k+1) a (b/10) (by omega) d e;have f:=RE (k+1) (b/10) (b % 10) (by omega) (by omega);rw[j,Gq _ _ (by omega) (by omega),i,yc, <-f, <-g]
def Cv:Nat->Nat->List Z
 |0,_=>[]
 |f+1,v=>if v<10^18 then[decDigits v]else Gz 18 (v % 10^18)::Cv f (v/10^18)
theorem Jd:∀(f v:Nat),v<f->(Cv f v).reverse.flatten=decDigits v
 |0,_,h=>by omega
 |f+1,v,h=>by
  unfold Cv;split
  ·simp
  ·next c=>
   have hp:1<=v/10^18:=by omega
   have b:v/10^18<f:=by omega
   have d:=Jd f (v/10^18) b;rw[List.reverse_cons,List.flatten_append,d];have a:=TH 18 (v/10^18) (v % 10^18) (by omega) (by omega) (Nat.mod_lt _ (by decide));rw[show v/10^18*10^18+v % 10^18=v from by omega]at a;rw[a];simp
end Go.Sp
namespace Go.Pe
open Sp
open Go.Det
section
open List Int Prod
namespace T55
def T(s:Z):Tr:=tree qM false 9 55<|Ae ([zh]) s
theorem Ai(s:Z):T s=.ck (AaN s [(47:UInt8)]) (.ite (!Bs s) (.ck (Du<|AA s)<|.ck true<|.leaf (zq [.dat i64<|Dv<|AA s,.dat wU<|DB<|AA s,.dat i64 (1:Int),.dat wU<|CW 1]) [])<|.ck (Du<|AA s)<|.ck (Du<|Sp.AS s)<|.leaf (zq [.dat i64<|Dv<|AA s,.dat wU<|DB<|AA s,.dat i64<|Dv<|Sp.AS s,.dat wU<|DB<|Sp.AS s]) []):=by kernel_rfl
end T55
namespace T189
def T(a b:AG):Tr:=tree qM false 9 189<|Ae ([AY,AY]) (a,b)
def L1(c o1:Int)(a:List Int)(d:Int)(b:List Int):Tr:=re ((T (0,[]) (0,[])).L.L.L.L)<|Aw 21 [(2,.ptr 0 0),(3,.ptr 1 0),(4,.ptr 2 0)] [(2,.box [.dat i64 c,.nil]),(1,.box [.dat i64 o1,.dat wU a]),(0,.box [.dat i64 d,.dat wU b])] 3
theorem Ai(a b:AG):T a b=.ck (yr b) (.di (Ir b<0) (.ck (yr a)<|.ck (yr b)<|L1 0 (Eg b) (Em b) (Eg a)<|Em a)<|L1 0 (fst b) (snd b) (fst a)<|snd a):=by kernel_rfl
theorem Al(d o1:Int)(a:List Int)(c:Int)(b:List Int):stepT qM (L1 d o1 a c b)=.ck (Bc (c,b)&&Bc (o1,a)&&decide (0<y8 (o1,a))) (.leaf (zq [.dat i64<|Z8 (c,b) (o1,a),.dat wU<|Zo (c,b) (o1,a)]) []):=by kernel_rfl
end T189
namespace T140
def T(n d:AG):Tr:=tree XA1 false 9 140<|Ae ([AY,AY]) (n,d)
def L1(d c o1:Int)(a:List Int)(e:Int)(b:List Int):Tr:=re ((T (0,[]) (0,[])).L.L.L.L)<|Aw 34 [(2,.ptr 0 0),(3,.ptr 1 0),(4,.ptr 2 0)] [(2,.box [.dat i64 d,.nil,.dat i64 c,.nil]),(1,.box [.dat i64 o1,.dat wU a]),(0,.box [.dat i64 e,.dat wU b])] 3
theorem Ai(n d:AG):T n d=.ck (yr d) (.di (Ir d<0) (.ck (yr n)<|.ck (yr d)<|L1 0 0 (Eg d) (Em d) (Eg n)<|Em n)<|L1 0 0 (fst d) (snd d) (fst n)<|snd n):=by kernel_rfl
def L2(g:Int)(d:List Int)(e c o1:Int)(a:List Int)(f:Int)(b:List Int):Tr:=re ((stepT XA1<|L1 0 0 0 [] 0 []).L.R.L)<|Aw 34 [(2,.ptr 0 0),(3,.ptr 1 0),(4,.ptr 2 0),(5,.ptr 3 0)] [(3,.box [.dat i64 g,.dat wU d]),(2,.box [.dat i64 e,.nil,.dat i64 c,.nil]),(1,.box [.dat i64 o1,.dat wU a]),(0,.box [.dat i64 f,.dat wU b])] 4
theorem Al(e c o1:Int)(a:List Int)(d:Int)(b:List Int):stepT XA1 (L1 e c o1 a d b)=let f:Tr:=.ck (Bc (d,b)&&Bc (o1,a))<|L2 (Ny (d,b) (o1,a)) (NI (d,b) (o1,a)) e c o1 a d b;.ite (!decide (0<length a)) (.ite (o1==1) (.leaf (zq [.dat i64 d,.dat wU b,.dat i64 o1,.dat wU a]) []) f) f:=by kernel_rfl
theorem AH(d:Int)(a:List Int)(g e o1:Int)(b:List Int)(f:Int)(c:List Int):stepT XA1 (L2 d a g e o1 b f c)=.ck (MP (f,c) (d,a)) (.ck (MP (o1,b) (d,a))<|.leaf (zq [.dat i64<|Sp.iQS (f,c) (d,a),.dat wU<|Sp.iQW (f,c) (d,a),.dat i64<|Sp.iQS (o1,b) (d,a),.dat wU<|Sp.iQW (o1,b) (d,a)]) []):=by kernel_rfl
end T140
namespace T138
def T(a:Ak):Tr:=tree qM false 9 138<|Ae ([AB]) a
theorem Ai(a:Ak):T a=.ite (!decide (0<length (snd<|snd a))) (.leaf (.dat zl<|fst (snd a)==1) []) (.leaf (.bl false) []):=by kernel_rfl
end T138
namespace T125
def T(n:AG):Tr:=tree qM false 9 125<|Ae ([AY]) n
theorem Ai(n:AG):T n=.ck true (.leaf (zq [.dat i64<|fst n,.dat wU<|snd n,.dat i64 (1:Int),.dat wU<|CW 1]) []):=by kernel_rfl
end T125
namespace T137
def T(a:Ak):Tr:=tree qM false 9 137<|Ae ([AB]) a
theorem Ai(a:Ak):T a=.ck (yr<|fst a) (.leaf (zq [.dat i64<|Eg<|fst a,.dat wU<|Em<|fst a,.dat i64<|fst<|snd a,.dat wU<|snd<|snd a]) []):=by kernel_rfl
end T137
namespace T75
def T(a b:Ak):Tr:=tree XA2 false 9 75<|Ae ([AB,AB]) (a,b)
def L1(i d o1:Int)(g:List Int)(f:Int)(b:List Int)(h:Int)(c:List Int)(e:Int)(a:List Int):Tr:=re ((T ((0,[]),(0,[])) ((0,[]),(0,[]))).L.L.L.R)<|Aw 34 [(2,.ptr 0 0),(3,.ptr 1 0),(4,.ptr 2 0)] [(2,.box [.dat i64 i,.nil,.dat i64 d,.nil]),(1,.box [.dat i64 o1,.dat wU g,.dat i64 f,.dat wU b]),(0,.box [.dat i64 h,.dat wU c,.dat i64 e,.dat wU a])] 3
theorem Ai(a b:Ak):T a b=let c:=L1 0 0 (fst<|fst b) (snd<|fst b) (fst<|snd b) (snd<|snd b) (fst<|fst a) (snd<|fst a) (fst<|snd a)<|snd<|snd a;.ck true (.ite (C5<|snd a) (.ck true<|.ite (C5<|snd b) (.ck (Bc (fst a)&&Bc (fst b))<|.ck true<|.leaf (zq [.dat i64<|Kd (fst a)<|fst b,.dat wU<|Kf (fst a)<|fst b,.dat i64 (1:Int),.dat wU<|CW 1]) []) c) c):=by kernel_rfl
theorem Al(l h o1:Int)(f:List Int)(d:Int)(b:List Int)(i:Int)(e:List Int)(c:Int)(a:List Int):stepT XA2 (L1 l h o1 f d b i e c a)=let b':=(Fm (c,a) (d,b),FB (c,a) (d,b));let k:=(Fm (i,e) (d,b),FB (i,e) (d,b));let j:=(Fm (o1,f) (c,a),FB (o1,f) (c,a));let g:=(Kd k j,Kf k j);.ck (Bc (i,e)&&Bc (d,b)) (.ck (Bc (o1,f)&&Bc (c,a))<|.ck (Bc k&&Bc j)<|.ck (Bc (c,a)&&Bc (d,b))<|.ck (MP g b')<|.leaf (zq [.dat i64<|sB g b',.dat wU<|uE g b',.dat i64<|sZ g b',.dat wU<|xH g b']) []):=by kernel_rfl
end T75
namespace T102
def T(a b:Ak):Tr:=tree XA2 false 9 102<|Ae ([AB,AB]) (a,b)
theorem Ai(a b:Ak):T a b=let c:=(Fm (fst a)<|fst b,FB (fst a)<|fst b);let b':=(Fm (snd a)<|snd b,FB (snd a)<|snd b);.ck (Bc (fst a)&&Bc (fst b)) (.ck (Bc (snd a)&&Bc (snd b))<|.ck (MP c b')<|.leaf (zq [.dat i64<|sB c b',.dat wU<|uE c b',.dat i64<|sZ c b',.dat wU<|xH c b']) []):=by kernel_rfl
end T102
namespace T141
def T(a:Ak):Tr:=tree XA2 false 9 141<|Ae ([AB]) a
theorem Ai(a:Ak):T a=.ck (MP (snd a)<|fst a) (.leaf (zq [.dat i64<|sB (snd a)<|fst a,.dat wU<|uE (snd a)<|fst a,.dat i64<|sZ (snd a)<|fst a,.dat wU<|xH (snd a)<|fst a]) []):=by kernel_rfl
end T141
namespace T74
def T(a b:Ak):Tr:=tree XA3 false 9 74<|Ae ([AB,AB]) (a,b)
theorem Ai(a b:Ak):T a b=let c:=((Eg<|fst b,Em<|fst b),fst<|snd b,snd<|snd b);let b':=((fst a),fst<|snd a,snd<|snd a);.ck (yr<|fst b) (.ck (Sp.CS b'&&Sp.CS c)<|.leaf (zq [.dat i64<|UP b' c,.dat wU<|Wu b' c,.dat i64<|U3 b' c,.dat wU<|UH b' c]) []):=by kernel_rfl
end T74
namespace T76
def T(a b:Ak):Tr:=tree XA3 false 9 76<|Ae ([AB,AB]) (a,b)
theorem Ai(a b:Ak):T a b=let b':=((fst a),fst<|snd a,snd<|snd a);let d:=((fst b),fst<|snd b,snd<|snd b);let c:=Wv d;.ck (Sp.CS d&&decide (y8 (fst b)≠0)) (.ck (Sp.CS b'&&Sp.CS c)<|.leaf (zq [.dat i64<|zI b' c,.dat wU<|yT b' c,.dat i64<|yI b' c,.dat wU<|yF b' c]) []):=by kernel_rfl
end T76
namespace T56
def T(a b:Ak):Tr:=tree qM false 9 56<|Ae ([AB,AB]) (a,b)
theorem Ai(a b:Ak):T a b=let c:=(Fm (fst a)<|snd b,FB (fst a)<|snd b);let b':=(Fm (fst b)<|snd a,FB (fst b)<|snd a);.ck (Bc (fst a)&&Bc (snd b)) (.ck (Bc (fst b)&&Bc (snd a))<|.ck (Bc c&&Bc b')<|.leaf (.dat i64<|aU c b') []):=by kernel_rfl
end T56
namespace T142
def T(a:Ak):Tr:=tree qM false 9 142<|Ae ([AB]) a
theorem Ai(a:Ak):T a=.ck (Bc (fst a)&&Bc (snd a)&&decide (0<y8 (snd a))) (.leaf (zq [.dat i64<|Z8 (fst a)<|snd a,.dat wU<|Zo (fst a)<|snd a]) []):=by kernel_rfl
end T142
namespace T128
def T(s:Z):Tr:=tree Oi false 9 128<|Ae ([zh]) s
def L1(v0:Z)(v3:Int):Tr:=re ((T []))<|Aw 17 [(0,.dat zh v0),(3,.dat i64 v3)] [] 0
theorem Ai(s:Z):T s=L1 s 0:=by kernel_rfl
theorem Al(v0:Z)(v3:Int):stepT Oi (L1 v0 v3)=let a:=(length v0:Int);.di (v3<a) (.ck (decide (0<=v3)&&decide (v3<a))<|.ite ((↑(zi<|getD v0 (toNat v3) (0:UInt8)):Int)==47) (.leaf (.dat i64 v3) [])<|L1 v0<|zc .i64<|v3+1) (.leaf (.dat i64 a) []):=by kernel_rfl
end T128
namespace T129
def T(s:Z):Tr:=tree Oi false 9 129<|Ae ([zh]) s
def L1(s v0:Z)(v3:Int):Tr:=re ((T s).R.L.L.R)<|Aw 20 [(0,.dat zh v0),(3,.dat i64 v3)] [] 0
def L2(s v0:Z)(v3:Int):Tr:=re ((T s).R.R)<|Aw 20 [(0,.dat zh v0),(3,.dat i64 v3)] [] 0
theorem Ai(s:Z):T s=let a:=(length s:Int);.ite (a==0) (.leaf (.bl false) []) (.di (a>1) (.cd (0<a)<|.ite ((↑(zi<|getD s 0 (0:UInt8)):Int)==48) (.leaf (.bl false) [])<|L1 s s 0)<|L2 s s 0):=by kernel_rfl
theorem Al(s v0:Z)(v3:Int):stepT Oi (L1 s v0 v3)=let a:=decide (v3<(length v0:Int));let b':=(↑(zi<|getD v0 (toNat v3) (0:UInt8)):Int);.ite a (.ck (decide (0<=v3)&&a)<|.di (b'<48) (.leaf (.bl false) [])<|.ck (decide (0<=v3)&&a)<|.di (b'>57) (.leaf (.bl false) [])<|L1 s v0<|zc .i64<|v3+1) (.leaf (.bl true) []):=by kernel_rfl
theorem AH(s v0:Z)(v3:Int):stepT Oi (L2 s v0 v3)=let a:=decide (v3<(length v0:Int));let b':=(↑(zi<|getD v0 (toNat v3) (0:UInt8)):Int);.ite a (.ck (decide (0<=v3)&&a)<|.di (b'<48) (.leaf (.bl false) [])<|.ck (decide (0<=v3)&&a)<|.di (b'>57) (.leaf (.bl false) [])<|L2 s v0<|zc .i64<|v3+1) (.leaf (.bl true) []):=by kernel_rfl
end T129
namespace T97
def T(n:Int):Tr:=tree yW false 9 97<|Ae ([zm ym]) n
def L1(v0:Int)(v4:Bool):Tr:=re ((T 0))<|Aw 25 [(0,.dat i64 v0),(2,.ptr 0 0),(3,.nil),(4,.dat zl v4)] [(0,.box [.bl false,.nil])] 1
theorem Ai(n:Int):T n=L1 n (decide (n<0)):=by kernel_rfl
def L2(v0:Int)(a:Nat)(v4:Bool)(o1:List Int):Tr:=re ((stepT yW<|L1 0 false).L.L.L.L.L)<|Aw 25 [(0,.dat i64 v0),(2,.ptr 0 0),(3,.sl 1 1 0 a none),(4,.dat zl v4)] [(1,.arr false 3 i64 o1),(0,.box [.bl false,.nil])] 2
theorem Al(v0:Int)(v4:Bool):stepT yW (L1 v0 v4)=let a:=decide (1<=1)&&decide (0<1)&&decide ((3*1+2000)*8<=562949953421312);let b':=zc .i64<|yn v0 1000000000;.ite (v0 !=0) (.ck true<|.di (ya v0 1000000000<0) (.ck a<|.ck true<|L2 b' 1 v4<|[zc .i64<|0-ya v0 1000000000])<|.ck a<|.ck true<|L2 b' 1 v4<|[ya v0 1000000000]) (.cd (0<=20000)<|.leaf (zq [.dat zl<|Sp.CH v4 [],.dat (ze i64)<|Sp.Ax []]) []):=by kernel_rfl
theorem AH(v0:Int)(a:Nat)(v4:Bool)(o1:List Int):stepT yW (L2 v0 a v4 o1)=let b:=decide (1<=1)&&true&&decide (a=length o1)&&decide ((3*(a+1)+2000)*8<=562949953421312);let b':=zc .i64<|yn v0 1000000000;.ite (v0 !=0) (.ck true<|.di (ya v0 1000000000<0) (.ck b<|.ck true<|L2 b' (zo a 1) v4<|o1++[zc .i64<|0-ya v0 1000000000])<|.ck b<|.ck true<|L2 b' (zo a 1) v4<|o1++[ya v0 1000000000]) (.ck (decide (0+a<=length o1)&&true&&decide (length (take a o1)<=20000))<|.leaf (zq [.dat zl<|Sp.CH v4<|take a o1,.dat (ze i64)<|Sp.Ax<|take a o1]) []):=by kernel_rfl
end T97
namespace T92
def T(a:Z):Tr:=tree XK3 false 9 92<|Ae ([zh]) a
theorem Ai(a:Z):T a=let b':=zc .i64<|A0 a+1;let c:=take (toNat<|A0 a) a;let b:=take (zy (length a)<|toNat b')<|drop (toNat b') a;.cd (length a<=1000000) (.ite (A0 a==(length a:Int)) (.ck (Du a)<|.ck true<|.leaf (.tup [zq [.dat zl<|Gy a,.dat (ze i64)<|D9 a],zq [.dat zl false,.dat (ze i64)<|Sp.rW 1]]) [])<|.ck (decide (0<=A0 a)&&decide (0<=toNat (A0 a))&&decide (toNat (A0 a)<=length a))<|.ck (decide (0<=zc .i64 (A0 a+1))&&true&&decide (toNat b'<=length a)&&decide (length a<=length a))<|.ck (Du c)<|.ck (Du b)<|.leaf (.tup [zq [.dat zl<|Gy c,.dat (ze i64)<|D9 c],zq [.dat zl<|Gy b,.dat (ze i64)<|D9 b]]) []):=by kernel_rfl
end T92
namespace T62
def T(a:Z):Tr:=tree VO false 9 62<|Ae ([zh]) a
def L1(v0 v3:Z):Tr:=re ((T []).L.L.L.L)<|Aw 96 [(0,.dat zh v0),(3,.dat zh v3)] [] 0
theorem Ai(a:Z):T a=.di ((length a:Int)>0) (.cd (0<(length a:Int))<|.ite ((↑(zi<|getD a 0 (0:UInt8)):Int)==45) (.ck (decide (1<=length a)&&decide (length a<=length a))<|L1 a<|take (zy (length a) 1)<|drop 1 a)<|L1 a a) (L1 a a):=by kernel_rfl
def L2(v3:Z)(v4:Int):Tr:=re ((stepT VO<|L1 [] []).L.L.L.R.L.L.L.R)<|Aw 96 [(3,.dat zh v3),(4,.dat i64 v4)] [] 0
theorem Al(v0 v3:Z):stepT VO (L1 v0 v3)=let b':=A0 v3;let b:Tr:=.leaf (.dat i64 (1:Int)) [];let a:=decide (0<=A0 v3)&&decide (0<=toNat b')&&decide (toNat b'<=length v3);.cd (length v3<=9223372036854775807) (.ck a<|.cd (length (take (toNat b') v3)<=9223372036854775807)<|.ite (!A1 (take (toNat b') v3)) b<|.cd (0<(length v0:Int))<|.ite ((↑(zi<|getD v0 0 (0:UInt8)):Int)==45) (.ck a<|.ite (take (toNat b') v3==[(48:UInt8)]) b<|L2 v3 b')<|L2 v3 b'):=by kernel_rfl
def L3(v3:Z)(v4:Int):Tr:=re ((stepT VO<|L2 [] 0).L.L.L.R.L.R.L.R)<|Aw 96 [(3,.dat zh v3),(4,.dat i64 v4)] [] 0
theorem AH(v3:Z)(v4:Int):stepT VO (L2 v3 v4)=let c:Tr:=.leaf (.dat i64 (1:Int)) [];let d:=zc .i64<|v4+1;let b:=decide (0<=zc .i64 (v4+1))&&true&&decide (toNat d<=length v3)&&decide (length v3<=length v3);let b':=toNat d;let a:=zy (length v3) b';.di (v4<(length v3:Int)) (.ck b<|.cd (length (take a<|drop b' v3)<=9223372036854775807)<|.ite (!A1 (take a<|drop b' v3)) c<|.ck b<|.ite (take a (drop b' v3)==[(48:UInt8)]) c<|.ck b<|.ite (take a (drop b' v3)==[(49:UInt8)]) c<|L3 v3 v4) (L3 v3 v4):=by kernel_rfl
def L4(v3:Z)(v4:Int):Tr:=re ((stepT VO<|L3 [] 0).R.R)<|Aw 96 [(3,.dat zh v3),(4,.dat i64 v4)] [] 0
theorem B5(v3:Z)(v4:Int):stepT VO (L3 v3 v4)=let a:Tr:=.leaf (.dat i64 (4:Int)) [];.di (v4>600) a (.di (zc .i64 (zc .i64 ((length v3:Int)-v4)-1)>600) a<|L4 v3 v4):=by kernel_rfl
def L5(o1:Bool)(b:List Int)(c:Bool)(a:List Int):Tr:=re ((stepT VO<|L4 [] 0).L.L)<|Aw 96 [(5,.ptr 0 0),(6,.ptr 1 0)] [(1,.box [.dat zl o1,.dat (ze i64) b]),(0,.box [.dat zl c,.dat (ze i64) a])] 2
theorem CD(v3:Z)(v4:Int):stepT VO (L4 v3 v4)=.di (v4<(length v3:Int)) (.ck (Eu v3)<|L5 (Br v3) (Bk v3) (BS v3)<|BJ v3) (.leaf (.dat i64 (0:Int)) []):=by kernel_rfl
def L6(a:List Int):Tr:=re ((stepT VO<|L5 false [] false []).L)<|Aw 96 [(7,.dat (ze i64) a)] [] 0
theorem EG(o1:Bool)(b:List Int)(c:Bool)(a:List Int):stepT VO (L5 o1 b c a)=.ck (Ba a&&Ba b&&decide (length a<=9000)&&decide (length b<=9000)) (L6<|CA a b):=by kernel_rfl
theorem ET(a:List Int):stepT VO (L6 a)=let b:Tr:=.leaf (.dat i64 (1:Int)) [];.ite ((length a:Int) !=1) b (.cd (0<(length a:Int))<|.ite (getD a 0 0 !=1) b<|.leaf (.dat i64 (0:Int)) []):=by kernel_rfl
end T62
namespace T168
def T(l:List Int):Tr:=tree Oi false 9 168<|Ae ([ze i64]) l
def L1(v5:List Int)(b a:Int):Tr:=re ((T []))<|Aw 15 [(5,.dat (ze i64) v5),(6,.dat i64 b),(7,.dat i64 a)] [] 0
theorem Ai(l:List Int):T l=L1 l ((length l:Int)) 0:=by kernel_rfl
theorem Al(v5:List Int)(b a:Int):stepT Oi (L1 v5 b a)=.di (a<b) (.ck (decide (0<=a)&&decide (a<(length v5:Int)))<|.ite (getD v5 (toNat a) 0 !=0) (.leaf (.dat i64<|getD v5 (toNat a) 0) [])<|L1 v5 b<|zc .i64<|a+1) (.leaf (.dat i64 (0:Int)) []):=by kernel_rfl
end T168
namespace T169
def T(b:Bool)(e:Int):Tr:=tree Oi false 9 169<|Ae ([zl,zm ym]) (b,e)
theorem Ai(b:Bool)(e:Int):T b e=.ite b (.leaf (.dat i64 e) []) (.leaf (.dat i64 (0:Int)) []):=by kernel_rfl
end T169
namespace T122
def T(a:Z):Tr:=tree MV false 9 122<|Ae ([zh]) a
def L1(v5 b:Z)(a:Bool):Tr:=re ((T []).L.L.L.L.L)<|Aw 76 [(5,.dat zh v5),(6,.dat zh b),(7,.dat zl a),(8,.bl true)] [] 0
def L2(v5 c:Z)(a b:Bool):Tr:=re ((T []).L.L.L.L.R)<|Aw 76 [(5,.dat zh v5),(6,.dat zh c),(7,.dat zl a),(8,.dat zl b)] [] 0
def L3(v5 b:Z)(a:Bool):Tr:=re ((T []).L.L.L.R)<|Aw 76 [(5,.dat zh v5),(6,.dat zh b),(7,.dat zl a),(8,.bl false)] [] 0
theorem Ai(a:Z):T a=let b:=AA<|A8 a;let b':=Sp.AS<|A8 a;let c:=Bs<|A8 a;.ck (Tq a [(45:UInt8)]) (.ck (AaN (A8 a) [(47:UInt8)])<|.cd (length b<=1000000)<|.ite (A1 b) (.ite (!Sp.preB a) (L1 b b' c)<|L2 b b' c<|!AA (A8 a)==[(48:UInt8)])<|L3 b b' c):=by kernel_rfl
def L4(v5 c:Z)(a b:Bool):Tr:=re ((stepT MV<|L1 [] [] false).L.L.L.L)<|Aw 76 [(5,.dat zh v5),(6,.dat zh c),(7,.dat zl a),(8,.dat zl b)] [] 0
def L5(v5 b:Z)(a:Bool):Tr:=re ((stepT MV<|L1 [] [] false).L.L.L.R)<|Aw 76 [(5,.dat zh v5),(6,.dat zh b),(7,.dat zl a),(8,.bl false)] [] 0
def L6(v5 b:Z)(a:Bool):Tr:=re ((stepT MV<|L1 [] [] false).R)<|Aw 76 [(5,.dat zh v5),(6,.dat zh b),(7,.dat zl a),(8,.bl true)] [] 0
theorem Al(v5 a:Z)(b:Bool):stepT MV (L1 v5 a b)=.ite b (.cd (length a<=1000000)<|.ite (A1 a) (.ite (!a==[(48:UInt8)]) (L4 v5 a b<|!a==[(49:UInt8)])<|L5 v5 a b)<|L5 v5 a b) (L6 v5 a b):=by kernel_rfl
theorem AH(v5 a:Z)(b c:Bool):stepT MV (L2 v5 a b c)=.ite b (.ite c (.cd (length a<=1000000)<|.ite (A1 a) (.ite (!a==[(48:UInt8)]) (L4 v5 a b<|!a==[(49:UInt8)])<|L5 v5 a b)<|L5 v5 a b)<|L5 v5 a b) (L4 v5 a b c):=by kernel_rfl
theorem B5(v5 b:Z)(a:Bool):stepT MV (L3 v5 b a)=.ite a (L5 v5 b a) (L5 v5 b a):=by kernel_rfl
def L7(v5 b:Z)(a:Bool)(v9:Int):Tr:=re ((stepT MV<|L4 [] [] false false).L.L.L.L)<|Aw 76 [(5,.dat zh v5),(6,.dat zh b),(7,.dat zl a),(9,.dat i64 v9)] [] 0
theorem CD(v5 a:Z)(b c:Bool):stepT MV (L4 v5 a b c)=let d:=decide (2<=2)&&true&&decide (2<=1000000);.ck true (.di ((length v5:Int)>600) (.ck true<|.ck d<|L7 v5 a b<|yy [Cj (!c) 1,Cj true 4])<|.ck true<|.ck d<|L7 v5 a b<|yy [Cj (!c) 1,Cj (decide ((length a:Int)>600)) 4]):=by kernel_rfl
theorem EG(v5 a:Z)(b:Bool):stepT MV (L5 v5 a b)=.ck true (.di ((length v5:Int)>600) (.ck true<|.ck true<|L7 v5 a b<|yy [Cj true 1,Cj true 4])<|.ck true<|.ck (decide (2<=2)&&true&&decide (2<=1000000))<|L7 v5 a b<|yy [Cj true 1,Cj (decide ((length a:Int)>600)) 4]):=by kernel_rfl
theorem ET(v5 a:Z)(b:Bool):stepT MV (L6 v5 a b)=.ck true (.di ((length v5:Int)>600) (.ck true<|.ck true<|L7 v5 a b<|yy [Cj false 1,Cj true 4])<|.ck true<|.ck (decide (2<=2)&&true&&decide (2<=1000000))<|L7 v5 a b<|yy [Cj false 1,Cj (decide ((length a:Int)>600)) 4]):=by kernel_rfl
def L8(v5 b:Z)(a:Bool):Tr:=re ((stepT MV<|L7 [] [] false 0).R)<|Aw 76 [(5,.dat zh v5),(6,.dat zh b),(7,.dat zl a)] [] 0
theorem D1(v5 b:Z)(a:Bool)(v9:Int):stepT MV (L7 v5 b a v9)=.ite (v9 !=0) (.leaf (.dat i64 v9) []) (L8 v5 b a):=by kernel_rfl
def L9(a:Bool):Tr:=re ((stepT MV<|L8 [] [] false).L.L.L.L.L.L)<|Aw 76 [(10,.dat zl a)] [] 0
def zT:Tr:=re ((stepT MV<|L8 [] [] false).R)<|Aw 76 [(10,.bl false)] [] 0
theorem Hs(v5 a:Z)(b:Bool):stepT MV (L8 v5 a b)=let c:=(Ny (Dv v5,DB v5) (Dv a,DB a),NI (Dv v5,DB v5) (Dv a,DB a));.ite b (.ck (Du v5)<|.ck (Du a)<|.ck (Bc (Dv v5,DB v5)&&Bc (Dv a,DB a))<|.ck true<|.ck (Bc c&&Bc (1,CW 1))<|L9<|aU c (1,CW 1) !=0) zT:=by kernel_rfl
theorem jY(a:Bool):stepT MV (L9 a)=.ck true (.leaf (.dat i64<|Cj a 1) []):=by kernel_rfl
theorem SJ:stepT MV zT=.ck true (.leaf (.dat i64<|Cj false 1) []):=by kernel_rfl
end T122
namespace T126
def T(s:Z):Tr:=tree Q8 false 9 126<|Ae ([zh]) s
def L1(v0:Z)(v3:Bool)(o1 a:Int):Tr:=re ((T []).L.L.L.L.L.L)<|Aw 41 [(0,.dat zh v0),(2,.ptr 0 0),(3,.dat zl v3),(4,.ptr 1 0)] [(1,.box [.dat i64 o1,.nil]),(0,.box [.dat i64 a,.nil])] 2
def L2(v0:Z)(o1 a:Int):Tr:=re ((T []).R.L.L.L.L)<|Aw 41 [(0,.dat zh v0),(2,.ptr 0 0),(3,.bl false),(4,.ptr 1 0)] [(1,.box [.dat i64 o1,.nil]),(0,.box [.dat i64 a,.nil])] 2
theorem Ai(s:Z):T s=let a:=take 1 s==[(45:UInt8)];let b':=decide ((length s:Int)>=1);let c:=decide (1<=length s)&&decide (length s<=length s);let b:=decide (1<=length s);let d:=take (zy (length s) 1)<|drop 1 s;.ite b' (.ck b<|.ite b' (.ck b<|.ite a (.ck c<|L1 d a 0 0)<|L1 s a 0 0)<|L1 s a 0 0) (.ite b' (.ck b<|.ite a (.ck c<|L2 d 0 0)<|L2 s 0 0)<|L2 s 0 0):=by kernel_rfl
def L3(v0:Z)(v3:Bool)(o1 f:Int)(v5:Z)(g:Int)(a:Nat)(d e:Int)(h:List Int)(b:Int)(c:Int):Tr:=re ((stepT Q8<|L1 v0 v3 o1 f).L.L.L.L.L.L.L.R)<|Aw 77 [(5,.dat zh v5),(6,.dat i64 g),(47,.sl 2 1 0 a none),(48,.dat i64 d),(49,.dat i64 e)] [(2,.arr false 5 (zm yh) h),(1,.box [.dat i64 b,.nil]),(0,.box [.dat i64 c,.nil])] 3
theorem Al(v0:Z)(v3:Bool)(o1 c:Int):stepT Q8 (L1 v0 v3 o1 c)=let d:=(length v0:Int);let a:=take (toNat<|E2 18 d) v0;let b':=take (zy (length a) 1)<|drop 1 a;let f:=(↑(length a):Int);let g:=decide (1<=length a)&&decide (length a<=length a);let h:=(↑(zi<|getD a 0 (0:UInt8)):Int);let e:=decide (0<f);.di (d>0) (.ck (decide (0<=E2 18 d)&&decide (0<=toNat (E2 18 d))&&decide (toNat (E2 18 d)<=length v0))<|.ite e (.di (f<19) (.ck e<|.ite (h==45) (.ck g<|.di ((↑(length b'):Int)<1) .fail<|L3 v0 v3 o1 c a 0 (length b') ((↑(length b'):Int)) 0 (yo (fun b=>(↑(zi b):Int)) b') o1 c)<|.ck e<|.ite (h==43) (.ck g<|.di ((↑(length b'):Int)<1) .fail<|L3 v0 v3 o1 c a 0 (length b') ((↑(length b'):Int)) 0 (yo (fun b=>(↑(zi b):Int)) b') o1 c)<|L3 v0 v3 o1 c a 0 (length a) f 0 (yo (fun b=>(↑(zi b):Int)) a) o1 c)<|.ck false .fail)<|.ck false .fail) (.ite v3 (.ck (yr (o1,[]))<|.leaf (zq [.dat i64<|Eg (o1,[]),.dat wU<|Em (o1,[])]) [])<|.leaf (zq [.dat i64 o1,.nil]) []):=by kernel_rfl
def L4(v0:Z)(o1 f:Int)(v5:Z)(g:Int)(a:Nat)(d e:Int)(h:List Int)(b:Int)(c:Int):Tr:=re ((stepT Q8<|L2 v0 o1 f).L.L.L.L.L.L.L.R)<|Aw 77 [(5,.dat zh v5),(6,.dat i64 g),(47,.sl 2 1 0 a none),(48,.dat i64 d),(49,.dat i64 e)] [(2,.arr false 5 (zm yh) h),(1,.box [.dat i64 b,.nil]),(0,.box [.dat i64 c,.nil])] 3
theorem AH(v0:Z)(o1 c:Int):stepT Q8 (L2 v0 o1 c)=let d:=(length v0:Int);let a:=take (toNat<|E2 18 d) v0;let b':=take (zy (length a) 1)<|drop 1 a;let f:=(↑(length a):Int);let g:=decide (1<=length a)&&decide (length a<=length a);let h:=(↑(zi<|getD a 0 (0:UInt8)):Int);let e:=decide (0<f);.di (d>0) (.ck (decide (0<=E2 18 d)&&decide (0<=toNat (E2 18 d))&&decide (toNat (E2 18 d)<=length v0))<|.ite e (.di (f<19) (.ck e<|.ite (h==45) (.ck g<|.di ((↑(length b'):Int)<1) .fail<|L4 v0 o1 c a 0 (length b') ((↑(length b'):Int)) 0 (yo (fun b=>(↑(zi b):Int)) b') o1 c)<|.ck e<|.ite (h==43) (.ck g<|.di ((↑(length b'):Int)<1) .fail<|L4 v0 o1 c a 0 (length b') ((↑(length b'):Int)) 0 (yo (fun b=>(↑(zi b):Int)) b') o1 c)<|L4 v0 o1 c a 0 (length a) f 0 (yo (fun b=>(↑(zi b):Int)) a) o1 c)<|.ck false .fail)<|.ck false .fail) (.leaf (zq [.dat i64 o1,.nil]) []):=by kernel_rfl
def L5(v0:Z)(v3:Bool)(o1:Int)(a:List Int)(b:Int):Tr:=re ((stepT Q8<|L3 [] false 0 0 [] 0 0 0 0 [] 0 0).R.L.L.L.L.L.L.L.L)<|Aw 41 [(0,.dat zh v0),(2,.ptr 0 0),(3,.dat zl v3),(4,.ptr 1 0)] [(1,.box [.dat i64 o1,.dat wU a]),(0,.box [.dat i64 b,.nil])] 2
theorem B5(v0:Z)(v3:Bool)(o1 m:Int)(v5:Z)(d:Int)(c:Nat)(f a:Int)(h:List Int)(b:Int)(e:Int):stepT Q8 (L3 v0 v3 o1 m v5 d c f a h b e)=let b':=E2 18 (length v0:Int);let j:=(zc .i64<|0-d,CW<|zc .i64<|0-d);let k:=getD h (toNat a) 0-48;let i:=(VQ (10,CW 10) b',U8 (10,CW 10) b');let o:=decide (0<=E2 18 (length v0:Int))&&true&&decide (toNat b'<=length v0)&&decide (length v0<=length v0);let n:=take (zy (length v0)<|toNat b')<|drop (toNat b') v0;let l:=Bc (10,CW 10)&&qD (y8 (10,CW 10)) b';let g:=(Fm (b,[]) i,FB (b,[]) i);let h':=Bc (b,[])&&Bc i;.di (a<f) (.ck (decide (0<=a)&&decide (a<(↑c:Int)))<|.cd (toNat a<length h)<|.di (zc .u8 k>9) .fail<|L3 v0 v3 o1 m v5 (zc .i64<|zc .i64 (d*10)+zc .i64 (zc .u8 k)) c f (zc .i64<|a+1) h b e) (.cd (0<(length v5:Int))<|.ite ((↑(zi<|getD v5 0 (0:UInt8)):Int)==45) (.ck true<|.ck l<|.ck h'<|.ck true<|.ck (Bc g&&Bc j)<|.ck o<|L5 n v3 (Kd g j) (Kf g j) e)<|.ck true<|.ck l<|.ck h'<|.ck true<|.ck (Bc g&&Bc (d,CW d))<|.ck o<|L5 n v3 (Kd g (d,CW d)) (Kf g (d,CW d)) e):=by kernel_rfl
def L7(v0:Z)(v3:Bool)(o1:Int)(b:List Int)(h:Int)(v5:Z)(i:Int)(c:Nat)(e g:Int)(j:List Int)(d:Int)(a:List Int)(f:Int):Tr:=re ((stepT Q8<|L5 v0 v3 o1 b h).L.L.L.L.L.L.L.R)<|Aw 77 [(5,.dat zh v5),(6,.dat i64 i),(47,.sl 2 1 0 c none),(48,.dat i64 e),(49,.dat i64 g)] [(2,.arr false 5 (zm yh) j),(1,.box [.dat i64 d,.dat wU a]),(0,.box [.dat i64 f,.nil])] 3
theorem EG(v0:Z)(v3:Bool)(o1:Int)(a:List Int)(d:Int):stepT Q8 (L5 v0 v3 o1 a d)=let e:=(length v0:Int);let c:=take (toNat<|E2 18 e) v0;let b':=take (zy (length c) 1)<|drop 1 c;let g:=(↑(length c):Int);let h:=decide (1<=length c)&&decide (length c<=length c);let i:=(↑(zi<|getD c 0 (0:UInt8)):Int);let f:=decide (0<g);.di (e>0) (.ck (decide (0<=E2 18 e)&&decide (0<=toNat (E2 18 e))&&decide (toNat (E2 18 e)<=length v0))<|.ite f (.di (g<19) (.ck f<|.ite (i==45) (.ck h<|.di ((↑(length b'):Int)<1) .fail<|L7 v0 v3 o1 a d c 0 (length b') ((↑(length b'):Int)) 0 (yo (fun b=>(↑(zi b):Int)) b') o1 a d)<|.ck f<|.ite (i==43) (.ck h<|.di ((↑(length b'):Int)<1) .fail<|L7 v0 v3 o1 a d c 0 (length b') ((↑(length b'):Int)) 0 (yo (fun b=>(↑(zi b):Int)) b') o1 a d)<|L7 v0 v3 o1 a d c 0 (length c) g 0 (yo (fun b=>(↑(zi b):Int)) c) o1 a d)<|.ck false .fail)<|.ck false .fail) (.ite v3 (.ck (yr (o1,a))<|.leaf (zq [.dat i64<|Eg (o1,a),.dat wU<|Em (o1,a)]) [])<|.leaf (zq [.dat i64 o1,.dat wU a]) []):=by kernel_rfl
theorem D1(v0:Z)(v3:Bool)(o1:Int)(g:List Int)(o:Int)(v5:Z)(e:Int)(d:Nat)(h b:Int)(j:List Int)(c:Int)(a:List Int)(f:Int):stepT Q8 (L7 v0 v3 o1 g o v5 e d h b j c a f)=let i:=E2 18 (length v0:Int);let l:=(zc .i64<|0-e,CW<|zc .i64<|0-e);let m:=getD j (toNat b) 0-48;let k:=(VQ (10,CW 10) i,U8 (10,CW 10) i);let q:=decide (0<=E2 18 (length v0:Int))&&true&&decide (toNat i<=length v0)&&decide (length v0<=length v0);let p:=take (zy (length v0)<|toNat i)<|drop (toNat i) v0;let n:=Bc (10,CW 10)&&qD (y8 (10,CW 10)) i;let b':=(Fm (c,a) k,FB (c,a) k);let h':=Bc (c,a)&&Bc k;.di (b<h) (.ck (decide (0<=b)&&decide (b<(↑d:Int)))<|.cd (toNat b<length j)<|.di (zc .u8 m>9) .fail<|L7 v0 v3 o1 g o v5 (zc .i64<|zc .i64 (e*10)+zc .i64 (zc .u8 m)) d h (zc .i64<|b+1) j c a f) (.cd (0<(length v5:Int))<|.ite ((↑(zi<|getD v5 0 (0:UInt8)):Int)==45) (.ck true<|.ck n<|.ck h'<|.ck true<|.ck (Bc b'&&Bc l)<|.ck q<|L5 p v3 (Kd b' l) (Kf b' l) f)<|.ck true<|.ck n<|.ck h'<|.ck true<|.ck (Bc b'&&Bc (e,CW e))<|.ck q<|L5 p v3 (Kd b' (e,CW e)) (Kf b' (e,CW e)) f):=by kernel_rfl
end T126
namespace T201
def T(s t:Z):Tr:=tree bN false 9 201<|Ae ([zh,zh]) (s,t)
def L1(s t v0:Z)(v4:Int)(a:List Bool):Tr:=re ((T s t).R.R.L.L.R)<|Aw 21 [(0,.dat zh v0),(2,.ptr 0 0),(4,.dat i64 v4)] [(0,.arr false 266 zl a)] 1
def L2(s t v0:Z)(v4:Int)(a:List Bool):Tr:=re ((T s t).R.R.R)<|Aw 21 [(0,.dat zh v0),(2,.ptr 0 0),(4,.dat i64 v4)] [(0,.arr false 266 zl a)] 1
theorem Ai(s t:Z):T s t=let a:=decide (0<(length t:Int));let b':Tr:=.leaf (.dat zh s) [];.ite (s==[]) b' (.ite (t==[]) b'<|.ite ((length t:Int)==1) (.ck a<|.di ((↑(zi<|getD t 0 (0:UInt8)):Int)<128) (.ck a<|.ck a<|.ck false<|.ck false b')<|L1 s t t 0 Sp.zE)<|L2 s t t 0 Sp.zE):=by kernel_rfl
def L4(s t v0:Z)(v4:Int)(c:List Bool)(b:Z)(o1:List Bool)(a:List Bool):Tr:=re ((stepT bN<|L2 s t v0 v4 c).R.L.L.L.L)<|Aw 22 [(0,.dat zh b),(1,.ptr 1 0)] [(1,.arr false 266 zl o1),(0,.arr false 266 zl a)] 2
theorem AH(s t v0:Z)(v4:Int)(a:List Bool):stepT bN (L2 s t v0 v4 a)=let b:=(↑(zi<|getD v0 (toNat v4) (0:UInt8)):Int);let b':=decide (length a=256);let c:=decide (v4<(length v0:Int));.ite c (.ck (decide (0<=v4)&&c)<|.di (b>=128) (.ck b'<|.ck b'<|.cd (256=256)<|.ck true<|.ck false<|.ck false<|.leaf (.dat zh s) [])<|.ck (decide ((0:qf (zm yh))<=b)&&decide (b<(↑256:Int)))<|.cd (toNat b<length a)<|L2 s t v0 (zc .i64<|v4+1)<|set a (toNat b) true) (.ck b'<|.ck b'<|.cd (256=256)<|.ck true<|L4 s t v0 v4 a s ((Sp.Aac a))<|(Sp.Aac a)):=by kernel_rfl
def L7(s t v0:Z)(v4:Int)(f:List Bool)(e:Z)(o1:List Bool)(c:List Bool)(a:Z)(d:List Bool)(b:List Bool):Tr:=re ((stepT bN<|L4 s t v0 v4 f e o1 c).L.L.L.L.L)<|Aw 16 [(0,.dat zh a),(1,.ptr 1 0)] [(1,.arr false 266 zl d),(0,.arr false 266 zl b)] 2
def L8(s t v0:Z)(v4:Int)(f:List Bool)(e:Z)(o1:List Bool)(c:List Bool)(a:Z)(d:List Bool)(b:List Bool):Tr:=re ((stepT bN<|L4 s t v0 v4 f e o1 c).R)<|Aw 16 [(0,.dat zh a),(1,.ptr 1 0)] [(1,.arr false 266 zl d),(0,.arr false 266 zl b)] 2
theorem CD(s t v0:Z)(v4:Int)(d:List Bool)(a:Z)(o1:List Bool)(b:List Bool):stepT bN (L4 s t v0 v4 d a o1 b)=let b':=(↑(length a):Int);let e:=zc .i64<|b'-1;let f:=decide (0<=zc .i64 (b'-1));let c:=(↑(zi<|getD a (toNat e) (0:UInt8)):Int);.di (b'>0) (.ck (f&&decide (zc .i64 (b'-1)<b'))<|.ck (decide ((0:qf (zm yh))<=c)&&decide (c<(↑256:Int)))<|.cd (toNat c<length o1)<|.ite (!getD o1 (toNat c) false) (L7 s t v0 v4 d a o1 b a o1 b)<|.ck (f&&decide (0<=toNat e)&&decide (toNat e<=length a))<|L4 s t v0 v4 d (take (toNat e) a) o1 b) (L8 s t v0 v4 d a o1 b a o1 b):=by kernel_rfl
theorem D1(s t v0:Z)(v4:Int)(g:List Bool)(e:Z)(o1:List Bool)(d:List Bool)(a:Z)(b:List Bool)(c:List Bool):stepT bN (L7 s t v0 v4 g e o1 d a b c)=let f:=(↑(zi<|getD a 0 (0:UInt8)):Int);let b':Tr:=.leaf (.dat zh a) [];.di ((↑(length a):Int)>0) (.cd (0<(↑(length a):Int))<|.ck (decide ((0:qf (zm yh))<=f)&&decide (f<(↑256:Int)))<|.cd (toNat f<length b)<|.ite (!getD b (toNat f) false) b'<|.ck (decide (1<=length a)&&decide (length a<=length a))<|L7 s t v0 v4 g e o1 d (take (zy (length a) 1)<|drop 1 a) b c) b':=by kernel_rfl
theorem Hs(s t v0:Z)(v4:Int)(g:List Bool)(e:Z)(o1:List Bool)(d:List Bool)(a:Z)(b:List Bool)(c:List Bool):stepT bN (L8 s t v0 v4 g e o1 d a b c)=let f:=(↑(zi<|getD a 0 (0:UInt8)):Int);let b':Tr:=.leaf (.dat zh a) [];.di ((↑(length a):Int)>0) (.cd (0<(↑(length a):Int))<|.ck (decide ((0:qf (zm yh))<=f)&&decide (f<(↑256:Int)))<|.cd (toNat f<length b)<|.ite (!getD b (toNat f) false) b'<|.ck (decide (1<=length a)&&decide (length a<=length a))<|L8 s t v0 v4 g e o1 d (take (zy (length a) 1)<|drop 1 a) b c) b':=by kernel_rfl
end T201
namespace T167
def T(s:Z):Tr:=tree XH1 false 9 167<|Ae ([zh]) s
theorem Ai(s:Z):T s=.ite (!s==[]) (.ck (Sp.yK s [(48:UInt8),49,50,51,52,53,54,55,56,57])<|.ite (Sp.Qa s==[]) (.cd (0<(length s:Int))<|.ite ((↑(zi<|getD s 0 (0:UInt8)):Int) !=48) (.leaf (.bl true) [])<|.leaf (.dat zl<|s==[(48:UInt8)]) [])<|.leaf (.bl false) []) (.leaf (.bl false) []):=by kernel_rfl
end T167
namespace T166
def T(s t:Z):Tr:=tree Oi false 9 166<|Ae ([zh,zh]) (s,t)
theorem Ai(s t:Z):T s t=let a:=(length t:Int);let b':Tr:=.leaf (.tup [.dat zh s,.bl false]) [];let b:=decide (toNat a<=length s);.di ((length s:Int)>=a) (.ck (decide (0<=a)&&decide (0<=toNat a)&&b)<|.ite (!take (toNat a) s==t) b'<|.ck (decide (0<=a)&&true&&b&&decide (length s<=length s))<|.leaf (.tup [.dat zh<|take (zy (length s)<|toNat a)<|drop (toNat a) s,.bl true]) []) b':=by kernel_rfl
end T166
namespace T124
def T(s t:Z):Tr:=tree XH2 false 9 124<|Ae ([zh,zh]) (s,t)
theorem Ai(s t:Z):T s t=let b':=(↑(zi<|getD t 0 (0:UInt8)):Int);let a:=(length t:Int);let c:Tr:=.leaf (.tup [.dat zh s,.dat zh [],.bl false]) [];let b:=decide (length s<=length s);let h:=By [zm yh];let d:=zc .i64<|Sp.Qs s b'+a;let e:=zc .i64<|(-1)+a;let h':=zc .i64<|0+a;let f:=Sp.Qs s b';let g:Tr:=.ite true (.cd (0<=length s)<|.ck (decide (0<=zc .i64 (0+a))&&true&&decide (toNat h'<=length s)&&b)<|.leaf (.tup [.dat zh<|take 0 s,.dat zh<|take (zy (length s)<|toNat h')<|drop (toNat h') s,.bl true]) []) c;.ite (a==0) g (.ite (t==s) g<|.ite (a==1) (.cd (0<a)<|.ck (decide ((0:qf h)<=b')&&decide (b'<(256:qf h)))<|.di (Sp.Qs s b'>=0) (.ck (decide (0<=Sp.Qs s b')&&decide (0<=toNat f)&&decide (toNat f<=length s))<|.ck (decide (0<=zc .i64 (Sp.Qs s b'+a))&&true&&decide (toNat d<=length s)&&b)<|.leaf (.tup [.dat zh<|take (toNat f) s,.dat zh<|take (zy (length s)<|toNat d)<|drop (toNat d) s,.bl true]) []) c)<|.cd (a>=(length s:Int))<|.ite false (.ck (false&&decide (0<=length s))<|.ck (decide (0<=zc .i64 ((-1)+a))&&true&&decide (toNat e<=length s)&&b)<|.leaf (.tup [.dat zh<|take 0 s,.dat zh<|take (zy (length s)<|toNat e)<|drop (toNat e) s,.bl true]) []) c):=by kernel_rfl
end T124
namespace T193
def T(w:List Int):Tr:=tree qQ false 9 193<|Ae ([ze i64]) w
def L1(v0:List Int):Tr:=re ((T []))<|Aw 21 [(0,.dat (ze i64) v0)] [] 0
theorem Ai(w:List Int):T w=L1 w:=by kernel_rfl
theorem Al(v0:List Int):stepT qQ (L1 v0)=let b':=(length v0:Int);let b:Tr:=.leaf (.dat (ze i64) v0) [];let a:=zc .i64<|b'-1;let c:=decide (0<=zc .i64 (b'-1));.di (b'>0) (.ck (c&&decide (zc .i64 (b'-1)<b'))<|.ite (getD v0 (toNat a) 0==0) (.ck (c&&decide (0<=toNat a)&&decide (toNat a<=length v0))<|L1<|take (toNat a) v0) b) b:=by kernel_rfl
end T193
namespace T155
def T(n:Bool)(w:List Int):Tr:=tree fJ false 9 155<|Ae ([zl,ze i64]) (n,w)
theorem Ai(n:Bool)(w:List Int):T n w=.cd (length w<=20000) (.ite n (.leaf (zq [.dat zl<|decide ((↑(length<|Ax w):Int)>0),.dat (ze i64)<|Ax w]) [])<|.leaf (zq [.bl false,.dat (ze i64)<|Ax w]) []):=by kernel_rfl
end T155
namespace T157
def T(a b:List Int):Tr:=tree qQ false 9 157<|Ae ([ze i64,ze i64]) (a,b)
def L1(v0 v1:List Int)(v5:Int):Tr:=re ((T [] []).R)<|Aw 41 [(0,.dat (ze i64) v0),(1,.dat (ze i64) v1),(5,.dat i64 v5)] [] 0
theorem Ai(a b:List Int):T a b=let c:=(length a:Int);.ite (c !=(length b:Int)) (.di (c<(length b:Int)) (.leaf (.dat i64 (-1:Int)) [])<|.leaf (.dat i64 (1:Int)) []) (L1 a b<|zc .i64<|c-1):=by kernel_rfl
theorem Al(v0 v1:List Int)(v5:Int):stepT qQ (L1 v0 v1 v5)=let a:=decide (0<=v5)&&decide (v5<(length v0:Int));let b':=decide (0<=v5)&&decide (v5<(length v1:Int));.di (v5>=0) (.ck a<|.ck b'<|.di (getD v0 (toNat v5) 0<getD v1 (toNat v5) 0) (.leaf (.dat i64 (-1:Int)) [])<|.ck a<|.ck b'<|.di (getD v0 (toNat v5) 0>getD v1 (toNat v5) 0) (.leaf (.dat i64 (1:Int)) [])<|L1 v0 v1<|zc .i64<|v5-1) (.leaf (.dat i64 (0:Int)) []):=by kernel_rfl
end T157
namespace T159
def T(a b:List Int):Tr:=tree fJ false 9 159<|Ae ([ze i64,ze i64]) (a,b)
def L1(v0 v1:List Int)(a:Nat)(c:Int)(b:List Int):Tr:=re ((T [] []).L)<|Aw 72 [(0,.dat (ze i64) v0),(1,.dat (ze i64) v1),(5,.sl 0 1 0 a none),(6,.dat i64 c)] [(0,.arr false 3 i64 b)] 1
theorem Ai(a b:List Int):T a b=let c:=(length a:Int)+(length b:Int);let b':=zc .i64 c;.ck (decide (0<=zc .i64 c)&&decide (zc .i64 c=zc .i64 c)&&decide (8*toNat b'<=281474976710656)&&decide (zc .i64 c<9223372036854775808)) (L1 a b (toNat b') 0<|replicate (toNat b') 0):=by kernel_rfl
def L2(v0 v1:List Int)(a:Nat)(e b c:Int)(d:List Int):Tr:=re ((stepT fJ<|L1 [] [] 0 0 []).L)<|Aw 72 [(0,.dat (ze i64) v0),(1,.dat (ze i64) v1),(5,.sl 0 1 0 a none),(6,.dat i64 e),(7,.dat i64 b),(8,.dat i64 c)] [(0,.arr false 3 i64 d)] 1
theorem Al(v0 v1:List Int)(a:Nat)(c:Int)(b:List Int):stepT fJ (L1 v0 v1 a c b)=.di (c<(length v0:Int)) (L2 v0 v1 a c 0 0 b) (.ck (decide (0+a<=length b)&&true&&decide (length (take a b)<=20000))<|.leaf (.dat (ze i64)<|Ax<|take a b) []):=by kernel_rfl
theorem AH(v0 v1:List Int)(a:Nat)(b e c:Int)(d:List Int):stepT fJ (L2 v0 v1 a b e c d)=let k:=decide (0<=zc .i64 (b+c))&&decide (zc .i64 (b+c)<(↑a:Int));let g:=zc .i64<|b+c;let f:=(length v1:Int);let i:=zc .i64<|zc .i64 (getD d (toNat g) 0+zc .i64 (getD v0 (toNat b) 0*getD v1 (toNat c) 0))+e;let b':=b+f;let j:=decide (toNat g<length d);let l:=decide (0<=zc .i64 b')&&decide (zc .i64 b'<(↑a:Int));let h:=zc .i64 b';let h':=decide (toNat h<length d);.di (c<f) (.ck k<|.ck j<|.ck (decide (0<=b)&&decide (b<(length v0:Int)))<|.ck (decide (0<=c)&&decide (c<f))<|.ck true<|.ck k<|.ck j<|.ck true<|L2 v0 v1 a b (zc .i64<|yn i 1000000000) (zc .i64<|c+1)<|set d (toNat g)<|ya i 1000000000) (.ck l<|.ck h'<|.ck l<|.ck h'<|L1 v0 v1 a (zc .i64<|b+1)<|set d (toNat h)<|zc .i64<|getD d (toNat h) 0+e):=by kernel_rfl
end T159
namespace T192
def T(a:List Int)(d:Int):Tr:=tree fJ false 9 192<|Ae ([ze i64,zm ym]) (a,d)
def L1(v0:List Int)(v1:Int)(a:Nat)(b c:Int)(d:List Int):Tr:=re ((T [] 0).L)<|Aw 39 [(0,.dat (ze i64) v0),(1,.dat i64 v1),(6,.sl 0 1 0 a none),(7,.dat i64 b),(8,.dat i64 c)] [(0,.arr false 3 i64 d)] 1
theorem Ai(a:List Int)(d:Int):T a d=let b:=(length a:Int);.ck (decide (0<=b)&&decide (b=b)&&decide (8*toNat b<=281474976710656)&&decide (b<9223372036854775808)) (L1 a d (toNat b) 0 (zc .i64<|b-1)<|replicate (toNat b) 0):=by kernel_rfl
theorem Al(v0:List Int)(v1:Int)(a:Nat)(d b:Int)(c:List Int):stepT fJ (L1 v0 v1 a d b c)=let e:=zc .i64<|zc .i64 (d*1000000000)+getD v0 (toNat b) 0;.di (b>=0) (.ck (decide (0<=b)&&decide (b<(length v0:Int)))<|.cd (v1≠0)<|.ck (decide (0<=b)&&decide (b<(↑a:Int)))<|.cd (toNat b<length c)<|.cd (v1≠0)<|L1 v0 v1 a (ya e v1) (zc .i64<|b-1)<|set c (toNat b)<|zc .i64<|yn e v1) (.ck (decide (0+a<=length c)&&true&&decide (length (take a c)<=20000))<|.leaf (.tup [.dat (ze i64)<|Ax<|take a c,.dat i64 d]) []):=by kernel_rfl
end T192
namespace T154
def T(a b:List Int):Tr:=tree MM false 9 154<|Ae ([ze i64,ze i64]) (a,b)
def L1(v0:List Int)(c:Nat)(v9:List Int)(b:Int)(a:Nat)(o1 d:List Int):Tr:=re ((T [] []).L.R.R.L.L.L.L.L)<|Aw 206 [(0,.dat (ze i64) v0),(8,.sl 0 1 0 c none),(9,.dat (ze i64) v9),(10,.dat i64 b),(11,.sl 1 1 0 a none)] [(1,.arr false 3 i64 o1),(0,.arr true 3 i64 d)] 2
theorem Ai(a b:List Int):T a b=let c:=(length b:Int);let f:=getD b (toNat<|zc .i64<|c-1) 0+1;let d:=yn 1000000000<|zc .i64 f;let b':=An a*An [zc .i64 d];let e:=BL<|An b*An [zc .i64 d];.ck (Ba a&&Ba b) (.di (Cg (An a) (An b)<0) (.leaf (.tup [.nil,.dat (ze i64) a]) [])<|.ite (c==1) (.cd (0<c)<|.ck (Kp a&&decide (0<getD b 0 0)&&decide (getD b 0 0<1000000000))<|.ck (decide (1<=1)&&true&&decide (1<=20000))<|.leaf (.tup [.dat (ze i64)<|BL<|An a/getD b 0 0,.dat (ze i64)<|Ax [An a % getD b 0 0]]) [])<|.ck (decide (0<=zc .i64 (c-1))&&decide (zc .i64 (c-1)<c))<|.cd (zc .i64 f≠0)<|.ck (decide (1<=1)&&true&&(Sp.hR b&&Sp.hR [zc .i64 d]))<|.ck (decide (1<=1)&&true&&(Sp.hR a&&Sp.hR [zc .i64 d]))<|.cd ((3*(0+length (BL b'))+2000)*8<=562949953421312)<|L1 a 1 e ((↑(length e):Int)) (zo 0<|length<|BL b') ([]++BL b')<|[zc .i64 d]):=by kernel_rfl
def L2(c:Nat)(v9:List Int)(d:Int)(b a:Nat)(e:Int)(g o1 f:List Int):Tr:=re ((stepT MM<|L1 [] 0 [] 0 0 [] []).R.L)<|Aw 206 [(8,.sl 0 1 0 c none),(9,.dat (ze i64) v9),(10,.dat i64 d),(11,.sl 1 1 0 b none),(12,.sl 2 1 0 a none),(13,.dat i64 e)] [(2,.arr false 3 i64 g),(1,.arr false 3 i64 o1),(0,.arr true 3 i64 f)] 3
theorem Al(v0:List Int)(c:Nat)(v9:List Int)(b:Int)(a:Nat)(o1 e:List Int):stepT MM (L1 v0 c v9 b a o1 e)=let d:=(↑a:Int)-b;let b':=zc .i64 d;.di ((↑a:Int)<zc .i64 ((length v0:Int)+1)) (.ck (decide (a=length o1)&&decide ((3*(a+1)+2000)*8<=562949953421312))<|L1 v0 c v9 b (zo a 1) (o1++[0]) e) (.ck (decide (0<=zc .i64 d)&&decide (zc .i64 d=zc .i64 d)&&decide (8*toNat b'<=281474976710656)&&decide (zc .i64 d<9223372036854775808))<|L2 c v9 b a (toNat b') (zc .i64<|zc .i64 d-1) (replicate (toNat b') 0) o1 e):=by kernel_rfl
def L3(g:Nat)(v9:List Int)(j:Int)(c a:Nat)(k:Int)(n o1 m:List Int)(d:Nat)(v1:List Int)(v2 l:Int)(e:Int)(b:Int)(f:List Int)(h:List Int)(i:List Int):Tr:=re ((stepT MM<|L2 g v9 j c a k n o1 m).L.L.L.L.L.L.L.L.L)<|Aw 77 [(0,.sl 1 1 0 d none),(1,.dat (ze i64) v1),(2,.dat i64 v2),(7,.dat i64 l),(9,.dat i64 e),(10,.dat i64 b)] [(2,.arr false 3 i64 f),(1,.arr false 3 i64 h),(0,.arr true 3 i64 i)] 3
theorem AH(g:Nat)(v9:List Int)(d:Int)(a b:Nat)(c:Int)(h o1 f:List Int):stepT MM (L2 g v9 d a b c h o1 f)=let e:=(length v9:Int);let j:=take (toNat d) o1;let k:=toNat<|zc .i64<|e-1;let i:=zc .i64 (c+e)-1;let m:=decide (0<=zc .i64 (e-1))&&decide (zc .i64 (e-1)<e);let l:=zc .i64<|c+e;let b':=zc .i64<|zc .i64 (getD o1 (toNat l) 0*1000000000)+getD o1 (toNat<|zc .i64 i) 0;let h':=decide (getD v9 k 0≠0);.di (c>=0) (.ck (decide (0<=zc .i64 (c+e))&&decide (zc .i64 (c+e)<(↑a:Int)))<|.cd (toNat l<length o1)<|.ck (decide (0<=zc .i64 i)&&decide (zc .i64 i<(↑a:Int)))<|.cd (toNat (zc .i64 i)<length o1)<|.ck m<|.ck h'<|.ck m<|.ck h'<|L3 g v9 d a b c h o1 f a v9 c e (zc .i64<|yn b'<|getD v9 k 0) (ya b'<|getD v9 k 0) h o1 f) (.ck (decide (0<=d)&&true&&decide (0<=toNat d)&&decide (toNat d<=z7 none a)&&decide (z7 none a<=z7 none a)&&true)<|.cd (0<(↑g:Int))<|.cd (0<length f)<|.ck (decide (0+toNat d<=length o1)&&true&&decide (length j<=20000))<|.ck (Kp (Ax j)&&decide (0<getD f 0 0)&&decide (getD f 0 0<1000000000))<|.ck (decide (0+b<=length h)&&true&&decide (length (take b h)<=20000))<|.leaf (.tup [.dat (ze i64)<|Ax<|take b h,.dat (ze i64)<|BL<|An (Ax j)/getD f 0 0]) []):=by kernel_rfl
def L4(f:Nat)(v9:List Int)(g:Int)(b a:Nat)(d c h e:Int)(j o1 i:List Int):Tr:=re ((stepT MM<|L3 0 [] 0 0 0 0 [] [] [] 0 [] 0 0 0 0 [] [] []).L.L.L)<|Aw 206 [(8,.sl 0 1 0 f none),(9,.dat (ze i64) v9),(10,.dat i64 g),(11,.sl 1 1 0 b none),(12,.sl 2 1 0 a none),(13,.dat i64 d),(14,.dat i64 c),(15,.dat i64 h),(16,.dat i64 e)] [(2,.arr false 3 i64 j),(1,.arr false 3 i64 o1),(0,.arr true 3 i64 i)] 3
theorem B5(h:Nat)(v9:List Int)(j:Int)(b a:Nat)(g:Int)(p o1 n:List Int)(l:Nat)(v1:List Int)(v2 f:Int)(d:Int)(e:Int)(k:List Int)(c:List Int)(i:List Int):stepT MM (L3 h v9 j b a g p o1 n l v1 v2 f d e k c i)=let b':=zc .i64 (v2+f)-2;let q:=e+getD v1 (toNat<|zc .i64<|f-1) 0;let o:=zc .i64<|d-1;let m:Tr:=.ck (decide (0<=zc .i64 (f-1))&&decide (zc .i64 (f-1)<(length v1:Int)))<|.di (zc .i64 q>=1000000000) (L4 h v9 j b a g o 0 0 k c i)<|L3 h v9 j b a g p o1 n l v1 v2 f o (zc .i64 q) k c i;.di (d>=1000000000) m (.ck (decide (0<=zc .i64 (f-2))&&decide (zc .i64 (f-2)<(length v1:Int)))<|.ck (decide (0<=zc .i64 b')&&decide (zc .i64 b'<(↑l:Int)))<|.cd (toNat (zc .i64 b')<length c)<|.di (zc .i64 (d*getD v1 (toNat<|zc .i64<|f-2) 0)>zc .i64 (zc .i64 (e*1000000000)+getD c (toNat<|zc .i64 b') 0)) m<|L4 h v9 j b a g d 0 0 k c i):=by kernel_rfl
def L5(e:Nat)(v9:List Int)(f:Int)(b a:Nat)(d c g v20:Int)(i o1 h:List Int):Tr:=re ((stepT MM<|L4 0 [] 0 0 0 0 0 0 0 [] [] []).R.L.L.L.L.L.L.L)<|Aw 206 [(8,.sl 0 1 0 e none),(9,.dat (ze i64) v9),(10,.dat i64 f),(11,.sl 1 1 0 b none),(12,.sl 2 1 0 a none),(13,.dat i64 d),(14,.dat i64 c),(19,.dat i64 g),(20,.dat i64 v20)] [(2,.arr false 3 i64 i),(1,.arr false 3 i64 o1),(0,.arr true 3 i64 h)] 3
theorem CD(g:Nat)(v9:List Int)(d:Int)(b c:Nat)(a f h e:Int)(i o1 k:List Int):stepT MM (L4 g v9 d b c a f h e i o1 k)=let o:=decide (0<=zc .i64 (e+a))&&decide (zc .i64 (e+a)<(↑b:Int));let n:=decide (0<=zc .i64 (a+d))&&decide (zc .i64 (a+d)<(↑b:Int));let r:=zc .i64<|zc .i64 (f*getD v9 (toNat e) 0)+h;let m:=zc .i64<|e+a;let j:=zc .i64<|a+d;let s:=zc .i64<|e+1;let l:=set o1 (toNat j)<|zc .i64<|getD o1 (toNat j) 0-h;let b':=getD o1 (toNat m) 0-ya r 1000000000;let h':=decide (toNat m<length o1);let p:=decide (toNat j<length o1);let q:=yn r 1000000000;.di (e<d) (.ck (decide (0<=e)&&decide (e<(length v9:Int)))<|.ck o<|.ck h'<|.ck true<|.ck true<|.di (zc .i64 b'<0) (.ck o<|.ck h'<|L4 g v9 d b c a f (zc .i64<|zc .i64 q+1) s i (set o1 (toNat m)<|zc .i64<|zc .i64 b'+1000000000) k)<|.ck o<|.ck h'<|L4 g v9 d b c a f (zc .i64 q) s i (set o1 (toNat m)<|zc .i64 b') k) (.ck n<|.ck p<|.ck n<|.ck p<|.ck n<|.cd (toNat j<length l)<|.di (getD l (toNat j) 0<0) (L5 g v9 d b c a (zc .i64<|f-1) 0 0 i l k)<|.ck (decide (0<=a)&&decide (a<(↑c:Int)))<|.cd (toNat a<length i)<|L2 g v9 d b c (zc .i64<|a-1) (set i (toNat a) f) l k):=by kernel_rfl
theorem EG(g:Nat)(v9:List Int)(c:Int)(b d:Nat)(a f e v20:Int)(h o1 i:List Int):stepT MM (L5 g v9 c b d a f e v20 h o1 i)=let b':=decide (0<=zc .i64 (v20+a))&&decide (zc .i64 (v20+a)<(↑b:Int));let o:=decide (0<=zc .i64 (a+c))&&decide (zc .i64 (a+c)<(↑b:Int));let j:=zc .i64<|v20+a;let k:=zc .i64<|a+c;let l:=zc .i64<|zc .i64 (getD o1 (toNat j) 0+getD v9 (toNat v20) 0)+e;let n:=decide (toNat j<length o1);let m:=decide (toNat k<length o1);.di (v20<c) (.ck b'<|.ck n<|.ck (decide (0<=v20)&&decide (v20<(length v9:Int)))<|.ck true<|.ck b'<|.ck n<|.ck true<|L5 g v9 c b d a f (zc .i64<|yn l 1000000000) (zc .i64<|v20+1) h (set o1 (toNat j)<|ya l 1000000000) i) (.ck o<|.ck m<|.ck o<|.ck m<|.ck (decide (0<=a)&&decide (a<(↑d:Int)))<|.cd (toNat a<length h)<|L2 g v9 c b d (zc .i64<|a-1) (set h (toNat a) f) (set o1 (toNat k)<|zc .i64<|getD o1 (toNat k) 0+e) i):=by kernel_rfl
end T154
namespace T130
def T(a b:List Int):Tr:=tree XG3 false 9 130<|Ae ([ze i64,ze i64]) (a,b)
def L1(v0 v1:List Int):Tr:=re ((T [] []))<|Aw 19 [(0,.dat (ze i64) v0),(1,.dat (ze i64) v1)] [] 0
theorem Ai(a b:List Int):T a b=L1 a b:=by kernel_rfl
theorem Al(v0 v1:List Int):stepT XG3 (L1 v0 v1)=.di ((length v1:Int)>0) (.ck (Ba v0&&Ba v1&&decide (length v0<=9000)&&decide (length v1<=9000)&&decide (0<An v1))<|L1 v1<|BL<|An v0 % An v1) (.leaf (.dat (ze i64) v0) []):=by kernel_rfl
end T130
namespace T152
def T(s:Z):Tr:=tree qQ false 9 152<|Ae ([zh]) s
def L1(v0:Z)(v3 v4:Int):Tr:=re ((T []))<|Aw 20 [(0,.dat zh v0),(3,.dat i64 v3),(4,.dat i64 v4)] [] 0
theorem Ai(s:Z):T s=L1 s 0 0:=by kernel_rfl
theorem Al(v0:Z)(v3 v4:Int):stepT qQ (L1 v0 v3 v4)=let a:=decide (v4<(length v0:Int));.ite a (.ck (decide (0<=v4)&&a)<|L1 v0 (zc .i64<|zc .i64 (zc .i64 (10*v3)+zc .i64 (↑(zi<|getD v0 (toNat v4) (0:UInt8)):Int))-48)<|zc .i64<|v4+1) (.leaf (.dat i64 v3) []):=by kernel_rfl
end T152
namespace T149
def T(s:Z):Tr:=tree fK false 9 149<|Ae ([zh]) s
def L1(v0:Z)(v3:Bool):Tr:=re ((T []).L.L.L.L)<|Aw 40 [(0,.dat zh v0),(2,.ptr 0 0),(3,.dat zl v3),(4,.nil)] [(0,.box [.bl false,.nil])] 1
def L2(v0:Z):Tr:=re ((T []).R)<|Aw 40 [(0,.dat zh v0),(2,.ptr 0 0),(3,.bl false),(4,.nil)] [(0,.box [.bl false,.nil])] 1
theorem Ai(s:Z):T s=let a:=(↑(zi<|getD s 0 (0:UInt8)):Int)==45;.di ((length s:Int)>0) (.cd (0<(length s:Int))<|.ite a (.ck (decide (1<=length s)&&decide (length s<=length s))<|L1 (take (zy (length s) 1)<|drop 1 s) a)<|L1 s a) (L2 s):=by kernel_rfl
def L3(v0:Z)(v3:Bool)(a:Nat)(o1:List Int):Tr:=re ((stepT fK<|L1 [] false).L.L.L.L.L)<|Aw 40 [(0,.dat zh v0),(2,.ptr 0 0),(3,.dat zl v3),(4,.sl 1 1 0 a none)] [(1,.arr false 3 i64 o1),(0,.box [.bl false,.nil])] 2
theorem Al(v0:Z)(v3:Bool):stepT fK (L1 v0 v3)=let b':=decide (1<=1)&&decide (0<1)&&decide ((3*1+2000)*8<=562949953421312);let b:=(length v0:Int);let a:=zc .i64<|b-9;let c:=decide (0<=zc .i64 (b-9));let d:=take (zy (length v0)<|toNat a)<|drop (toNat a) v0;let e:=decide (toNat a<=length v0);.di (b>9) (.ck (c&&true&&e&&decide (length v0<=length v0))<|.ck (Ea d)<|.ck b'<|.ck (c&&decide (0<=toNat a)&&e)<|L3 (take (toNat a) v0) v3 1<|[BZ d]) (.ck (Ea v0)<|.ck b'<|.ck (decide (0+1<=1)&&true&&decide (1<=20000))<|.leaf (zq [.dat zl<|CH v3 [BZ v0],.dat (ze i64)<|Ax [BZ v0]]) []):=by kernel_rfl
def L4(v0:Z)(a:Nat)(o1:List Int):Tr:=re ((stepT fK<|L2 []).L.L.L.L.L)<|Aw 40 [(0,.dat zh v0),(2,.ptr 0 0),(3,.bl false),(4,.sl 1 1 0 a none)] [(1,.arr false 3 i64 o1),(0,.box [.bl false,.nil])] 2
theorem AH(v0:Z):stepT fK (L2 v0)=let b':=decide (1<=1)&&decide (0<1)&&decide ((3*1+2000)*8<=562949953421312);let b:=(length v0:Int);let a:=zc .i64<|b-9;let c:=decide (0<=zc .i64 (b-9));let d:=take (zy (length v0)<|toNat a)<|drop (toNat a) v0;let e:=decide (toNat a<=length v0);.di (b>9) (.ck (c&&true&&e&&decide (length v0<=length v0))<|.ck (Ea d)<|.ck b'<|.ck (c&&decide (0<=toNat a)&&e)<|L4 (take (toNat a) v0) 1<|[BZ d]) (.ck (Ea v0)<|.ck b'<|.ck (decide (0+1<=1)&&true&&decide (1<=20000))<|.leaf (zq [.dat zl<|CH false [BZ v0],.dat (ze i64)<|Ax [BZ v0]]) []):=by kernel_rfl
theorem B5(v0:Z)(v3:Bool)(a:Nat)(o1:List Int):stepT fK (L3 v0 v3 a o1)=let b':=decide (1<=1)&&true&&decide (a=length o1)&&decide ((3*(a+1)+2000)*8<=562949953421312);let c:=take (zo a 1)<|o1++[BZ v0];let d:=(length v0:Int);let b:=zc .i64<|d-9;let g:=decide (0<=zc .i64 (d-9));let f:=take (zy (length v0)<|toNat b)<|drop (toNat b) v0;let e:=decide (toNat b<=length v0);.di (d>9) (.ck (g&&true&&e&&decide (length v0<=length v0))<|.ck (Ea f)<|.ck b'<|.ck (g&&decide (0<=toNat b)&&e)<|L3 (take (toNat b) v0) v3 (zo a 1)<|o1++[BZ f]) (.ck (Ea v0)<|.ck b'<|.ck (decide (0+zo a 1<=length (o1++[BZ v0]))&&true&&decide (length c<=20000))<|.leaf (zq [.dat zl<|CH v3 c,.dat (ze i64)<|Ax c]) []):=by kernel_rfl
theorem CD(v0:Z)(a:Nat)(o1:List Int):stepT fK (L4 v0 a o1)=let b':=decide (1<=1)&&true&&decide (a=length o1)&&decide ((3*(a+1)+2000)*8<=562949953421312);let c:=take (zo a 1)<|o1++[BZ v0];let d:=(length v0:Int);let b:=zc .i64<|d-9;let g:=decide (0<=zc .i64 (d-9));let f:=take (zy (length v0)<|toNat b)<|drop (toNat b) v0;let e:=decide (toNat b<=length v0);.di (d>9) (.ck (g&&true&&e&&decide (length v0<=length v0))<|.ck (Ea f)<|.ck b'<|.ck (g&&decide (0<=toNat b)&&e)<|L4 (take (toNat b) v0) (zo a 1)<|o1++[BZ f]) (.ck (Ea v0)<|.ck b'<|.ck (decide (0+zo a 1<=length (o1++[BZ v0]))&&true&&decide (length c<=20000))<|.leaf (zq [.dat zl<|CH false c,.dat (ze i64)<|Ax c]) []):=by kernel_rfl
end T149
namespace T106n
def T(n:Int):Tr:=tree XF0 false 9 106<|Ae ([zm ym]) n
theorem Ai(n:Int):T n=.leaf (zq [.dat i64 n,.nil]) []:=by kernel_rfl
end T106n
namespace T190
def T(a b:AG):Tr:=tree XF1 false 9 190<|Ae ([AY,AY]) (a,b)
def L1(d:Bool)(b c:List Int)(e o1 f:Int)(a:List Int):Tr:=re ((T (0,[]) (0,[])).L.L.R.L.L.L)<|Aw 84 [(3,.ptr 0 0),(4,.ptr 1 0),(5,.ptr 2 0),(8,.dat zl d),(12,.dat (ze<|zm zd) b),(13,.dat (ze<|zm zd) c)] [(2,.box [.dat i64 e,.nil]),(1,.box [.dat i64 o1,.nil]),(0,.box [.dat i64 f,.dat wU a])] 3
theorem Ai(a b:AG):T a b=let b':=BA<|Ag<|y8 a;let d:=BA<|Ag<|y8 b;let e:=yn (fst a)<|fst b;let c:Tr:=.ck (yr a)<|.ck (yr b)<|.ck (Sz b' d)<|L1 (decide (y8 a<0)) (BA<|As b'/As d) (BA<|As b' % As d) 0 0 (fst b)<|snd b;.ite (!decide (0<length (snd a))) (.ite (!decide (0<length (snd b))) (.ite (fst a !=(-9223372036854775808)) (.cd (fst b≠0)<|.cd (fst b≠0)<|.di (ya (fst a) (fst b)<0) (.leaf (.tup [zq [.dat i64<|zc .i64<|zc .i64 e-1,.nil],zq [.dat i64<|zc .i64<|ya (fst a) (fst b)+fst b,.nil]]) [])<|.leaf (.tup [zq [.dat i64<|zc .i64 e,.nil],zq [.dat i64<|ya (fst a)<|fst b,.nil]]) []) c) c) c:=by kernel_rfl
def L2(d:Int)(a:List Int)(g:Int)(c:List Int)(e o1 f:Int)(b:List Int):Tr:=re ((stepT XF1<|L1 false [] [] 0 0 0 []).L.L)<|Aw 84 [(3,.ptr 0 0),(4,.ptr 1 0),(5,.ptr 2 0),(14,.ptr 3 0),(15,.ptr 4 0)] [(4,.box [.dat i64 d,.dat wU a]),(3,.box [.dat i64 g,.dat wU c]),(2,.box [.dat i64 e,.nil]),(1,.box [.dat i64 o1,.nil]),(0,.box [.dat i64 f,.dat wU b])] 5
theorem Al(d:Bool)(b c:List Int)(g o1 f:Int)(a:List Int):stepT XF1 (L1 d b c g o1 f a)=let e:=Sp.sg d<|As c;let b':=Sp.sg d<|As b;.ck (Cp b) (.ck (Cp c)<|L2 (C1 e) (C0 e) (C1 b') (C0 b') g o1 f a):=by kernel_rfl
theorem AH(d:Int)(a:List Int)(e:Int)(b:List Int)(g o1 f:Int)(c:List Int):stepT XF1 (L2 d a e b g o1 f c)=.ck (yr (d,a)) (.di (Ir (d,a)<0) (.ck true<|.ck (Bc (e,b)&&Bc (1,CW 1))<|.ck (Bc (d,a)&&Bc (f,c))<|.leaf (.tup [zq [.dat i64<|ZJ (e,b) (1,CW 1),.dat wU<|ZN (e,b) (1,CW 1)],zq [.dat i64<|Kd (d,a) (f,c),.dat wU<|Kf (d,a) (f,c)]]) [])<|.leaf (.tup [zq [.dat i64 e,.dat wU b],zq [.dat i64 d,.dat wU a]]) []):=by kernel_rfl
end T190
namespace T170
def T(a b:AG):Tr:=tree XF2 false 9 170<|Ae ([AY,AY]) (a,b)
def L1(c o1:Int)(a:List Int)(d:Int)(b:List Int):Tr:=re ((T (0,[]) (0,[])).L.L)<|Aw 23 [(2,.ptr 0 0),(3,.ptr 1 0),(4,.ptr 2 0)] [(2,.box [.dat i64 c,.nil]),(1,.box [.dat i64 o1,.dat wU a]),(0,.box [.dat i64 d,.dat wU b])] 3
theorem Ai(a b:AG):T a b=.ck (yr a) (.ck (yr b)<|L1 0 (O8 b) (PB b) (O8 a)<|PB a):=by kernel_rfl
theorem Al(d o1:Int)(a:List Int)(c:Int)(b:List Int):stepT XF2 (L1 d o1 a c b)=.ck (yr (o1,a)) (.ite (Ir (o1,a) !=0) (.ck (Bc (c,b)&&Bc (o1,a)&&decide (0<y8 (o1,a)))<|L1 d (nO (c,b) (o1,a)) (kN (c,b) (o1,a)) o1 a)<|.leaf (zq [.dat i64 c,.dat wU b]) []):=by kernel_rfl
end T170
namespace T176
def T(a:AG)(k:Int):Tr:=tree XF3 false 9 176<|Ae ([AY,zm ym]) (a,k)
def L1(v1 c:Int)(b:List Int)(o1 d:Int)(a:List Int):Tr:=re ((T (0,[]) 0).L)<|Aw 23 [(1,.dat i64 v1),(2,.ptr 0 0),(4,.ptr 1 0),(5,.ptr 2 0)] [(2,.box [.dat i64 c,.dat wU b]),(1,.box [.dat i64 o1,.nil]),(0,.box [.dat i64 d,.dat wU a])] 3
theorem Ai(a:AG)(k:Int):T a k=.ck true (L1 k 1 (CW 1) 0 (fst a)<|snd a):=by kernel_rfl
theorem Al(v1 d:Int)(b:List Int)(o1 c:Int)(a:List Int):stepT XF3 (L1 v1 d b o1 c a)=let e:=Int.fdiv v1<|2^1;let b':=Bc (c,a)&&Bc (c,a);let g:=Fm (d,b) (c,a);let f:=FB (d,b) (c,a);let h:=Fm (c,a) (c,a);let i:=FB (c,a) (c,a);.di (v1>0) (.ite (H4 ym v1 1==1) (.ck (Bc (d,b)&&Bc (c,a))<|.di (v1>1) (.ck b'<|.ck true<|L1 e g f o1 h i)<|.ck true<|L1 e g f o1 c a)<|.di (v1>1) (.ck b'<|.ck true<|L1 e d b o1 h i)<|.ck true<|L1 e d b o1 c a) (.leaf (zq [.dat i64 d,.dat wU b]) []):=by kernel_rfl
end T176
namespace T212
def T(a b:List Int):Tr:=tree J7 false 9 212<|Ae ([ze<|zm zd,ze<|zm zd]) (a,b)
def L1(v0 v1:List Int)(a:Nat)(b c:Int)(d:List Int):Tr:=re ((T [] []).L.R.L.L)<|Aw 137 [(0,.dat (ze<|zm zd) v0),(1,.dat (ze<|zm zd) v1),(6,.sl 0 1 0 a none),(7,.dat (zm zd) b),(8,.dat i64 c)] [(0,.arr false 216 (zm zd) d)] 1
def L2(a b:List Int)(v1:Int)(e:Nat)(c:List Int)(f d:Int)(g:List Int):Tr:=re ((T a b).L.R.R.L.L.L)<|Aw 40 [(1,.dat i64 v1),(5,.sl 0 1 0 e none),(12,.dat (ze<|zm zd) c),(13,.dat i64 f),(14,.dat i64 d)] [(0,.arr false 216 (zm zd) g)] 1
theorem Ai(a b:List Int):T a b=let c:=(length b:Int);let b':=(length a:Int);let d:=zc .i64<|c+1;let e:=getD b (toNat<|zc .i64<|c-1) 0;.ck (Cp a&&Cp b) (.di (Cg (As a) (As b)<0) (.leaf (.tup [.nil,.dat (ze<|zm zd) a]) [])<|.ite (c==1) (.ck (decide (0<=b')&&decide (b'=b')&&decide (8*toNat b'<=281474976710656)&&decide (b'<9223372036854775808))<|L1 a b (toNat b') 0 (zc .i64<|b'-1)<|replicate (toNat b') 0)<|.ck (decide (0<=zc .i64 (c-1))&&decide (zc .i64 (c-1)<c))<|.ck (zt e)<|.ck (decide (0<=zc .i64 (c+1))&&decide (zc .i64 (c+1)=zc .i64 (c+1))&&decide (8*toNat d<=281474976710656)&&decide (zc .i64 (c+1)<9223372036854775808))<|L2 a b (Sp.lz e) (toNat d) b c 0<|replicate (toNat d) 0):=by kernel_rfl
theorem Al(v0 v1:List Int)(a:Nat)(c b:Int)(d:List Int):stepT J7 (L1 v0 v1 a c b d)=let e:=getD v0 (toNat b) 0;let b':=ze<|zm zd;.di (b>=0) (.ck (decide (0<=b)&&decide (b<(length v0:Int)))<|.cd (0<(length v1:Int))<|.ck (zt c&&zt e&&zt (getD v1 0 0)&&decide (c<getD v1 0 0))<|.ck (decide (0<=b)&&decide (b<(↑a:Int)))<|.cd (toNat b<length d)<|L1 v0 v1 a (Sp.dr c e<|getD v1 0 0) (zc .i64<|b-1)<|set d (toNat b)<|Sp.dq c e<|getD v1 0 0) (.ck (decide (0+a<=length d)&&true&&C4 (take a d))<|.ck (decide (1<=1)&&true&&C4 [c])<|.leaf (.tup [.dat b'<|Ax<|take a d,.dat b'<|Ax [c]]) []):=by kernel_rfl
def L3(a b:List Int)(v1:Int)(i:Nat)(g:List Int)(k h:Int)(m:List Int)(l:Int)(f:Nat)(e:List Int)(c:Int)(d:Int)(o1:List Int)(j:List Int):Tr:=re ((stepT J7<|L2 a b v1 i g k h m).R.L.L)<|Aw 40 [(1,.dat i64 l),(5,.sl 1 1 0 f none),(12,.dat (ze<|zm zd) e),(13,.dat i64 c),(14,.dat i64 d)] [(1,.arr false 216 (zm zd) o1),(0,.arr true 216 (zm zd) j)] 2
theorem AH(a b:List Int)(v1:Int)(d:Nat)(e:List Int)(f c:Int)(g:List Int):stepT J7 (L2 a b v1 d e f c g)=let i:=set g (toNat c)<|dO zd (getD g (toNat c) 0)<|zc .u64<|getD e (toNat c) 0*2^y9 (toNat v1) 64;let b':=(length a:Int)+1;let h:=zc .i64<|c+1;let k:=decide (0<=c)&&decide (c<(↑d:Int));let l:=decide (toNat c<length g);let j:=zc .i64 b';.di (c<f) (.ck (decide (0<=c)&&decide (c<(length e:Int)))<|.ck k<|.ck l<|.cd (0<=v1)<|.ck k<|.ck l<|.di (v1>0) (.cd (0<=zc .i64 (64-v1))<|.ck (decide (0<=zc .i64 (c+1))&&decide (zc .i64 (c+1)<(↑d:Int)))<|.cd (toNat h<length i)<|L2 a b v1 d e f h<|set i (toNat h)<|Int.fdiv (getD e (toNat c) 0)<|2^y9 (toNat<|zc .i64<|64-v1) 64)<|L2 a b v1 d e f h i) (.ck (decide (0+d<=length g)&&true&&C4 (take d g))<|.ck (decide (0<=zc .i64 b')&&decide (zc .i64 b'=zc .i64 b')&&decide (8*toNat j<=281474976710656)&&decide (zc .i64 b'<9223372036854775808))<|L3 a b v1 d e f c g (Sp.lz<|getD b (toNat<|zc .i64<|(length b:Int)-1) 0) (toNat j) a ((length a:Int)) 0 (replicate (toNat j) 0) g):=by kernel_rfl
def L4(v9:Int)(e:List Int)(b:Nat)(c:Int)(a:Nat)(d:Int)(o1 f:List Int):Tr:=re ((stepT J7<|L3 [] [] 0 0 [] 0 0 [] 0 0 [] 0 0 [] []).R.L)<|Aw 137 [(9,.dat i64 v9),(10,.dat (ze<|zm zd) e),(11,.sl 0 1 0 b none),(12,.dat i64 c),(13,.sl 1 1 0 a none),(14,.dat i64 d)] [(1,.arr false 216 (zm zd) o1),(0,.arr false 216 (zm zd) f)] 2
theorem B5(a b:List Int)(v1:Int)(h:Nat)(j:List Int)(i k:Int)(n:List Int)(f:Int)(e:Nat)(d:List Int)(g:Int)(c:Int)(o1:List Int)(l:List Int):stepT J7 (L3 a b v1 h j i k n f e d g c o1 l)=let b':=set o1 (toNat c)<|dO zd (getD o1 (toNat c) 0)<|zc .u64<|getD d (toNat c) 0*2^y9 (toNat f) 64;let o:=zc .i64<|c+1;let s:=decide (0<=c)&&decide (c<(↑e:Int));let r:=decide (toNat c<length o1);let h':=Ax<|take h n;let q:=(↑(length h'):Int);let m:=zc .i64 ((length a:Int)-q)+1;let p:=zc .i64 m;.di (c<g) (.ck (decide (0<=c)&&decide (c<(↑(length d):Int)))<|.ck s<|.ck r<|.cd (0<=f)<|.ck s<|.ck r<|.di (f>0) (.cd (0<=zc .i64 (64-f))<|.ck (decide (0<=zc .i64 (c+1))&&decide (zc .i64 (c+1)<(↑e:Int)))<|.cd (toNat o<length b')<|L3 a b v1 h j i k n f e d g o (set b' (toNat o)<|Int.fdiv (getD d (toNat c) 0)<|2^y9 (toNat<|zc .i64<|64-f) 64) l)<|L3 a b v1 h j i k n f e d g o b' l) (.ck (decide (0<=zc .i64 m)&&decide (zc .i64 m=zc .i64 m)&&decide (8*toNat p<=281474976710656)&&decide (zc .i64 m<9223372036854775808))<|L4 (Sp.lz<|getD b (toNat<|zc .i64<|(length b:Int)-1) 0) h' e q (toNat p) (zc .i64<|(length a:Int)-q) (replicate (toNat p) 0) o1):=by kernel_rfl
def L5(v9:Int)(i:List Int)(b:Nat)(c:Int)(a:Nat)(d:Int)(o1 l:List Int)(j e f:Nat)(v1:List Int)(v5 m k n:Int)(g:List Int)(h:List Int):Tr:=re ((stepT J7<|L4 v9 i b c a d o1 l).L.L.L.L.L.L.L.L.L.L)<|Aw 186 [(0,.sl 0 1 j e<|Option.some f),(1,.dat (ze<|zm zd) v1),(5,.dat i64 v5),(6,.dat (zm zd) m),(7,.dat (zm zd) k),(8,.dat (zm zd) n)] [(1,.arr false 216 (zm zd) g),(0,.arr false 216 (zm zd) h)] 2
def L6(v9:Int)(b:Nat)(c:Int)(a:Nat)(e d:Int)(o1 f:List Int):Tr:=re ((stepT J7<|L4 0 [] 0 0 0 0 [] []).R)<|Aw 137 [(9,.dat i64 v9),(11,.sl 0 1 0 b none),(12,.dat i64 c),(13,.sl 1 1 0 a none),(96,.dat i64 e),(97,.dat i64 d)] [(1,.arr false 216 (zm zd) o1),(0,.arr false 216 (zm zd) f)] 2
theorem CD(v9:Int)(c:List Int)(a:Nat)(e:Int)(d:Nat)(b:Int)(o1 f:List Int):stepT J7 (L4 v9 c a e d b o1 f)=let g:=(length c:Int);let i:=zo 0<|toNat b;let q:=zy (z7 none a)<|toNat b;let p':=zc .i64 (b+e)+1;let k:=toNat<|zc .i64<|g-1;let l:=zc .i64 p';let h':=zo (toNat g) i;let l':=decide (zo (toNat g) i<length f);let n':=decide (0<=zc .i64 (g-1));let b':=zy (toNat l)<|toNat b;let m:=n'&&decide (zc .i64 (g-1)<g);let h:=getD f (zo k i) 0;let j:=getD c k 0;let o':=decide (zo k i<length f);let n:=getD f h' 0;let o:=n'&&decide (zc .i64 (g-1)<(↑b':Int));let p:=decide (0<=g)&&decide (g<(↑b':Int));.di (b>=0) (.ck (decide (0<=b)&&decide (0<=zc .i64 p')&&true&&decide (toNat b<=toNat l)&&decide (toNat l<=z7 none a)&&decide (z7 none a<=z7 none a)&&true)<|.ck p<|.ck l'<|.ck m<|.di (getD f h' 0>=getD c k 0) (.ck o<|.ck o'<|.ck m<|.ck (zt h&&zt j&&decide ((0:qf (By [u64]))<=0)&&decide (0<=(1:qf (By [u64]))))<|L5 v9 c a e d b o1 f i b' q c g 18446744073709551615 (It h j 0) (QU h j 0) o1 f)<|.ck p<|.ck l'<|.ck o<|.ck o'<|.ck m<|.ck (zt n&&zt h&&zt j&&decide (getD f h' 0<getD c k 0))<|L5 v9 c a e d b o1 f i b' q c g (Sp.dq n h j) (Sp.dr n h j) 0 o1 f) (L6 v9 a e d e 0 o1 f):=by kernel_rfl
def L7(v9:Int)(j:List Int)(e:Nat)(f:Int)(d:Nat)(g:Int)(o1 o:List Int)(k h l:Nat)(v1:List Int)(v5 p n:Int)(c:Int)(b a:Int)(m:List Int)(i:List Int):Tr:=re ((stepT J7<|L5 v9 j e f d g o1 o 0 0 0 [] 0 0 0 0 [] []).L.L.L.L)<|Aw 186 [(0,.sl 0 1 k h<|Option.some l),(1,.dat (ze<|zm zd) v1),(5,.dat i64 v5),(6,.dat (zm zd) p),(11,.dat (zm zd) n),(12,.dat (zm zd) c),(104,.dat i64 b),(105,.dat i64 a)] [(1,.arr false 216 (zm zd) m),(0,.arr false 216 (zm zd) i)] 2
theorem EG(v9:Int)(h:List Int)(d:Nat)(f:Int)(c:Nat)(g:Int)(o1 n:List Int)(b e i:Nat)(v1:List Int)(v5 j l r:Int)(k:List Int)(a:List Int):stepT J7 (L5 v9 h d f c g o1 n b e i v1 v5 j l r k a)=let b':=toNat<|zc .i64<|v5-2;let p:=L7 v9 h d f c g o1 n b e i v1 v5 j 0 0 v5 0 k a;let o:=getD v1 (toNat<|zc .i64<|v5-1) 0;let s:=decide (0<=zc .i64 (v5-2));let q:Tr:=.ck (decide (0<=zc .i64 (v5-1))&&decide (zc .i64 (v5-1)<(length v1:Int)))<|.ck (zt l&&zt o&&decide ((0:qf (By [u64]))<=0)&&decide (0<=(1:qf (By [u64]))))<|L5 v9 h d f c g o1 n b e i v1 v5 (zc .u64<|j-1) (It l o 0) (QU l o 0) k a;let m:=getD v1 b' 0;.ite (r==0) (.ck (s&&decide (zc .i64 (v5-2)<(length v1:Int)))<|.ck (zt j&&zt m)<|.di (R0 j m<l) p<|.ite (R0 j m==l) (.ck (s&&decide (zc .i64 (v5-2)<(↑e:Int)))<|.cd (zo b' b<length a)<|.di (IB j m<=getD a (zo b' b) 0) p q) q) p:=by kernel_rfl
theorem ET(v9:Int)(b:Nat)(d:Int)(c:Nat)(e a:Int)(o1 f:List Int):stepT J7 (L6 v9 b d c e a o1 f)=let g:=set f (toNat a)<|Int.fdiv (getD f (toNat a) 0)<|2^y9 (toNat v9) 64;let b':=decide (0<=a)&&decide (a<(↑b:Int));let h:=zc .i64<|a+1;let j:=decide (zc .i64 (a+1)<(↑b:Int));let l:=decide (toNat a<length f);let h':=ze<|zm zd;let k:=L6 v9 b d c e h o1 g;let i:=decide (toNat a<length g);.di (a<e) (.ck b'<|.ck l<|.cd (0<=v9)<|.ck b'<|.ck l<|.di (v9>0) (.ite j (.ck b'<|.ck i<|.ck (decide (0<=zc .i64 (a+1))&&j)<|.cd (toNat h<length g)<|.cd (0<=zc .i64 (64-v9))<|.ck b'<|.ck i<|L6 v9 b d c e h o1<|set g (toNat a)<|dO zd (getD g (toNat a) 0)<|zc .u64<|getD g (toNat h) 0*2^y9 (toNat<|zc .i64<|64-v9) 64) k) k) (.ck (decide (0<=d)&&true&&decide (0<=toNat d)&&decide (toNat d<=z7 none b)&&decide (z7 none b<=z7 none b)&&true)<|.ck (decide (0+c<=length o1)&&true&&C4 (take c o1))<|.ck (decide (0+toNat d<=length f)&&true&&C4 (take (toNat d) f))<|.leaf (.tup [.dat h'<|Ax<|take c o1,.dat h'<|Ax<|take (toNat d) f]) []):=by kernel_rfl
def L8(v9:Int)(i:List Int)(d:Nat)(e:Int)(b:Nat)(f:Int)(o1 n:List Int)(j g k:Nat)(v1:List Int)(v5 o m c a:Int)(l:List Int)(h:List Int):Tr:=re ((stepT J7<|L7 v9 i d e b f o1 n 0 0 0 [] 0 0 0 0 0 0 [] []).R.L.L.L.L.L.R)<|Aw 186 [(0,.sl 0 1 j g<|Option.some k),(1,.dat (ze<|zm zd) v1),(5,.dat i64 v5),(6,.dat (zm zd) o),(17,.dat (zm zd) m),(156,.dat i64 c),(157,.dat i64 a)] [(1,.arr false 216 (zm zd) l),(0,.arr false 216 (zm zd) h)] 2
theorem D1(v9:Int)(m:List Int)(h:Nat)(l:Int)(e:Nat)(d:Int)(o1 s:List Int)(g i n:Nat)(v1:List Int)(v5 o c:Int)(b:Int)(j a:Int)(k:List Int)(f:List Int):stepT J7 (L7 v9 m h l e d o1 s g i n v1 v5 o c b j a k f)=let b':=zo (toNat v5) g;let t:=getD v1 (toNat a) 0;let y:=decide (zo (toNat a) g<length f);let w:=decide (zo (toNat v5) g<length f);let h':=decide (0<=a)&&decide (a<(↑i:Int));let q:=(0:qf (By [u64]));let v:=(1:qf (By [u64]));let x:=decide (0<=v5)&&decide (v5<(↑i:Int));let n':=zo (toNat a) g;let p:=IB o t;let u:=getD f n' 0;let r:=getD f b' 0;let z:=set f b'<|UC r b c;let l':=It p b 0;.di (a<j) (.ck (decide (0<=a)&&decide (a<(length v1:Int)))<|.ck (zt o&&zt t)<|.ck (zt p&&zt b&&decide (q<=0)&&decide (0<=v))<|.ck h'<|.ck y<|.ck (zt u&&zt l'&&decide (q<=c)&&decide (c<=v))<|.ck h'<|.ck y<|L7 v9 m h l e d o1 s g i n v1 v5 o (Q5 u l' c) (zc .u64<|R0 o t+QU p b 0) j (zc .i64<|a+1) k<|set f n'<|UC u l' c) (.ck x<|.ck w<|.ck (zt r&&zt b&&decide (q<=c)&&decide (c<=v))<|.ck x<|.ck w<|.ite (Q5 r b c==0) (.ck (decide (0<=d)&&decide (d<(↑e:Int)))<|.cd (toNat d<length k)<|L4 v9 m h l e (zc .i64<|d-1) (set k (toNat d) o) z)<|L8 v9 m h l e d o1 s g i n v1 v5 o 0 v5 0 k z):=by kernel_rfl
theorem Hs(v9:Int)(l:List Int)(h:Nat)(k:Int)(d:Nat)(b:Int)(o1 s:List Int)(e i m:Nat)(v1:List Int)(v5 o f g a:Int)(j:List Int)(c:List Int):stepT J7 (L8 v9 l h k d b o1 s e i m v1 v5 o f g a j c)=let b':=decide (zo (toNat a) e<length c);let p:=getD v1 (toNat a) 0;let t:=decide (zo (toNat v5) e<length c);let r:=decide (0<=a)&&decide (a<(↑i:Int));let u:=decide (0<=v5)&&decide (v5<(↑i:Int));let q:=zo (toNat a) e;let h':=zo (toNat v5) e;let n:=getD c q 0;.di (a<g) (.ck r<|.ck b'<|.ck (decide (0<=a)&&decide (a<(length v1:Int)))<|.ck (zt n&&zt p&&decide ((0:qf (By [u64]))<=f)&&decide (f<=(1:qf (By [u64]))))<|.ck r<|.ck b'<|L8 v9 l h k d b o1 s e i m v1 v5 o (QU n p f) g (zc .i64<|a+1) j<|set c q<|It n p f) (.ck u<|.ck t<|.ck u<|.ck t<|.ck (decide (0<=b)&&decide (b<(↑d:Int)))<|.cd (toNat b<length j)<|L4 v9 l h k d (zc .i64<|b-1) (set j (toNat b)<|zc .u64<|o-1)<|set c h'<|zc .u64<|getD c h' 0+f):=by kernel_rfl
end T212
end
namespace T212
variable {Q:PV->Ob->Prop}
theorem dqr{r x d:Int}(a:0<d)(hr:0<=r/\r<d)(b:0<=x/\x<18446744073709551616):Sp.dq r x d*d+Sp.dr r x d=r*18446744073709551616+x/\0<=Sp.dq r x d/\Sp.dq r x d<18446744073709551616/\0<=Sp.dr r x d/\Sp.dr r x d<d:=by
 unfold Sp.dq Sp.dr;have h:=yj (r*18446744073709551616+x) d;rw[zp]at h;refine⟨h,Int.ediv_nonneg (by omega) (by omega),Int.ediv_lt_of_lt_mul a (by omega),Int.emod_nonneg _ (by omega),Int.emod_lt_of_pos _ a⟩
theorem Ar(a:List Int)(d:Int)(j:Ay Ao a)(e:0<d/\d<18446744073709551616)(u:a.length<=20000)(g:∀q r ob,Ay Ao q->(0<=r/\r<d)->As a=As q*d+r->Q (.tup [.dat Dt<|Ax q,.dat Dt<|Ax [r]]) ob):∀(i:Nat) (q:List Int) (r:Int),i+q.length=a.length->Ay Ao q->(0<=r/\r<d)->zf Ao (a.drop i)=zf Ao q*d+r->
  Ends J7 (L1 a [d] a.length r ((i:Int)-1)<|zx i 0++q) Q
 |0,q,r,l,b,hr,f=>by
  have m:((zx 0 0++q).take a.length)=q:=by
   rw[List.replicate_zero,List.nil_append];exact yb (by omega)
  refine yu (Al ..) (Ends.ff (by simp) ?_);rw[m];refine zg (Ab (by simp;omega)<|EN (by omega) b) (zg (Ab rfl (EN (by simp)<|fun x c=>by rw[List.mem_singleton]at c;subst c;exact⟨hr.1,by show x<18446744073709551616;omega⟩))<|Ends.leaf<|g q r _ b hr f)
 |i+1,q,r,l,b,hr,f=>by
  have n:(((i+1:Nat):Int)-1)=(i:Int):=by omega
  have h:=AZ j i;obtain⟨v,p,k,o,s⟩:=dqr e.1 hr<|yp h;have t:a.drop i=a.getD i 0::a.drop (i+1):=by
   rw[zu,yf<|by omega];exact yt (by omega)
  have es:∀x,(zx (i+1) (0:Int)++q).set i x=zx i 0++(x::q):=by
   intro x;rw[yk,yc];exact DL _ _ _ _ (by simp)
  rw[n];refine yu (Al ..) (zg (by simp) ?_);rw[zn,es,wr ((i:Int)-1) (by omega)<|by omega];refine zg (by simp;omega) (zg (by simp) (zg ?_ (zg (by simp;omega)<|zg (by simp;omega) ?_)))
  ·exact Ab (Ab (Ab (CZ hr.1<|by omega) h)<|CZ (by show 0<=d;omega) e.2)<|w4 hr.2
  ·refine Ar a d j e u g i _ _ (by simp;omega) (fun x c=>?_) ⟨o,s⟩ ?_
   ·rcases List.mem_cons.1 c with rfl|c
    ·exact⟨p,k⟩
    ·exact b x c
   ·rw[t];show a.getD i 0+(18446744073709551616:Int)*zf Ao (a.drop<|i+1)=(Sp.dq r (a.getD i 0) d+(18446744073709551616:Int)*zf Ao q)*d+Sp.dr r (a.getD i 0) d;rw[f,zw,zr,zk];omega
end T212
end Go.Pe
namespace Go.Sp
theorem WD{B P u0 u1 u2 a v1 v2 v' q r:Int}(c:0<P)(g:0<=v')(l:a<P)(j:0<=q)(d:q*v1+r=u0*B+u1)(h:r*B+u2<q*v2):
  ((u0*B+u1)*B+u2)*P+a<q*((v1*B+v2)*P+v'):=by
 have e:q*(v1*B+v2)=q*v1*B+q*v2:=by rw[zr,zk]
 have i:(u0*B+u1)*B=q*v1*B+r*B:=by rw[<-d,zw]
 have f:(u0*B+u1)*B+u2+1<=q*(v1*B+v2):=by rw[e,i];omega
 have b:=zj f<|z8 c;have k:0<=q*v':=yd j g;rw[zr q, <-zk];rw[zw,z6]at b;omega
theorem U0{B P u0 u1 u2 c v1 v2 v' q r:Int}(a:0<P)(d:0<=v'/\v'<P)(p:0<=c)(j:0<=q/\q<B)(b:1<=v1)(i:0<=v2)(k:q*v1+r=u0*B+u1)(h:q*v2<=r*B+u2):
  q*((v1*B+v2)*P+v')<((u0*B+u1)*B+u2)*P+c+((v1*B+v2)*P+v'):=by
 have e:q*(v1*B+v2)=q*v1*B+q*v2:=by rw[zr,zk]
 have f:(u0*B+u1)*B=q*v1*B+r*B:=by rw[<-k,zw]
 have l:q*(v1*B+v2)<=(u0*B+u1)*B+u2:=by rw[e,f];omega
 have n:=zj l<|z8 a;have m:q*v'<=(B-1)*P:=Int.le_trans (zz (z8 d.2) j.1) (zj (by omega)<|z8 a);have g:B<=v1*B+v2:=by
  have:=zj b (show 0<=B by omega);omega
 have o:=zj g<|z8 a;rw[yz,z6]at m;rw[zr q, <-zk];omega
theorem HX(b:Int):∀(l:List Int) (i:Nat) (x:Int),i<l.length->val b (l.set i x)=val b l+b^i*(x-l.getD i 0)
 |[],i,x,h=>by simp at h
 |d::l,0,x,_=>by
  show x+b*val b l=d+b*val b l+b^0*(x-d);rw[Int.pow_zero,z6];omega
 |d::l,i+1,x,h=>by
  have:=HX b l i x (by simpa using h);show d+b*val b (l.set i x)=d+b*val b l+b^(i+1)*(x-l.getD i 0);rw[this,zr,yi,zp (b^i) b,zk,Int.add_assoc]
theorem Hk{b:Int}{l:List Int}(h:Ay b l)(i:Nat){x:Int}(c:0<=x/\x<b):Ay b (l.set i x):=by
 intro d a;rcases List.mem_or_eq_of_mem_set a with a|rfl
 ·exact h d a
 ·exact c
theorem Fs{b:Int}{l r:List Int}(e:Ay b l)(c:Ay b r):Ay b (l++r):=by
 intro d a;rcases yw.1 a with a|a
 ·exact e d a
 ·exact c d a
theorem KR{b:Int}(c:0<b){l:List Int}(h:Ay b l)(i:Nat):0<=l.getD i 0/\l.getD i 0<b:=by
 rcases Nat.lt_or_ge i l.length with a|a
 ·have:l.getD i 0∈l:=by rw[zu,yf a];exact List.getElem_mem a
  exact h _ this
 ·rw[zu,List.getElem?_eq_none a];exact⟨Int.le_refl _,c⟩
theorem Cq{l:List Int}{i:Nat}(h:i<l.length):l.drop i=l.getD i 0::l.drop (i+1):=by
 rw[zu,yf h];exact yt h
theorem HB(p r:List Int)(i j:Nat)(h:p.length=j):(p++r).getD (i+j) 0=r.getD i 0:=by
 subst h;rw[zu,zu,List.getElem?_append_right (by omega),yg]
theorem Uj(p r:List Int)(i j:Nat)(x:Int)(h:p.length=j):(p++r).set (i+j) x=p++r.set i x:=by
 subst h;rw[List.set_append_right _ _ (by omega),yg]
theorem uC(b:Int)(r:List Int)(k:Nat)(d:k+3<=r.length)(e:val b (r.drop<|k+3)=0):
  val b r=((r.getD (k+2) 0*b+r.getD (k+1) 0)*b+r.getD k 0)*b^k+val b (r.take k):=by
 have a:b^(k+1)=b^k*b:=yi ..;have f:b^(k+2)=b^k*b*b:=by rw[<-a];exact yi ..
 rw[Cs b r (k+3) d,e,AJ,AJ,AJ,a,f,qc,qd];generalize b^k=P;generalize r.getD (k+2) 0=x;generalize r.getD (k+1) 0=y;generalize r.getD k 0=z;have g:P*b*b*x=x*b*b*P:=by rw[zp (P*b*b) x,zp P b,zk b P b,zp P b, <-zk, <-zk]
 have h:P*b*y=y*b*P:=by rw[zp (P*b) y,zp P b,zk]
 have i:P*z=z*P:=zp _ _;have c:((x*b+y)*b+z)*P=x*b*b*P+y*b*P+z*P:=by rw[zw,zw,zw]
 rw[c];omega
theorem rG(b:Int)(v:List Int)(k:Nat)(e:v.length=k+2):
  val b v=(v.getD (k+1) 0*b+v.getD k 0)*b^k+val b (v.take k):=by
 have h0:val b (v.drop<|k+2)=0:=by rw[List.drop_eq_nil_of_le<|by omega];rfl
 have c:b^(k+1)=b^k*b:=yi ..;rw[Cs b v (k+2) (by omega),h0,AJ,AJ,c,qc,qd];generalize b^k=P;generalize v.getD (k+1) 0=y;generalize v.getD k 0=z;have d:P*b*y=y*b*P:=by rw[zp (P*b) y,zp P b,zk]
 have a:P*z=z*P:=zp _ _;rw[d,a,zw];omega
theorem lS{b:Int}(f:2<=b){v:List Int}(c:Ay b v)(d:nz v){k:Nat}(e:b^k<=val b v)(g:val b v<b^(k+1)):v.length=k+1:=by
 have hp:=AR (show 0<b by omega) k;have a:v≠[]:=by rintro rfl;simp[val]at e;omega
 have a1:=Bw (by omega) c;have a2:=DF (by omega) c d a;rcases Nat.lt_trichotomy v.length (k+1)with h|h|h
 ·have:=AL (show 1<=b by omega) (show v.length<=k by omega);omega
 ·exact h
 ·have:=AL (show 1<=b by omega) (show k+1<=v.length-1 by omega);omega
theorem JU{b:Int}(d:2<=b){r:List Int}(a:Ay b r){n:Nat}(c:n<=r.length)(h:val b r<b^n):val b (r.drop n)=0:=by
 have h0:=AD (show 0<=b by omega)<|E5 a n;have e:=AD (show 0<=b by omega)<|AQ a n;rw[Cs b r n c]at h;have hp:=AR (show 0<b by omega) n;rcases qe 0 (val b<|r.drop n)with g|g
 ·have:=zz (show 1<=val b (r.drop n)by omega) (show 0<=b^n by omega);omega
 ·omega
theorem Rr{b:Int}(d:2<=b){r:List Int}(c:Ay b r){n:Nat}(a:n<=r.length)(h:val b (r.drop n)=0):val b r<b^n:=by
 have:=Bw (show 0<b by omega)<|AQ c n;rw[ye,yq a]at this;rw[Cs b r n a,h];omega
theorem lP{b c d x y X:Int}(l:0<c)(h:b=c*d):(x+b*(y+b*X))/c=(x/c+(y % c)*d)+b*((y+b*X)/c):=by
 subst h;have j:(x+c*d*(y+c*d*X))/c=x/c+d*(y+c*d*X):=by
  rw[zk c d,Int.add_mul_ediv_left _ _<|by omega]
 have f:(y+c*d*X)/c=y/c+d*X:=by
  rw[zk c d,Int.add_mul_ediv_left _ _<|by omega]
 have k:=yj y c;rw[j,f];have e:d*(y+c*d*X)=d*(c*(y/c)+y % c+c*d*X):=by rw[k]
 rw[e,zr,zr,zr<|c*d];have g:d*(c*(y/c))=c*d*(y/c):=by rw[<-zk,zp d c]
 have i:d*(y % c)=(y % c)*d:=zp _ _;have a:d*(c*d*X)=c*d*(d*X):=by rw[<-zk,zp d<|c*d,zk]
 rw[g,i,a];omega
theorem Vm{b c d x k:Int}(j:0<c)(a:0<d)(h:b=c*d)(n:0<=k/\k<c)(f:0<=x/\x<b):
  (x*c) % b=(x % d)*c/\(x % d)*c+k<b/\0<=(x % d)*c/\0<=x/d/\x/d<c/\(x % d)*c+b*(x/d)=x*c:=by
 subst h;have g:=yj x d;have i:=Int.emod_nonneg x (show d≠0 by omega);have m:=Int.emod_lt_of_pos x a;have q0:0<=x/d:=Int.ediv_nonneg f.1 (by omega);have q1:x/d<c:=Int.ediv_lt_of_lt_mul a (by have:=f.2;omega);have p0:0<=(x % d)*c:=yd i (by omega);have l:(x % d)*c<=(d-1)*c:=zj (by omega) (by omega);have o:(d-1)*c=c*d-c:=by rw[yz,z6,zp]
 have e:(x % d)*c+c*d*(x/d)=x*c:=by
  conv=>rhs;rw[<-g]
  rw[zw,zk c d,zp c<|d*(x/d)];omega
 refine⟨?_,by omega,p0,q0,q1,e⟩;rw[<-e,Int.add_mul_emod_self_left];exact Int.emod_eq_of_lt p0 (by omega)
theorem Nj{B P u0 u1 u2 c v1 v2 v' q r:Int}(b:0<P)(g:0<B)(n:0<=q)(d:0<=v')(a:0<=v2)(s:c<P)(l:u2<B)(p:q*v1+r=u0*B+u1)(h:r<v1):
  ((u0*B+u1)*B+u2)*P+c<(q+1)*((v1*B+v2)*P+v'):=by
 have j:u0*B+u1+1<=(q+1)*v1:=by rw[zw,z6];omega
 have f:=zj j<|z8 g;have k:(u0*B+u1)*B+u2+1<=(q+1)*v1*B:=by
  rw[zw,z6]at f;omega
 have i:=zj k<|z8 b;rw[zw,z6]at i;have o:0<=(q+1)*(v2*P):=yd (by omega)<|yd a<|z8 b;have m:0<=(q+1)*v':=yd (by omega) d;have e:(q+1)*((v1*B+v2)*P+v')=(q+1)*v1*B*P+(q+1)*(v2*P)+(q+1)*v':=by
  rw[zw<|v1*B,zr,zr];congr 2;rw[zk,zk,zk]
 rw[e];omega
end Go.Sp
namespace Go.Pe
open Sp
open Go.Det
theorem UG{q x y c b:Int}(d:zt q=true)(e:zt x=true)(j:zt y=true)(f:zt c=true)(i:0<=b/\b<=1):
  zt (IB q x)=true/\zt (It (IB q x) c 0)=true/\zc .u64 (R0 q x+QU (IB q x) c 0)=(q*x+c)/18446744073709551616/\zt ((q*x+c)/18446744073709551616)=true/\
  zt (UC y (It (IB q x) c 0) b)=true/\(0<=Q5 y (It (IB q x) c 0) b/\Q5 y (It (IB q x) c 0) b<=1)/\
  c+b+(UC y (It (IB q x) c 0) b-y)=18446744073709551616*((q*x+c)/18446744073709551616+Q5 y (It (IB q x) c 0) b)-q*x:=by
 have d:=yp d;have e:=yp e;have f:=yp f;have h0:0<=q*x:=yd d.1 e.1;have k:q*x<=18446744073709551615*18446744073709551615:=by
  have a:=zz (show x<=18446744073709551615 by omega) d.1;have b:=zj (show q<=18446744073709551615 by omega) (show(0:Int)<=18446744073709551615 by omega);omega
 have g:zt (It (IB q x) c 0)=true:=by unfold It;exact CZ (by omega) (by omega)
 obtain⟨s1,s2,s3⟩:=Sp.Hp j g i;refine⟨?_,g,?_,?_,s1,s2,?_⟩
 ·unfold IB;exact CZ (by omega) (by omega)
 ·unfold IB R0 QU;rw[Ml];generalize q*x=P at*;omega
 ·generalize q*x=P at*;exact CZ (by omega) (by omega)
 ·generalize Q5 y (It (IB q x) c 0) b=h at*;generalize UC y (It (IB q x) c 0) b=l at*;unfold It IB at s3;generalize q*x=P at*;omega
namespace T212
variable {Q:PV->Ob->Prop}
theorem gw{lo r:List Int}{j:Nat}(h:lo.length=j)(i:Nat):(lo++r).getD (zo i j) 0=r.getD i 0:=HB lo r i j h
theorem sw{lo r:List Int}{j:Nat}(h:lo.length=j)(i:Nat)(x:Int):(lo++r).set (zo i j) x=lo++r.set i x:=Uj lo r i j x h
theorem lw{lo r:List Int}{j i:Nat}(h:lo.length=j)(a:i<r.length):decide (zo i j<(lo++r).length)=true:=by
 refine w4 ?_;show i+j<_;rw[List.length_append];omega
theorem JH(r:List Int)(i n:Nat)(x:Int)(h:i<n):(r.set i x).drop n=r.drop n:=by
 rw[List.drop_set,wd h]
theorem Cz(v9:Int)(l:List Int)(f:Nat)(o:Int)(a:Nat)(o1 E:List Int)(p:Nat)(v:List Int)(n j:Nat)(lo:List Int)(m:Nat)(q W:Int)(h:List Int)
  (U:v.length=n) (I:n<=9000) (hm:n+1<=m) (d:lo.length=j) (G:j<a) (w:j<h.length) (O:Ay Ao v) (J:zt q=true)
  (h0:∀r:List Int,r.length=m->Ay Ao r->zf Ao (r.drop<|n+1)=0->zf Ao r=W-q*zf Ao v->Ends J7 (L4 v9 l f o a (zc .i64<|(j:Int)-1) (h.set j q)<|lo++r) Q)
  (N:∀r:List Int,r.length=m->Ay Ao r->zf Ao (r.drop<|n+1)=0->zf Ao r=W-q*zf Ao v+(Ao:Int)^(n+1)->Ends J7 (L8 v9 l f o a j o1 E j (n+1) p v n q 0 n 0 h<|lo++r) Q):
  ∀(k i:Nat) (r:List Int) (b c:Int),i+k=n->r.length=m->Ay Ao r->zf Ao (r.drop<|n+1)=0->zt c=true->(0<=b/\b<=1)->zf Ao r=W-q*zf Ao (v.take i)+(Ao:Int)^i*(c+b)->
   Ends J7 (L7 v9 l f o a j o1 E j (n+1) p v n q b c n i h<|lo++r) Q
 |0,i,r,b,c,F,hr,z,C,u,s,D=>by
  have F:i=n:=by omega
  subst F;have y:=AZ z i;obtain⟨s1,s2,s3⟩:=Sp.Hp y u s;have g:decide (zo i j<(lo++r).length)=true:=lw d (by omega);have t1:(decide ((0:Int)<=(i:Int))&&decide ((i:Int)<((i+1:Nat):Int)))=true:=by simp;omega
  have H:v.take i=v:=yb (by omega);have A:∀x:Int,0<=x/\x<18446744073709551616->(r.set i x).length=m/\Ay Ao (r.set i x)/\zf Ao ((r.set i x).drop<|i+1)=0:=fun x Z=>
   ⟨by simp[hr],Hk z i Z,by rw[JH _ _ _ _<|by omega];exact C⟩
  obtain⟨K,B,L⟩:=A _<|yp s1;have ev:zf Ao (r.set i<|UC (r.getD i 0) c b)=W-q*zf Ao v+(Ao:Int)^(i+1)*Q5 (r.getD i 0) c b:=by
   rw[HX _ _ _ _ (by omega),D,H,Mo,Int.add_assoc, <-zr];congr 2;omega
  refine yu (D1 ..) (Ends.ff (by simp) ?_);rw[zn,zn,gw d,sw d];refine zg t1<|zg g<|zg (Ab (Ab (Ab y u)<|w4 s.1)<|w4 s.2)<|zg t1<|zg g<|y7 (fun t=>?_)<|fun t=>?_
  ·have t:Q5 (r.getD i 0) c b=0:=by simpa using t
   refine zg (by simp;omega)<|zg (w4 w)<|h0 _ K B L ?_;rw[ev,t,qc,qd]
  ·have t:Q5 (r.getD i 0) c b≠0:=by simpa using t
   refine N _ K B L ?_;rw[ev,show Q5 (r.getD i 0) c b=1 by omega,Int.mul_one]
 |k+1,i,r,b,c,F,hr,z,C,u,s,D=>by
  have M:=AZ O i;have y:=AZ z i;obtain⟨R,S,P,T,V,Y,X⟩:=UG J M y u s;have g:decide (zo i j<(lo++r).length)=true:=lw d (by omega);have t1:(decide ((0:Int)<=(i:Int))&&decide ((i:Int)<((n+1:Nat):Int)))=true:=by simp;omega
  have B:=wn (i:=i) (by omega);refine yu (D1 ..) (zg (by simp;omega) ?_);rw[zn,gw d,sw d,P,B];refine zg (by simp;omega)<|zg (Ab J M)<|zg (Ab (Ab (Ab R u) rfl) rfl)<|zg t1<|zg g<|zg (Ab (Ab (Ab y S)<|w4 s.1)<|w4 s.2)<|zg t1<|zg g ?_;refine Cz v9 l f o a o1 E p v n j lo m q W h U I hm d G w O J h0 N k (i+1) _ _ _ (by omega) (by simp[hr]) (Hk z i<|yp V) (by rw[JH _ _ _ _<|by omega];exact C) T Y ?_;rw[HX _ _ _ _ (by omega),D,Mo,AJ,zr q,Int.mul_left_comm q];have e:(Ao:Int)^i*(c+b)+(Ao:Int)^i*(UC (r.getD i 0) (It (IB q<|v.getD i 0) c 0) b-r.getD i 0)=(Ao:Int)^i*(18446744073709551616*((q*v.getD i 0+c)/18446744073709551616+Q5 (r.getD i 0) (It (IB q<|v.getD i 0) c 0) b))-(Ao:Int)^i*(q*v.getD i 0):=by
   rw[<-zr, <-yv,X]
  omega
theorem FX(v9:Int)(o:List Int)(h:Nat)(p:Int)(d:Nat)(o1 G:List Int)(s:Nat)(v:List Int)(n j:Nat)(lo:List Int)(m:Nat)(q W:Int)(l:List Int)
  (O:v.length=n) (C:n<=9000) (R:n+1<=m) (a:lo.length=j) (B:j<d) (t:j<l.length) (I:Ay Ao v)
  (hW:0<=W+zf Ao v)
  (h0:∀r:List Int,r.length=m->Ay Ao r->zf Ao (r.drop<|n+1)=0->zf Ao r=W+zf Ao v->Ends J7 (L4 v9 o h p d (zc .i64<|(j:Int)-1) (l.set j<|zc .u64<|q-1)<|lo++r) Q):
  ∀(k i:Nat) (r:List Int) (c:Int),i+k=n->r.length=m->Ay Ao r->zf Ao (r.drop<|n+1)=0->(0<=c/\c<=1)->zf Ao r=W+(Ao:Int)^(n+1)+zf Ao (v.take i)-(Ao:Int)^i*c->
   Ends J7 (L8 v9 o h p d j o1 G j (n+1) s v n q c n i l<|lo++r) Q
 |0,i,r,c,z,hr,u,y,w,D=>by
  have z:i=n:=by omega
  subst z;have A:=yp<|AZ u i;have f:decide (zo i j<(lo++r).length)=true:=lw a (by omega);have t1:(decide ((0:Int)<=(i:Int))&&decide ((i:Int)<((i+1:Nat):Int)))=true:=by simp;omega
  have E:v.take i=v:=yb (by omega);have L:0<=(r.getD i 0+c) % 18446744073709551616/\(r.getD i 0+c) % 18446744073709551616<18446744073709551616:=by omega
  have K:(r.set i<|(r.getD i 0+c) % 18446744073709551616).length=m:=by simp[hr]
  have x:Ay Ao (r.set i<|(r.getD i 0+c) % 18446744073709551616):=Hk u i L;have H:zf Ao ((r.set i<|(r.getD i 0+c) % 18446744073709551616).drop<|i+1)=0:=by rw[JH _ _ _ _<|by omega];exact y
  have J:=Rr (b:=Ao) (by decide) x (n:=i+1) (by omega) H;refine yu (Hs ..) (Ends.ff (by simp) ?_);rw[zn,zn,gw a,sw a,Ml<|r.getD i 0+c];refine zg t1 (zg f<|zg t1<|zg f<|zg (by simp;omega)<|zg (w4 t)<|h0 _ K x H ?_);have hp:=AR (b:=Ao) (by decide) i;rw[HX _ _ _ _ (by omega),D,E]at J ⊢;rcases show(r.getD i 0+c) % 18446744073709551616=r.getD i 0+c\/(r.getD i 0+c) % 18446744073709551616=r.getD i 0+c-18446744073709551616 by omega with g|g
  ·exfalso;rw[g,show r.getD i 0+c-r.getD i 0=c by omega]at J;omega
  ·have P:(Ao:Int)^(i+1)=(Ao:Int)^i*18446744073709551616:=yi ..;rw[g,show r.getD i 0+c-18446744073709551616-r.getD i 0=c-18446744073709551616 by omega,yv,P];omega
 |k+1,i,r,c,z,hr,u,y,w,D=>by
  have F:=AZ I i;have A:=AZ u i;obtain⟨M,N,S⟩:=Mg A F w;have f:decide (zo i j<(lo++r).length)=true:=lw a (by omega);have t1:(decide ((0:Int)<=(i:Int))&&decide ((i:Int)<((n+1:Nat):Int)))=true:=by simp;omega
  have x:=wn (i:=i) (by omega);refine yu (Hs ..) (zg (by simp;omega) ?_);rw[zn,gw a,sw a,x];refine zg t1 (zg f (zg (by simp;omega)<|zg (Ab (Ab (Ab A F)<|w4 w.1)<|w4 w.2)<|zg t1<|zg f ?_));refine FX v9 o h p d o1 G s v n j lo m q W l O C R a B t I hW h0 k (i+1) _ _ (by omega) (by simp[hr]) (Hk u i<|yp M) (by rw[JH _ _ _ _<|by omega];exact y) N ?_;rw[HX _ _ _ _ (by omega),D,Mo,AJ];have e:(Ao:Int)^i*(It (r.getD i 0) (v.getD i 0) c-r.getD i 0)-(Ao:Int)^i*c=(Ao:Int)^i*v.getD i 0-(Ao:Int)^i*(18446744073709551616*QU (r.getD i 0) (v.getD i 0) c):=by
   rw[<-yv, <-yv];congr 1;omega
  omega
theorem rP(v9:Int)(k:List Int)(f:Nat)(l:Int)(e:Nat)(o1 x:List Int)(p:Nat)(v:List Int)(n j:Nat)(lo:List Int)(m:Nat)(i h:List Int)
  (z:v.length=n) (u:n<=9000) (B:n+1<=m) (w:lo.length=j) (t:j<e) (s:j<h.length) (y:Ay Ao v)
  (hr:i.length=m) (A:Ay Ao i) (E:zf Ao (i.drop<|n+1)=0)
  (o:∀(q:Int) (r:List Int),r.length=m->Ay Ao r->(0<=q/\q<18446744073709551616)->zf Ao r<zf Ao v->zf Ao r=zf Ao i-q*zf Ao v->Ends J7 (L4 v9 k f l e (zc .i64<|(j:Int)-1) (h.set j q)<|lo++r) Q)
  (q:Int) (C:zt q=true) (F:zf Ao i<(q+1)*zf Ao v) (N:q*zf Ao v<zf Ao i+zf Ao v):
  Ends J7 (L7 v9 k f l e j o1 x j (n+1) p v n q 0 0 n 0 h<|lo++i) Q:=by
 have G:=yp C;have L:=AD (b:=Ao) (by decide) A;have H:=AD (b:=Ao) (by decide) y;rw[zw,z6]at F;refine Cz v9 k f l e o1 x p v n j lo m q (zf Ao i) h z u B w t s y C (fun r a b c d=>o q r a b G (by omega) d) (fun r a b c d=>?_) n 0 i 0 0 (by omega) hr A E (by decide) (by decide) (by simp[zf]);have O:=Rr (b:=Ao) (by decide) b (n:=n+1) (by omega) c;have M:1<=q:=by
  rcases qe 0 q with g|g
  ·exact g
  ·have:q=0:=by omega
   subst this;rw[Int.zero_mul]at d;omega
 have I:zc .u64 (q-1)=q-1:=wu _ (by omega) (by omega);refine FX v9 k f l e o1 x p v n j lo m q (zf Ao i-q*zf Ao v) h z u B w t s y (by omega) (fun K D b' P J=>?_) n 0 r 0 (by omega) a b c (by decide) (by rw[d];simp[zf]);rw[I];refine o (q-1) K D b' (by omega) (by omega) ?_;rw[J,yz,z6];omega
theorem AeP(q x:Int):R0 q x*18446744073709551616+IB q x=q*x/\0<=IB q x/\IB q x<18446744073709551616:=by
 unfold R0 IB;generalize q*x=P;omega
theorem CN(v9:Int)(n:List Int)(h:Nat)(p:Int)(d:Nat)(o1 C:List Int)(s:Nat)(v:List Int)(k j:Nat)(lo:List Int)(m:Nat)(e i:List Int)
  (U:v.length=k+2) (G:k+2<=9000) (hm:k+3<=m) (u:lo.length=j) (F:j<d) (H:j<i.length) (A:Ay Ao v)
  (hr:e.length=m) (L:Ay Ao e) (O:zf Ao (e.drop<|k+3)=0) (K:1<=v.getD (k+1) 0)
  (w:∀(q:Int) (r:List Int),r.length=m->Ay Ao r->(0<=q/\q<18446744073709551616)->zf Ao r<zf Ao v->zf Ao r=zf Ao e-q*zf Ao v->Ends J7 (L4 v9 n h p d (zc .i64<|(j:Int)-1) (i.set j q)<|lo++r) Q):
  ∀(f:Nat) (q r o:Int),0<=q->q<f->q<18446744073709551616->zt r=true->(o=0\/o=1)->q*v.getD (k+1) 0+(r+18446744073709551616*o)=e.getD (k+2) 0*18446744073709551616+e.getD (k+1) 0->zf Ao e<(q+1)*zf Ao v->
   Ends J7 (L5 v9 n h p d j o1 C j (k+3) s v ((k+2:Nat):Int) q r o i<|lo++e) Q
 |0,q,r,o,h0,hf,_,_,_,_,_=>by omega
 |f+1,q,r,o,h0,hf,Y,l,ho,he,S=>by
  have uq:zt q=true:=CZ h0 Y;have J:=AZ A k;have t:=AZ A<|k+1;have R:=AZ L k;have V:=yp J;have gv1:=yp t;have gu2:=yp R;have gr:=yp l;have X:=AR (b:=Ao) (by decide) k;have hW:=uC Ao e k (by omega) O;have Z:=rG Ao v k U;have W:=AD (b:=Ao) (by decide)<|AQ L k;have x:=Bw (b:=Ao) (by decide)<|AQ L k;have I:=AD (b:=Ao) (by decide)<|AQ A k;have y:=Bw (b:=Ao) (by decide)<|AQ A k;rw[ye,yq<|by omega]at x y;have exit:q*v.getD k 0<=(r+18446744073709551616*o)*18446744073709551616+e.getD k 0->Ends J7 (L7 v9 n h p d j o1 C j (k+3) s v ((k+2:Nat):Int) q 0 0 ((k+2:Nat):Int) 0 i<|lo++e) Q:=by
   intro N;refine rP v9 n h p d o1 C s v (k+2) j lo m e i U G hm u F H A hr L O w q uq S ?_;rw[hW,Z];exact U0 X ⟨I,y⟩ W ⟨h0,Y⟩ K V.1 he N
  have e1:zc .i64 (((k+2:Nat):Int)-2)=(k:Int):=by rw[wr _ (by omega)<|by omega];omega
  have e2:zc .i64 (((k+2:Nat):Int)-1)=((k+1:Nat):Int):=by rw[wr _ (by omega)<|by omega];omega
  obtain⟨w1,w2,w3⟩:=AeP q<|v.getD k 0;have T:decide (zo k j<(lo++e).length)=true:=lw u (by omega);refine yu (EG ..)<|y7 (fun c=>?_)<|fun c=>?_
  ·have c:o=0:=by simpa using c
   subst c;rw[e1,e2,zn,zn,gw u];refine zg (by simp;omega)<|zg (Ab uq J) ?_;have E:r*18446744073709551616+e.getD k 0<q*v.getD k 0->Ends J7 (L5 v9 n h p d j o1 C j (k+3) s v ((k+2:Nat):Int) (zc .u64<|q-1) (It r (v.getD (k+1) 0) 0) (QU r (v.getD (k+1) 0) 0) i<|lo++e) Q:=by
    intro N;obtain⟨a1,a2,a3⟩:=Mg l t (c:=0) (by decide);have hq1:1<=q:=by
     rcases qe 0 q with g|g
     ·exact g
     ·have:q=0:=by omega
      subst this;rw[Int.zero_mul]at N;omega
    rw[wu (q-1) (by omega)<|by omega];refine CN v9 n h p d o1 C s v k j lo m e i U G hm u F H A hr L O K w f (q-1) _ _ (by omega) (by omega) (by omega) a1 (by omega) ?_ ?_
    ·rw[yz,z6,a3];omega
    ·have P:q*v.getD (k+1) 0+r=e.getD (k+2) 0*18446744073709551616+e.getD (k+1) 0:=by omega
     have:=WD (B:=Ao) (u0:=e.getD (k+2) 0) (u1:=e.getD (k+1) 0) (u2:=e.getD k 0) X I x h0 (v1:=v.getD (k+1) 0) (v2:=v.getD k 0) (r:=r) P N;rw[<-hW, <-Z]at this;rw[show q-1+1=q by omega];exact this
   refine y7 (fun M=>exit ?_) (fun M=>y7 (fun z=>zg (by simp;omega)<|zg T<|y7 (fun D=>exit ?_)<|fun D=>zg (by simp;omega)<|zg (Ab (Ab (Ab l t) rfl) rfl)<|E ?_) (fun z=>zg (by simp;omega)<|zg (Ab (Ab (Ab l t) rfl) rfl)<|E ?_))
   ·have M:=w6 M;omega
   ·have z:R0 q (v.getD k 0)=r:=by simpa using z
    have D:=w6 D;omega
   ·have z:R0 q (v.getD k 0)=r:=by simpa using z
    have D:=w7 D;omega
   ·have M:=w7 M;have z:R0 q (v.getD k 0)≠r:=by simpa using z
    omega
  ·have c:o≠0:=by simpa using c
   refine exit ?_;have a:=zz (show v.getD k 0<=18446744073709551615 by omega) h0;omega
theorem Ca(s:Int)(v:List Int)(k e:Nat)(E:v.length=k+2)(W:e<=9000)(P:k+2<=e)(p:Ay Ao v)(B:1<=v.getD (k+1) 0)(W0:Int)
  (hq:∀u f:List Int,u.length=e+1->Ay Ao u->Ay Ao f->zf Ao u<zf Ao v->f.length=e-(k+2)+1->W0=zf Ao u+zf Ao v*zf Ao f->Ends J7 (L6 s (e+1) ((k+2:Nat):Int) (e-(k+2)+1) ((k+2:Nat):Int) 0 f u) Q):
  ∀(t:Nat) (u f:List Int),t+f.length=e-(k+2)+1->u.length=e+1->Ay Ao u->Ay Ao f->zf Ao (u.drop t)<zf Ao v->W0=zf Ao u+zf Ao v*((Ao:Int)^t*zf Ao f)->
   Ends J7 (L4 s v (e+1) ((k+2:Nat):Int) (e-(k+2)+1) ((t:Int)-1) (zx t 0++f) u) Q
 |0,u,f,hl,hu,O,C,A,S=>by
  refine yu (CD ..) (Ends.ff (by simp) ?_);exact hq u f hu O C A (by omega) (by rw[S,Int.pow_zero,z6])
 |j+1,u,f,hl,hu,O,C,A,S=>by
  obtain⟨lo,r,rfl,g⟩:∃lo r:List Int,u=lo++r/\lo.length=j:=⟨u.take j,u.drop j,(List.take_append_drop j u).symm,by rw[ye];omega⟩;have G:Ay Ao lo:=fun d h=>O d<|yw.2<|.inl h
  have a:Ay Ao r:=fun d h=>O d<|yw.2<|.inr h
  have L:r.length=e+1-j:=by rw[List.length_append]at hu;omega
  have m:∀z:List Int,(lo++z).drop j=z:=fun z=>by rw[<-g];exact List.drop_left
  have X:r=r.getD 0 0::r.drop 1:=by
   have:=Cq (l:=r) (i:=0) (by omega);rw[List.drop_zero]at this;exact this
  have V:(lo++r).drop (j+1)=r.drop 1:=by rw[Nat.add_comm j 1,Nat.add_comm 1 j, <-List.drop_drop,m]
  rw[V]at A;have g0:=KR (b:=Ao) (by decide) a 0;have hvr:zf Ao r=r.getD 0 0+18446744073709551616*zf Ao (r.drop 1):=by
   conv=>lhs;rw[X]
   rfl
  have F:=Bw (b:=Ao) (by decide) p;rw[E]at F;have g0:0<=r.getD 0 0/\r.getD 0 0<18446744073709551616:=g0;have T:zf Ao r<18446744073709551616*zf Ao v:=by rw[hvr];omega
  have N:zf Ao (r.drop<|k+3)=0:=by
   refine JU (b:=Ao) (by decide) a (by omega) ?_;have ep:(Ao:Int)^(k+3)=(Ao:Int)^(k+2)*18446744073709551616:=yi ..;rw[ep];omega
  have K:=AZ a<|k+2;have o:=AZ a<|k+1;have Z:=AZ a k;have n:=AZ p<|k+1;have gu0:=yp K;have Y:=yp o;have U:=yp Z;have gv1:=yp n;have gv2:=yp<|AZ p k;have hP:=AR (b:=Ao) (by decide) k;have hW:=uC Ao r k (by omega) N;have hV:=rG Ao v k E;have hu':=AD (b:=Ao) (by decide)<|AQ a k;have y:=Bw (b:=Ao) (by decide)<|AQ a k;have hv':=AD (b:=Ao) (by decide)<|AQ p k;rw[ye,yq<|by omega]at y;have hle:r.getD (k+2) 0<=v.getD (k+1) 0:=by
   have a1:=Cs Ao (r.drop 1) (k+1) (by rw[List.length_drop];omega);have a2:(r.drop 1).drop (k+1)=r.getD (k+2) 0::r.drop (k+3):=by
    rw[List.drop_drop,show 1+(k+1)=k+2 by omega];exact Cq (by omega)
   have a3:zf Ao (r.getD (k+2) 0::r.drop (k+3))=r.getD (k+2) 0:=by
    show r.getD (k+2) 0+(Ao:Int)*zf Ao (r.drop<|k+3)=_;rw[N];omega
   rw[a2,a3]at a1;have R:zf Ao v=zf Ao (v.take<|k+1)+(Ao:Int)^(k+1)*v.getD (k+1) 0:=by
    rw[<-AJ,yb<|by omega]
   have H:=Bw (b:=Ao) (by decide)<|AQ p<|k+1;rw[ye,yq<|by omega]at H;have c1:=AD (b:=Ao) (by decide)<|AQ (E5 a 1)<|k+1;have c2:(Ao:Int)^(k+1)*r.getD (k+2) 0<(Ao:Int)^(k+1)*(v.getD (k+1) 0+1):=by
    rw[zr,Int.mul_one];omega
   have:=Int.lt_of_mul_lt_mul_left c2 (z8<|AR (by decide)<|k+1);omega
  have w:∀(q:Int) (D:List Int),D.length=e+1-j->Ay Ao D->(0<=q/\q<18446744073709551616)->zf Ao D<zf Ao v->zf Ao D=zf Ao r-q*zf Ao v->Ends J7 (L4 s v (e+1) ((k+2:Nat):Int) (e-(k+2)+1) (zc .i64<|(j:Int)-1) ((zx (j+1) 0++f).set j q)<|lo++D) Q:=by
   intro q D h1 h2 h3 h4 h5;have es:(zx (j+1) (0:Int)++f).set j q=zx j 0++(q::f):=by
    rw[yk,yc];exact DL _ _ _ _ (by simp)
   rw[es,wr ((j:Int)-1) (by omega)<|by omega];refine Ca s v k e E W P p B W0 hq j (lo++D) (q::f) (by simp;omega) (by simp;omega) (Fs G h2) (fun d h=>?_) (by rw[m];exact h4) ?_
   ·rcases List.mem_cons.1 h with rfl|h
    ·exact h3
    ·exact C d h
   ·rw[S,C8,C8,g,h5,Mo];show zf Ao lo+(Ao:Int)^j*zf Ao r+zf Ao v*((Ao:Int)^j*(18446744073709551616*zf Ao f))=zf Ao lo+(Ao:Int)^j*(zf Ao r-q*zf Ao v)+zf Ao v*((Ao:Int)^j*(q+18446744073709551616*zf Ao f));have x1:zf Ao v*((Ao:Int)^j*q)=(Ao:Int)^j*(q*zf Ao v):=by
     rw[Int.mul_left_comm,zp (zf Ao v) q]
    rw[yv,zr ((Ao:Int)^j) q,zr<|zf Ao v,x1];omega
  have ez:zo 0 j=j:=Nat.zero_add j;have e0:(((j+1:Nat):Int)-1)=(j:Int):=by omega
  have e1:zc .i64 (zc .i64 ((j:Int)+((k+2:Nat):Int))+1)=((j+(k+3):Nat):Int):=by
   rw[wr ((j:Int)+((k+2:Nat):Int)) (by omega) (by omega),wr _ (by omega)<|by omega];omega
  have e2:zc .i64 (((k+2:Nat):Int)-1)=((k+1:Nat):Int):=by rw[wr _ (by omega)<|by omega];omega
  have e3:zy (j+(k+3)) j=k+3:=by show j+(k+3)-j=_;omega
  have J:decide (zo (k+2) j<(lo++r).length)=true:=lw g (by omega);have M:decide (zo (k+1) j<(lo++r).length)=true:=lw g (by omega);rw[e0];refine yu (CD ..) (zg (by simp) ?_);rw[E,e1,e2,zn,zn,zn,zn,ez,e3,gw g,gw g];have R:(decide ((0:Int)<=((k+2:Nat):Int))&&decide (((k+2:Nat):Int)<((k+3:Nat):Int)))=true:=by simp;omega
  have H:(decide ((0:Int)<=((k+1:Nat):Int))&&decide (((k+1:Nat):Int)<((k+2:Nat):Int)))=true:=by simp;omega
  have b3:(decide ((0:Int)<=((k+1:Nat):Int))&&decide (((k+1:Nat):Int)<((k+3:Nat):Int)))=true:=by simp;omega
  have I:j<(zx (j+1) (0:Int)++f).length:=by simp;omega
  refine zg (by simp;omega)<|zg R<|zg J<|zg H<|y7 (fun c=>?_)<|fun c=>?_
  ·have c:=w6 c;obtain⟨a1,a2,a3⟩:=Mg o n (c:=0) (by decide);refine zg b3<|zg M<|zg H<|zg (Ab (Ab (Ab o n) rfl) rfl) ?_;refine CN s v (e+1) _ _ _ _ _ v k j lo (e+1-j) r _ E (by omega) (by omega) g (by omega) I p L a N B w 18446744073709551616 _ _ _ (by decide) (by decide) (by decide) a1 (by omega) ?_ ?_
   ·rw[a3];omega
   ·exact T
  ·have c:=w7 c;obtain⟨d1,d2,d3,d4,d5⟩:=dqr (r:=r.getD (k+2) 0) (x:=r.getD (k+1) 0) (d:=v.getD (k+1) 0) (by omega) (by omega) Y;refine zg R (zg J<|zg b3<|zg M<|zg H<|zg (Ab (Ab (Ab K o) n)<|w4<|by omega) ?_);refine CN s v (e+1) _ _ _ _ _ v k j lo (e+1-j) r _ E (by omega) (by omega) g (by omega) I p L a N B w 18446744073709551616 _ _ _ d2 d3 d3 (CZ d4<|by omega) (.inl rfl) ?_ ?_
   ·rw[<-d1];omega
   ·rw[hW,hV];exact Nj hP (by decide) d2 hv' gv2.1 y U.2 d1 d5
end T212
end Go.Pe
