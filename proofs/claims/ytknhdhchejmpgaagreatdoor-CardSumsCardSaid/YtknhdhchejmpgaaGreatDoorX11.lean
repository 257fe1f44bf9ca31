import Derived.Test.YtknhdhchejmpgaaGreatDoorX10
import Derived.Test.YtknhdhchejmpgaaGreatDoorX01
import Derived.Lib.ItoaMem
/- A part of a proof (no law is stated here). Made by program out of texts by AI agents. -/
noncomputable section
open Go.IntKind renaming wrap -> zc, u64 -> zd, u8 -> z6, i64 -> yg
open Go.Pe.Sh renaming int -> ze, list -> zf, nlist -> zg, bool -> zh, str -> zj, pair -> zo, T -> yr
open UInt8 renaming toNat -> zi, ofNat -> yo
open Nat renaming add -> zk, sub -> zt
open Int renaming mul_le_mul_of_nonneg_right -> zl, tmod -> z7, le_of_lt -> yb, mul_assoc -> yc, toNat_natCast -> yd, tdiv -> yh, add_mul -> yj, mul_add -> yk, mul_comm -> yn, fdiv -> yq
open Go.Pe.PV renaming agg -> zq
open Go.Pe.Ends renaming tt -> zr, leaf -> ya, ite -> ym
open Go.Sp renaming u64 -> zu, first -> yp, vI -> yu
open Option renaming getD -> zw
open List renaming replicate -> z8, append_assoc -> ye, length -> yf, map -> yi
open Min renaming min -> yt
namespace Go.Pe
open Sp
open Go.Det
theorem bT(x k:Nat)(h:2^k<=x):x.log2=k+(x/2^k).log2:=by
 have hk:=Nat.two_pow_pos k;have hz:x/2^k≠0:=by
  have:=Nat.div_pos h hk;omega
 have hx:x≠0:=by omega
 refine(Nat.log2_eq_iff hx).2 ⟨?_,?_⟩
 ·rw[Nat.pow_add];exact Nat.le_trans (Nat.mul_le_mul_left _ (Nat.log2_self_le hz)) (Nat.mul_div_le x (2^k))
 ·rw[Nat.add_assoc,Nat.pow_add];have a:x/2^k+1<=2^((x/2^k).log2+1):=Nat.lt_log2_self;have b:=Nat.mul_le_mul_left (2^k) a;have c:=Nat.lt_mul_div_succ x hk;exact Nat.lt_of_lt_of_le c b
theorem N0(x k:Nat)(h:2^k<=x):EP (x:Int)=(k:Int)+EP ((x/2^k:Nat):Int):=by
 have hk:=Nat.two_pow_pos k;have hz:=Nat.div_pos h hk;have e:=bT x k h;unfold EP;rw[wc (by omega),wc (by omega),yd,yd,e];omega
theorem vM(n k:Nat):yq (n:Int) ((2:Int)^k)=((n/2^k:Nat):Int):=by
 have:(0:Int)<2^k:=Int.pow_pos (by decide);rw[Int.fdiv_eq_ediv_of_nonneg _ (by omega),Int.natCast_ediv,Int.natCast_pow];rfl
def tW:List UInt8:=[(0:UInt8),(1:UInt8),(2:UInt8),(2:UInt8),(3:UInt8),(3:UInt8),(3:UInt8),(3:UInt8),(4:UInt8),(4:UInt8),(4:UInt8),(4:UInt8),(4:UInt8),(4:UInt8),(4:UInt8),(4:UInt8),(5:UInt8),(5:UInt8),(5:UInt8),(5:UInt8),(5:UInt8),(5:UInt8),(5:UInt8),(5:UInt8),(5:UInt8),(5:UInt8),(5:UInt8),(5:UInt8),(5:UInt8),(5:UInt8),(5:UInt8),(5:UInt8),(6:UInt8),(6:UInt8),(6:UInt8),(6:UInt8),(6:UInt8),(6:UInt8),(6:UInt8),(6:UInt8),(6:UInt8),(6:UInt8),(6:UInt8),(6:UInt8),(6:UInt8),(6:UInt8),(6:UInt8),(6:UInt8),(6:UInt8),(6:UInt8),(6:UInt8),(6:UInt8),(6:UInt8),(6:UInt8),(6:UInt8),(6:UInt8),(6:UInt8),(6:UInt8),(6:UInt8),(6:UInt8),(6:UInt8),(6:UInt8),(6:UInt8),(6:UInt8),(7:UInt8),(7:UInt8),(7:UInt8),(7:UInt8),(7:UInt8),(7:UInt8),(7:UInt8),(7:UInt8),(7:UInt8),(7:UInt8),(7:UInt8),(7:UInt8),(7:UInt8),(7:UInt8),(7:UInt8),(7:UInt8),(7:UInt8),(7:UInt8),(7:UInt8),(7:UInt8),(7:UInt8),(7:UInt8),(7:UInt8),(7:UInt8),(7:UInt8),(7:UInt8),(7:UInt8),(7:UInt8),(7:UInt8),(7:UInt8),(7:UInt8),(7:UInt8),(7:UInt8),(7:UInt8),(7:UInt8),(7:UInt8),(7:UInt8),(7:UInt8),(7:UInt8),(7:UInt8),(7:UInt8),(7:UInt8),(7:UInt8),(7:UInt8),(7:UInt8),(7:UInt8),(7:UInt8),(7:UInt8),(7:UInt8),(7:UInt8),(7:UInt8),(7:UInt8),(7:UInt8),(7:UInt8),(7:UInt8),(7:UInt8),(7:UInt8),(7:UInt8),(7:UInt8),(7:UInt8),(7:UInt8),(7:UInt8),(7:UInt8),(7:UInt8),(8:UInt8),(8:UInt8),(8:UInt8),(8:UInt8),(8:UInt8),(8:UInt8),(8:UInt8),(8:UInt8),(8:UInt8),(8:UInt8),(8:UInt8),(8:UInt8),(8:UInt8),(8:UInt8),(8:UInt8),(8:UInt8),(8:UInt8),(8:UInt8),(8:UInt8),(8:UInt8),(8:UInt8),(8:UInt8),(8:UInt8),(8:UInt8),(8:UInt8),(8:UInt8),(8:UInt8),(8:UInt8),(8:UInt8),(8:UInt8),(8:UInt8),(8:UInt8),(8:UInt8),(8:UInt8),(8:UInt8),(8:UInt8),(8:UInt8),(8:UInt8),(8:UInt8),(8:UInt8),(8:UInt8),(8:UInt8),(8:UInt8),(8:UInt8),(8:UInt8),(8:UInt8),(8:UInt8),(8:UInt8),(8:UInt8),(8:UInt8),(8:UInt8),(8:UInt8),(8:UInt8),(8:UInt8),(8:UInt8),(8:UInt8),(8:UInt8),(8:UInt8),(8:UInt8),(8:UInt8),(8:UInt8),(8:UInt8),(8:UInt8),(8:UInt8),(8:UInt8),(8:UInt8),(8:UInt8),(8:UInt8),(8:UInt8),(8:UInt8),(8:UInt8),(8:UInt8),(8:UInt8),(8:UInt8),(8:UInt8),(8:UInt8),(8:UInt8),(8:UInt8),(8:UInt8),(8:UInt8),(8:UInt8),(8:UInt8),(8:UInt8),(8:UInt8),(8:UInt8),(8:UInt8),(8:UInt8),(8:UInt8),(8:UInt8),(8:UInt8),(8:UInt8),(8:UInt8),(8:UInt8),(8:UInt8),(8:UInt8),(8:UInt8),(8:UInt8),(8:UInt8),(8:UInt8),(8:UInt8),(8:UInt8),(8:UInt8),(8:UInt8),(8:UInt8),(8:UInt8),(8:UInt8),(8:UInt8),(8:UInt8),(8:UInt8),(8:UInt8),(8:UInt8),(8:UInt8),(8:UInt8),(8:UInt8),(8:UInt8),(8:UInt8),(8:UInt8),(8:UInt8),(8:UInt8),(8:UInt8),(8:UInt8),(8:UInt8),(8:UInt8),(8:UInt8),(8:UInt8),(8:UInt8),(8:UInt8),(8:UInt8)]
theorem XP:∀m:Fin 256,((zi (tW.getD m.val 0):Nat):Int)=EP (m.val:Int)/\zc .u8 (m.val:Int)=(m.val:Int)/\EP (m.val:Int)<=8/\0<=EP (m.val:Int):=by decide+kernel
theorem ME{ACC:Int}(a z x:Nat)(hA:ACC=a)(ha:a<=64)(hz:z<256)(hx:EP (x:Int)=(a:Int)+EP (z:Int)):zc .i64 (ACC+zc .i64 ((zi (tW.getD (Int.toNat (zc .u8 (z:Int))) 0):Nat):Int))=EP x:=by
 obtain⟨e1,e2,e3,e4⟩:=XP ⟨z,hz⟩;have e1:((zi (tW.getD z 0):Nat):Int)=EP (z:Int):=e1;have e2:zc .u8 (z:Int)=(z:Int):=e2;have e3:EP (z:Int)<=8:=e3;have e4:0<=EP (z:Int):=e4;rw[e2,yd,e1,hA,hx,wr (EP (z:Int)) (by omega) (by omega),wr _ (by omega) (by omega)]
theorem sC(z:Nat)(hz:z<256):(decide ((0:yr (ze z6))<=zc z6 (z:Int))&&decide (zc z6 (z:Int)<(↑(256:Nat):Int)))=true:=by
 obtain⟨_,e2,_,_⟩:=XP ⟨z,hz⟩;have e2:zc .u8 (z:Int)=(z:Int):=e2;rw[e2];exact Ac (w4 (show(0:Int)<=(z:Int)by omega)) (w4 (by omega))
namespace T247
set_option maxHeartbeats 1000000 in
set_option maxRecDepth 100000 in
theorem ok:Ag Bh 247 Vs:=by
 refine Cn Ja (fun(x:Int) hx=>?_);have hx:=Sp.AX (n:=x) hx;obtain⟨x,rfl⟩:=Int.eq_ofNat_of_zero_le hx.1;refine Ends.eq (Am (x:Int)) ?_;conv=>zeta
 conv=>zeta
 rw[vM x 32,vM x 16,vM x 8,vM (x/2^32) 16,vM (x/2^32) 8,vM (x/2^32/2^16) 8,vM (x/2^16) 8];have l32:=N0 x 32;have l16:=N0 x 16;have l8:=N0 x 8;have l3216:=N0 (x/2^32) 16;have l328:=N0 (x/2^32) 8;have l32168:=N0 (x/2^32/2^16) 8;have l168:=N0 (x/2^16) 8;refine ym (fun c1=>zr rfl (ym (fun c2=>zr rfl (ym (fun c3=>zr rfl (zr (sC _ ?_) (ya (Ad.of rfl rfl (ME 56 _ x (by decide+kernel) (by decide) ?_ ?_))))) (fun c3=>zr (sC _ ?_) (ya (Ad.of rfl rfl (ME 48 _ x (by decide+kernel) (by decide) ?_ ?_)))))) (fun c2=>ym (fun c3=>zr rfl (zr (sC _ ?_) (ya (Ad.of rfl rfl (ME 40 _ x (by decide+kernel) (by decide) ?_ ?_))))) (fun c3=>zr (sC _ ?_) (ya (Ad.of rfl rfl (ME 32 _ x rfl (by decide) ?_ ?_))))))) (fun c1=>ym (fun c2=>zr rfl (ym (fun c3=>zr rfl (zr (sC _ ?_) (ya (Ad.of rfl rfl (ME 24 _ x (by decide+kernel) (by decide) ?_ ?_))))) (fun c3=>zr (sC _ ?_) (ya (Ad.of rfl rfl (ME 16 _ x (by decide+kernel) (by decide) ?_ ?_)))))) (fun c2=>ym (fun c3=>zr rfl (zr (sC _ ?_) (ya (Ad.of rfl rfl (ME 8 _ x (by decide+kernel) (by decide) ?_ ?_))))) (fun c3=>zr (sC _ ?_) (ya (Ad.of rfl rfl (ME 0 _ x rfl (by decide) ?_ ?_))))));all_goals
  first
   |replace c1:=w6 c1
   |replace c1:=w7 c1
  first
   |replace c2:=w6 c2
   |replace c2:=w7 c2
  first
   |replace c3:=w6 c3
   |replace c3:=w7 c3
  omega
end T247
theorem qB:D3 XD1:=Aa T247.ok AO
theorem R9{n:Int}(h1:0<=n)(h2:n<18446744073709551616):0<=Sp.EP n/\Sp.EP n<=64:=by
 unfold Sp.EP;split
 ·omega
 ·have:n.toNat.log2<64:=(Nat.log2_lt (by omega)).2 (by omega);omega
namespace T272
theorem ok:Ag Bh 272 zI:=by
 refine Cn qB (fun(x:Int) hx=>?_);have h:=Sp.AX (n:=x) hx;have hl:=R9 h.1 h.2;refine Ends.eq (Am x) (zr hx (ya (Ad.of rfl rfl ?_)));show zc .i64 (64-Sp.EP x)=Sp.lz x;unfold Sp.lz;exact wr _ (by omega) (by omega)
end T272
theorem cV:Ag Bh 271 RA:=T271.ok T272.ok
end Go.Pe
namespace Go.Sp
def SB(a b:List Int):Bool:=B5 a&&B5 b&&decide (a.length<=9000)&&decide (b.length<=9000)&&decide (0<Ak b)
end Go.Sp
namespace Go.Pe
open Sp
open Go.Det
def F6:Ao:=⟨[C9,C9],fun i=>SB i.1 i.2,[C9,C9],fun i=>(Bq (Ak i.1/Ak i.2),Bq (Ak i.1 % Ak i.2)),false⟩
def Jr:A0:=X7 [(221,X5),(269,V6),(223,Sl),(268,Wg),(270,WD),(271,RA),(272,zI)]
end Go.Pe
namespace Go.Sp
def HA(c:UInt8):Int:=(c.toNat:Int)-48
def BL(c:UInt8):Bool:=decide (48<=c.toNat)&&decide (c.toNat<=57)
def Ay(n:Int):List UInt8->Int
 |[]=>n
 |c::r=>Ay (10*n+HA c) r
def Aj(s:List UInt8):Bool:=s.all BL
theorem CL:∀(n:Int) (a b:List UInt8),Ay n (a++b)=Ay (Ay n a) b
 |_,[],_=>rfl
 |n,c::a,b=>by rw[List.cons_append,Ay,Ay,CL]
theorem Et:∀(s:List UInt8) (n:Int),Ay n s=n*10^s.length+Ay 0 s
 |[],n=>by simp[Ay]
 |c::s,n=>by
  rw[Ay,Ay,Et s (10*n+HA c),Et s (10*0+HA c),List.length_cons,Int.pow_succ,yj,Int.mul_zero,Int.zero_add,yn 10 n,yc,yn 10 (10^s.length),Int.add_assoc]
theorem CY{c:UInt8}(h:BL c=true):0<=HA c/\HA c<=9:=by
 unfold BL at h;rw[Bool.and_eq_true,w5,w5]at h;unfold HA;omega
theorem Be:∀ {s:List UInt8},Aj s=true->0<=Ay 0 s/\Ay 0 s<10^s.length
 |[],_=>by simp[Ay]
 |c::s,h=>by
  unfold Aj at h;rw[List.all_cons,Bool.and_eq_true]at h;have a:=CY h.1;have b:=Be (s:=s) h.2;have hp:=AN (show(0:Int)<10 by decide) s.length;have c1:=Int.mul_nonneg a.1 (yb hp);have c2:=zl a.2 (yb hp);rw[Ay,Et,List.length_cons,Int.pow_succ,Int.mul_zero,Int.zero_add,yn (10^s.length) 10];omega
theorem Bb{s:List UInt8}(h:Aj s=true)(i:Nat):Aj (s.take i)=true:=by
 unfold Aj at h ⊢;rw[List.all_eq_true]at h ⊢;exact fun x hx=>h x (List.mem_of_mem_take hx)
theorem BP{s:List UInt8}(h:Aj s=true)(i:Nat):Aj (s.drop i)=true:=by
 unfold Aj at h ⊢;rw[List.all_eq_true]at h ⊢;exact fun x hx=>h x (List.mem_of_mem_drop hx)
def AT(s:List UInt8):Bool:=decide (s≠[])&&Aj s&&(decide (s.getD 0 0≠48)||decide (s=[48]))
def Gs(a b:AR):AR:=if vI a<0/\Ae (vI a) % vI b≠0 then MY (CP (-(Ae (vI a)/vI b))) (1,[])else CP (sg (decide (vI a<0)) (Ae (vI a)/vI b))
def dE(a b:AR):Int:=(Gs a b).1
def bF(a b:AR):List Int:=(Gs a b).2
def Iv(a b:AR):Int:=Cz (vI a % vI b)
def Ik(a b:AR):List Int:=Cx (vI a % vI b)
def gI(a b:Int):Int:=if a<0 then -(-(Int.gcd a b:Int))else(Int.gcd a b:Int)
theorem Fk(a b:Int):gI a b=(Int.gcd a b:Int):=by unfold gI;split<;>omega
def Mw(a b:AR):Int:=Cz (gI (vI a) (vI b))
def Ms(a b:AR):List Int:=Cx (gI (vI a) (vI b))
def pI(a k:Int):Int:=if k<0 then -(-(a^k.toNat))else a^k.toNat
theorem RN(a k:Int):pI a k=a^k.toNat:=by unfold pI;split<;>omega
def kF(a k:Int):Bool:=decide (0<=k)&&decide (k<=100000)&&decide (Ae (pI a k)<(18446744073709551616:Int)^(4000:Nat))
def UD(a:AR)(k:Int):Int:=Cz (pI (vI a) k)
def UM(a:AR)(k:Int):List Int:=Cx (pI (vI a) k)
def BA(n:Int):List Int:=if n<0 then[]else[]
theorem Ei(n:Int):BA n=[]:=by unfold BA;split<;>rfl
def Cc(s:List UInt8):Int:=if s.getD 0 0=45 then -Ay 0 (s.drop 1)else Ay 0 s
def Ee(s:List UInt8):Bool:=decide (s.length<=5999)&&(if s.getD 0 0=45 then Aj (s.drop 1)else Aj s)
def Db(s:List UInt8):Int:=Cz (Cc s)
def C5(s:List UInt8):List Int:=Cx (Cc s)
end Go.Sp
namespace Go.Pe
open Sp
open Go.Det
def FI:Ao:=⟨[BJ,BJ],fun i=>A4 i.1&&A4 i.2&&decide (0<yu i.2),[BJ,BJ],fun i=>((dE i.1 i.2,bF i.1 i.2),(Iv i.1 i.2,Ik i.1 i.2)),false⟩
def Xz:Ao:=⟨[BJ,BJ],fun i=>A4 i.1&&A4 i.2,[BJ],fun i=>(Mw i.1 i.2,Ms i.1 i.2),false⟩
def fH:Ao:=⟨[BJ,i64],fun i=>A4 i.1&&kF (yu i.1) i.2,[BJ],fun i=>(UD i.1 i.2,UM i.1 i.2),false⟩
def NQ:Ao:=⟨[.str],fun s=>Ee s,[BJ],fun s=>(Db s,C5 s),false⟩
def Ww:Ao:=⟨[i64],fun _=>true,[BJ],fun n=>(n,BA n),false⟩
def xC:A0:=ZD [(176,[9,10])] [] [(176,[(9,[3,4,5,8,12,13]),(10,[3,4,5,14,15])])] [(105,Ww),(230,F6),(218,NP),(219,gB),(217,eH),(158,Oa),(173,HZ)]
def XF0:A0:=X7 []
def yM:A0:=X7 [(176,FI),(212,rD),(173,HZ)]
def xD:A0:=X7 [(105,Ww),(159,QS)]
end Go.Pe
namespace Go.Sp
abbrev B9:Nat:=1000000000
def JA(l:List Int):Bool:=decide (l.length<=20000)&&l.all fun d=>decide (0<=d)&&decide (d<1000000000)
def hR(l:List Int):Bool:=JA l&&decide (l.length<=9000)
def A5(l:List Int):Bool:=JA l&&tH l
def Ar(l:List Int):Int:=val B9 l
def BN(n:Int):List Int:=dg B9 n
def rN(n:Int):Bool:=decide (n<0)
def rW(n:Int):List Int:=BN (Ae n)
def B7(neg:Bool)(w:List Int):Bool:=neg&&decide (As w≠[])
def DU(s:List UInt8):Bool:=decide (s.length<=18)&&Aj s
def Bu(s:List UInt8):Int:=Ay 0 s
def EX(s:List UInt8):Bool:=rN (Cc s)
def EY(s:List UInt8):List Int:=rW (Cc s)
def Cm(a b:List Int):List Int:=BN (gI (Ar a) (Ar b))
end Go.Sp
namespace Go.Pe
open Sp
open Go.Det
abbrev li:Sh:=.list i64
abbrev Js:Sh:=.pair .bool li
def RR:Ao:=⟨[li],fun l=>decide (yf (α:=Int) l<=20000),[li],fun l=>As l,false⟩
def II:Ao:=⟨[.bool,li],fun i=>decide (yf (α:=Int) i.2<=20000),[Js],fun i=>(B7 i.1 i.2,As i.2),false⟩
def Xe:Ao:=⟨[li,li],fun i=>A5 i.1&&A5 i.2,[i64],fun i=>BO (Ar i.1) (Ar i.2),false⟩
def Ye:Ao:=⟨[li,li],fun i=>Sp.hR i.1&&Sp.hR i.2,[li],fun i=>BN (Ar i.1*Ar i.2),false⟩
def Wx:Ao:=⟨[li,i64],fun i=>JA i.1&&decide (0<(i.2:Int))&&decide ((i.2:Int)<1000000000),[li,i64],fun i=>(BN (Ar i.1/i.2),Ar i.1 % i.2),false⟩
def QG:Ao:=⟨[li,li],fun i=>A5 i.1&&A5 i.2&&decide (yf (α:=Int) i.1<=9000)&&decide (yf (α:=Int) i.2<=9000)&&decide (0<Ar i.2),[li,li],fun i=>(BN (Ar i.1/Ar i.2),BN (Ar i.1 % Ar i.2)),false⟩
def Kj:Ao:=⟨[li,li],fun i=>A5 i.1&&A5 i.2&&decide (yf (α:=Int) i.1<=9000)&&decide (yf (α:=Int) i.2<=9000),[li],fun i=>Cm i.1 i.2,false⟩
def SY:Ao:=⟨[.str],fun s=>DU s,[i64],fun s=>Bu s,false⟩
def Sv:Ao:=⟨[.str],fun s=>Ee s,[Js],fun s=>(EX s,EY s),false⟩
def kQ:A0:=X7 []
def aS:A0:=X7 [(227,RR)]
def LB:A0:=X7 [(170,Xe),(227,RR),(226,Wx),(172,Ye)]
def yT:A0:=X7 [(164,QG)]
def aR:A0:=X7 [(165,SY),(168,II)]
end Go.Pe
namespace Go.Sp
def Dm:List UInt8:=[48,49,50,51,52,53,54,55,56,57]
def X1(o:List Bool):List Bool:=(List.range 256).map fun j=>o.getD j false
def rH:List Bool:=z8 256 false
def OP(s:List UInt8):List UInt8:=((s.reverse.dropWhile BL).reverse).dropWhile BL
def Pn(s:List UInt8)(c:Int):Int:=match s.findIdx? (fun x=>x==c.toNat.toUInt8)with
 |some i=>(i:Int)
 |none=> -1
def Aw(s:List UInt8):List UInt8:=match s.findIdx? (fun x=>x==47)with
 |some i=>s.take i
 |none=>s
def AM(s:List UInt8):List UInt8:=match s.findIdx? (fun x=>x==47)with
 |some i=>s.drop (i+1)
 |none=>[]
def Bj(s:List UInt8):Bool:=s.any (fun x=>x==47)
def AZ(s:List UInt8):List UInt8:=if s.getD 0 0=45 then s.drop 1 else s
def preB(s:List UInt8):Bool:=decide (s.getD 0 0=45)
def rG(s t:List UInt8):Bool:=decide (t=Dm)&&decide (s.length<=1000000)
def uU(s t:List UInt8):Bool:=decide (t=[47])&&decide (s.length<=1000000)
def Sd(s t:List UInt8):Bool:=decide (t=[45])&&decide (s.length<=1000000)
end Go.Sp
namespace Go.Pe
open Sp
open Go.Det
def Vk:Ao:=⟨[.str,.str],fun i=>rG i.1 i.2,[.str],fun i=>OP i.1,false⟩
def rL:Ao:=⟨[.str,.int .u8],fun i=>decide (0<=(i.2:Int))&&decide ((i.2:Int)<256),[i64],fun i=>Pn i.1 i.2,false⟩
def fX:Ao:=⟨[.str,.str],fun i=>uU i.1 i.2,[.str,.str,.bool],fun i=>(Aw i.1,Sp.AM i.1,Bj i.1),false⟩
def sA:Ao:=⟨[.str,.str],fun i=>Sd i.1 i.2,[.str,.bool],fun i=>(AZ i.1,Sp.preB i.1),false⟩
def LY:Ao:=⟨[.str],fun s=>decide (s.length<=1000000),[.bool],fun s=>AT s,false⟩
def Ng:A0:=X7 []
def Zn:A0:=X7 [(263,⟨[.str,.str],fun _=>false,[.str],fun i=>i.1,false⟩),(264,⟨[.str,.str],fun _=>false,[.str],fun i=>i.1,false⟩),(258,⟨[.str,.int .u8],fun _=>false,[.str],fun i=>i.1,false⟩),(259,⟨[.str,.int .u8],fun _=>false,[.str],fun i=>i.1,false⟩)]
def XH1:A0:=X7 [(211,Vk)]
def XH2:A0:=X7 [(316,rL)]
def P6:A0:=X7 [(105,Ww),(216,fH),(159,QS),(158,Oa),(174,Td),(302,⟨[.str,i64,i64],fun _=>false,[i64],fun _=>(0:Int),false⟩),(267,⟨[.str],fun _=>false,[i64],fun _=>(0:Int),false⟩)]
end Go.Pe
namespace Go.Sp
def F9(a:List UInt8):Bool:=AT (Aw (AZ a))&&(!preB a||decide (Aw (AZ a)≠[48]))&&(!Bj (AZ a)||(AT (AM (AZ a))&&decide (AM (AZ a)≠[48])&&decide (AM (AZ a)≠[49])))
def oB(a:List UInt8):Int:=Ay 0 (Aw (AZ a))
def nO(a:List UInt8):Int:=Ay 0 (AM (AZ a))
def AF(a:List UInt8):Int:=if F9 a=false then 1 else if 600<(Aw (AZ a)).length\/600<(AM (AZ a)).length then 4 else if Bj (AZ a)=true/\gI (oB a) (nO a)≠1 then 1 else 0
def AV(s:List UInt8):Int:=((Aw s).length:Int)
def Hn(a:List UInt8):Bool:=Ee (Aw a)&&Ee (AM a)&&decide (a.length<=5999)
def A6(a:List UInt8):Int:=Cc (Aw a)
def AG(a:List UInt8):Int:=if Bj a=true then Cc (AM a)else 1
def Bx(a:List UInt8):Bool:=rN (A6 a)
def Br(a:List UInt8):List Int:=rW (A6 a)
def Bg(a:List UInt8):Bool:=rN (AG a)
def Bc(a:List UInt8):List Int:=rW (AG a)
end Go.Sp
namespace Go.Pe
open Sp
open Go.Det
def EE:Ao:=⟨[.str],fun s=>decide (s.length<=1000000),[i64],fun s=>AF s,false⟩
def Mh:Ao:=⟨[.str],fun s=>decide (s.length<=1000000),[i64],fun s=>AV s,false⟩
def K8:Ao:=⟨[i64],fun n=>CD n,[Js],fun n=>(Sp.rN n,Sp.rW n),false⟩
def Rv:Ao:=⟨[.str],fun s=>Hn s,[Js,Js],fun s=>((Bx s,Br s),(Bg s,Bc s)),false⟩
def LW:A0:=ZD [(77,[4,6,7,9,10])] [] [(77,[(4,[5,6,7,8]),(6,[5,6,7,8]),(7,[5,6,7,9]),(9,[5,6,7]),(10,[10])])] [(83,NW),(85,W4),(149,sA),(150,fX),(151,LY),(152,Xz),(153,NQ),(154,Ym),(105,Ww)]
def rV:A0:=X7 [(168,II)]
def XK3:A0:=X7 [(89,Mh),(163,Sv),(107,K8)]
def UH:A0:=ZD [(24,[4,7,9,11,13,14])] [] [(24,[(4,[0,3]),(7,[3,4]),(9,[3,4]),(11,[3,4]),(13,[5,6]),(14,[7])])] [(89,Mh),(90,LY),(91,Rv),(92,Kj)]
end Go.Pe
namespace Go.Sp
abbrev AS:=(Int×List Int)×(Int×List Int)
def M5(a:AR):Bool:=Dk a&&decide (a.2.length<=4000)
def DB(a:AS):Bool:=M5 a.1&&M5 a.2
def bN(a b:AS):Int:=BO (vI a.1*vI b.2) (vI b.1*vI a.2)
def WO(a:List UInt8):Int:=Cz (A6 a)
def V3(a:List UInt8):List Int:=Cx (A6 a)
def Si(a:List UInt8):Int:=Cz (AG a)
def Rk(a:List UInt8):List Int:=Cx (AG a)
def iQ(a b:AR):AR:=if vI b<0 then Gs (Ds a) (Ds b)else Gs a b
def iQS(a b:AR):Int:=(iQ a b).1
def iQW(a b:AR):List Int:=(iQ a b).2
def CN(d:AR):Bool:=decide (d.2=[])&&decide (d.1=1)
def gR(n d:AR):AR:=(Mw n d,Ms n d)
def MS(n d:AR):AS:=if CN d=true then(n,d)else(iQ n (gR n d),iQ d (gR n d))
def aD(n d:AR):AS:=if vI d<0 then MS (Ds n) (Ds d)else MS n d
def fWh(n:AR):AS:=(n,(1,BA 1))
def Hu(a b:AS):AS:=if CN a.2=true/\CN b.2=true then fWh (Eo a.1 b.1)else aD (Eo (E1 a.1 b.2) (E1 b.1 a.2)) (E1 a.2 b.2)
def OX(a b:AS):AS:=aD (E1 a.1 b.1) (E1 a.2 b.2)
def nS(f:AS):Int:=f.1.1
def nW(f:AS):List Int:=f.1.2
def dS(f:AS):Int:=f.2.1
def dW(f:AS):List Int:=f.2.2
def cS(n d:AR):Int:=nS (aD n d)
def bJ(n d:AR):List Int:=nW (aD n d)
def bV(n d:AR):Int:=dS (aD n d)
def dL(n d:AR):List Int:=dW (aD n d)
def UL(a b:AS):Int:=nS (Hu a b)
def TL(a b:AS):List Int:=nW (Hu a b)
def TU(a b:AS):Int:=dS (Hu a b)
def Us(a b:AS):List Int:=dW (Hu a b)
def yE(a b:AS):Int:=nS (OX a b)
def zF(a b:AS):List Int:=nW (OX a b)
def zE(a b:AS):Int:=dS (OX a b)
def xX(a b:AS):List Int:=dW (OX a b)
def FO(a:AS):Bool:=DB a&&decide (0<vI a.2)
def M0(n d:AR):Bool:=A4 n&&A4 d&&decide (vI d≠0)
end Go.Sp
namespace Go.Pe
open Sp
open Go.Det
abbrev BV:Sh:=.pair BJ BJ
def Xy:Ao:=⟨[.str],fun s=>Hn s,[BV],fun s=>((WO s,V3 s),(Si s,Rk s)),false⟩
def sK:Ao:=⟨[BV,BV],fun i=>Sp.DB (i.1:AS)&&Sp.DB (i.2:AS),[i64],fun i=>bN (i.1:AS) (i.2:AS),false⟩
def cIQ:Ao:=⟨[BJ,BJ],fun i=>M0 i.1 i.2,[BJ],fun i=>(Sp.iQS i.1 i.2,Sp.iQW i.1 i.2),false⟩
def rP:Ao:=⟨[BJ,BJ],fun i=>M0 i.1 i.2,[BV],fun i=>((cS i.1 i.2,bJ i.1 i.2),(bV i.1 i.2,dL i.1 i.2)),false⟩
def OC:Ao:=⟨[BV],fun _=>true,[.bool],fun a=>CN (a:AS).2,false⟩
def bP:Ao:=⟨[BJ],fun _=>true,[BV],fun n=>((n:AR),((1:Int),BA 1)),false⟩
def cF:Ao:=⟨[i64],fun _=>true,[BV],fun n=>(((n:Int),BA n),((1:Int),BA 1)),false⟩
def T4:Ao:=⟨[BV,BV],fun i=>Sp.FO (i.1:AS)&&Sp.FO (i.2:AS),[BV],fun i=>((UL i.1 i.2,TL i.1 i.2),(TU i.1 i.2,Us i.1 i.2)),false⟩
def eF:Ao:=⟨[BV,BV],fun i=>Sp.FO (i.1:AS)&&Sp.FO (i.2:AS),[BV],fun i=>((yE i.1 i.2,zF i.1 i.2),(zE i.1 i.2,xX i.1 i.2)),false⟩
def sS:A0:=ZD [(175,[3])] [] [(175,[(3,[2,3,4])])] [(173,HZ),(174,Td),(176,FI),(152,Xz),(105,Ww),(158,Oa),(159,QS),(154,Ym),(150,fX),(153,NQ)]
def tA:A0:=ZD [(104,[3,6])] [] [(104,[(3,[2,3,4]),(6,[2,3,4,5])])] [(173,HZ),(174,Td),(152,Xz),(175,cIQ)]
def wX:A0:=ZD [(80,[3])] [] [(80,[(3,[2,3,4])])] [(156,OC),(157,bP),(158,Oa),(159,QS),(104,rP)]
end Go.Pe
namespace Go.Sp
def P0(a:List UInt8):List UInt8:=if Bj a=true then AM a else[49]
def Ps(a:List UInt8)(n:Int):Bool:=decide ((a.length:Int)<=2*n+2)&&decide (AF a=0)&&decide (((AZ (Aw a)).length:Int)<=n)&&decide (((P0 a).length:Int)<=n)
def BF(a:List UInt8)(n:Int):Bool:=decide (a.length<=40)&&(decide (AF a≠0)||Ps a n)
end Go.Sp
namespace Go.Pe
open Go.Det
def bI:Ao:=⟨[.str,i64],fun i=>decide (0<=(i.2:Int))&&decide ((i.2:Int)<=1000),[.bool],fun i=>Sp.Ps i.1 i.2,false⟩
def Lr:Ao:=⟨[.str,i64],fun i=>decide (0<=(i.2:Int))&&decide ((i.2:Int)<=1000),[.bool],fun i=>Sp.BF i.1 i.2,false⟩
def XZ:Ao:=⟨[.str],fun s=>decide (s.length<=1000000),[.str],fun s=>Sp.AZ s,false⟩
def jV:Ao:=⟨[.str],fun s=>decide (s.length<=1000000),[.str],fun s=>Sp.Aw s,false⟩
def Tt:Ao:=⟨[.str],fun s=>decide (s.length<=1000000),[.str],fun s=>Sp.P0 s,false⟩
def XM5:A0:=X7 [(89,Mh)]
def XM3:A0:=X7 [(24,EE),(100,XZ),(101,jV),(102,Tt)]
def XM4:A0:=X7 [(24,EE),(31,bI)]
end Go.Pe
namespace Go.Sp
def DY(a:List UInt8):Bool:=decide (a.length<=20)&&decide ((Aw (AZ a)).length<=9)&&decide ((AM (AZ a)).length<=9)
def IB(a:List UInt8):Int:=if preB a=true then -Ay 0 (Aw (AZ a))else Ay 0 (Aw (AZ a))
def RL(a:List UInt8):Int:=if Bj (AZ a)=true then Ay 0 (AM (AZ a))else 1
def Fx(a:List UInt8):Int:=if a=[48]then 0 else if a.getD 0 0=45 then -1 else 1
def Ld(a:List UInt8):List UInt8:=if a=[48]then a else if a.getD 0 0=45 then a.drop 1 else 45::a
def Hc:Nat->Nat->Nat->List UInt8->List UInt8
 |0,_,_,acc=>acc
 |f+1,n,l,acc=>if n=0/\l<=acc.length then acc else Hc f (n/10) l (yo (48+n % 10)::acc)
def HT(n l:Int):List UInt8:=Hc 64 n.toNat l.toNat []
def yU(a b:Int):Bool:=decide (0<=a)&&decide (a<9223372036854775808)&&decide (0<=b)&&decide (b<9223372036854775808)
end Go.Sp
namespace Go.Pe
open Go.Det
def sJ:Ao:=⟨[i64,i64],fun i=>Sp.yU i.1 i.2,[i64],fun i=>Sp.gI i.1 i.2,false⟩
def PL:Ao:=⟨[.str],fun s=>decide (s.length<=1000000),[i64],fun s=>Sp.Fx s,false⟩
def iF:Ao:=⟨[.str],fun s=>decide (s.length<=1000000),[.str],fun s=>Sp.Ld s,false⟩
def Oi:Ao:=⟨[i64,i64],fun i=>decide (0<=(i.1:Int))&&decide ((i.1:Int)<9223372036854775808)&&decide (0<=(i.2:Int))&&decide ((i.2:Int)<=20),[.str],fun i=>Sp.HT i.1 i.2,false⟩
def Nv:A0:=ZD [(95,[5,7,11,13])] [] [(95,[(5,[5,6]),(7,[5,6]),(11,[5,6,7,8,9]),(13,[6,8,9])])] [(165,SY),(89,Mh)]
def XO2:A0:=X7 [(41,PL)]
end Go.Pe
namespace Go.Sp
open Go.Lib
theorem Fy(a d:Nat)(ha:0<a)(hd:d<10):decDigits (10*a+d)=decDigits a++[yo (48+d)]:=by
 rw[decDigits,dif_neg (by omega),show(10*a+d)/10=a from by omega,show(10*a+d) % 10=d from by omega]
theorem cY(a d:Nat)(ha:0<a)(hd:d<10):nDigits (10*a+d)=nDigits a+1:=by
 rw[nDigits_big (by omega),show(10*a+d)/10=a from by omega]
def FY(k b:Nat):List UInt8:=z8 (k-nDigits b) 48++decDigits b
theorem Q6(k b d:Nat)(hk:1<=k)(hd:d<10):FY (k+1) (10*b+d)=FY k b++[yo (48+d)]:=by
 unfold FY;rcases Nat.eq_zero_or_pos b with rfl|hb
 ·rw[Nat.mul_zero,Nat.zero_add,nDigits_small hd,decDigits_one hd,nDigits_small (by omega),decDigits_one (by omega)];obtain⟨j,rfl⟩:∃j,k=j+1:=⟨k-1,by omega⟩;have e:(48:UInt8)=yo (48+0):=rfl;rw[Nat.add_sub_cancel,Nat.add_sub_cancel, <-e,List.replicate_succ',ye]
 ·rw[cY b d hb hd,Fy b d hb hd, <-ye,Nat.add_sub_add_right]
theorem RP:∀(k a b:Nat),1<=k->0<a->b<10^k->decDigits (a*10^k+b)=decDigits a++FY k b
 |0,_,_,h,_,_=>by omega
 |1,a,b,_,ha,hb=>by
  rw[Nat.pow_one]at*;rw[Nat.mul_comm,Fy a b ha hb];unfold FY;rw[nDigits_small hb,decDigits_one hb];rfl
 |k+2,a,b,_,ha,hb=>by
  have h1:b=10*(b/10)+b % 10:=by omega
  have h2:b/10<10^(k+1):=by
   rw[Nat.pow_succ 10 (k+1)]at hb;omega
  have h3:a*10^(k+2)+b=10*(a*10^(k+1)+b/10)+b % 10:=by
   rw[Nat.pow_succ 10 (k+1), <-Nat.mul_assoc];omega
  have hp:0<a*10^(k+1):=Nat.mul_pos ha (Nat.pow_pos (by omega));have ih:=RP (k+1) a (b/10) (by omega) ha h2;have hs:=Q6 (k+1) (b/10) (b % 10) (by omega) (by omega);rw[h3,Fy _ _ (by omega) (by omega),ih,ye, <-hs, <-h1]
def Cf:Nat->Nat->List (List UInt8)
 |0,_=>[]
 |f+1,v=>if v<10^18 then[decDigits v]else FY 18 (v % 10^18)::Cf f (v/10^18)
theorem IA:∀(f v:Nat),v<f->(Cf f v).reverse.flatten=decDigits v
 |0,_,h=>by omega
 |f+1,v,h=>by
  unfold Cf;split
  ·simp
  ·next c=>
   have hp:1<=v/10^18:=by omega
   have h1:v/10^18<f:=by omega
   have h2:=IA f (v/10^18) h1;rw[List.reverse_cons,List.flatten_append,h2];have h3:=RP 18 (v/10^18) (v % 10^18) (by omega) (by omega) (Nat.mod_lt _ (by decide));rw[show v/10^18*10^18+v % 10^18=v from by omega]at h3;rw[h3];simp
end Go.Sp
namespace Go.Pe
open Sp
open Go.Det
section
open List Int Prod
namespace T87
def T(s:List UInt8):Tr:=tree sS false 9 87 (Af ([zj]) s)
theorem Am(s:List UInt8):T s=let a':=zg (ze zd);let b':=Db (Aw s);let c':=C5 (Aw s);.ite (uU s [(47:UInt8)]) (.ite (!Bj s) (.ite (Ee (Aw s)) (.ite true (.leaf (zq [.dat i64 b',.dat a' c',.dat i64 (1:Int),.dat a' (BA 1)]) ([(zk (zk 0 1) 1,.box [.dat i64 b',.dat a' c',.dat i64 (1:Int),.dat a' (BA 1)]),(zk 0 1,.box [.dat i64 b',.dat a' c']),(0,.box [.dat i64 b',.dat a' c',.dat i64 (1:Int),.dat a' (BA 1)])])) .fail) .fail) (.ite (Ee (Aw s)) (.ite (Ee (Sp.AM s)) (.leaf (zq [.dat i64 b',.dat a' c',.dat i64 (Db (Sp.AM s)),.dat a' (C5 (Sp.AM s))]) ([(0,.box [.dat i64 b',.dat a' c',.dat i64 (Db (Sp.AM s)),.dat a' (C5 (Sp.AM s))])])) .fail) .fail)) .fail:=by kernel_rfl
end T87
namespace T175
def T(a b:Int×List Int):Tr:=tree sS false 9 175 (Af ([zo i64 (zg (ze zd)),zo i64 (zg (ze zd))]) (a,b))
def L1(o2 o1:Int)(o1_1:List Int)(o0:Int)(o0_1:List Int):Tr:=re ((T (0,[]) (0,[])).L.L.L.L) (AD 21 [(2,.ptr 0 0),(3,.ptr 1 0),(4,.ptr 2 0)] [(2,.box [.dat i64 o2,.nil]),(1,.box [.dat i64 o1,.dat (zg (ze zd)) o1_1]),(0,.box [.dat i64 o0,.dat (zg (ze zd)) o0_1])] 3)
theorem Am(a b:Int×List Int):T a b=.ite (Dk (fst b,snd b)) (.ite (decide (EN (fst b,snd b)<0)) (.ite (Dk (fst a,snd a)) (.ite (Dk (fst b,snd b)) (L1 0 (FR (fst b,snd b)) (Fv (fst b,snd b)) (FR (fst a,snd a)) (Fv (fst a,snd a))) .fail) .fail) (L1 0 (fst b) (snd b) (fst a) (snd a))) .fail:=by kernel_rfl
theorem Ap(o2 o1:Int)(o1_1:List Int)(o0:Int)(o0_1:List Int):stepT sS (L1 o2 o1 o1_1 o0 o0_1)=let a':=zg (ze zd);let b':=dE (o0,o0_1) (o1,o1_1);let c':=bF (o0,o0_1) (o1,o1_1);.ite (A4 (o0,o0_1)&&A4 (o1,o1_1)&&decide (0<yu (o1,o1_1))) (.leaf (zq [.dat i64 b',.dat a' c']) ([(zk 3 1,.box [.dat i64 (Iv (o0,o0_1) (o1,o1_1)),.dat a' (Ik (o0,o0_1) (o1,o1_1))]),(3,.box [.dat i64 b',.dat a' c']),(2,.box [.dat i64 b',.dat a' c']),(1,.box [.dat i64 o1,.dat a' o1_1]),(0,.box [.dat i64 o0,.dat a' o0_1])])) .fail:=by kernel_rfl
end T175
namespace T104
def T(n d:Int×List Int):Tr:=tree tA false 9 104 (Af ([zo i64 (zg (ze zd)),zo i64 (zg (ze zd))]) (n,d))
def L1(o2 o2_1 o1:Int)(o1_1:List Int)(o0:Int)(o0_1:List Int):Tr:=re ((T (0,[]) (0,[])).L.L.L.L) (AD 34 [(2,.ptr 0 0),(3,.ptr 1 0),(4,.ptr 2 0)] [(2,.box [.dat i64 o2,.nil,.dat i64 o2_1,.nil]),(1,.box [.dat i64 o1,.dat (zg (ze zd)) o1_1]),(0,.box [.dat i64 o0,.dat (zg (ze zd)) o0_1])] 3)
theorem Am(n d:Int×List Int):T n d=.ite (Dk (fst d,snd d)) (.ite (decide (EN (fst d,snd d)<0)) (.ite (Dk (fst n,snd n)) (.ite (Dk (fst d,snd d)) (L1 0 0 (FR (fst d,snd d)) (Fv (fst d,snd d)) (FR (fst n,snd n)) (Fv (fst n,snd n))) .fail) .fail) (L1 0 0 (fst d) (snd d) (fst n) (snd n))) .fail:=by kernel_rfl
def L2(o3:Int)(o3_1:List Int)(o2 o2_1 o1:Int)(o1_1:List Int)(o0:Int)(o0_1:List Int):Tr:=re ((stepT tA (L1 0 0 0 [] 0 [])).L.R.L) (AD 34 [(2,.ptr 0 0),(3,.ptr 1 0),(4,.ptr 2 0),(5,.ptr 3 0)] [(3,.box [.dat i64 o3,.dat (zg (ze zd)) o3_1]),(2,.box [.dat i64 o2,.nil,.dat i64 o2_1,.nil]),(1,.box [.dat i64 o1,.dat (zg (ze zd)) o1_1]),(0,.box [.dat i64 o0,.dat (zg (ze zd)) o0_1])] 4)
theorem Ap(o2 o2_1 o1:Int)(o1_1:List Int)(o0:Int)(o0_1:List Int):stepT tA (L1 o2 o2_1 o1 o1_1 o0 o0_1)=let a':=zg (ze zd);let b':Tr:=.ite (A4 (o0,o0_1)&&A4 (o1,o1_1)) (L2 (Mw (o0,o0_1) (o1,o1_1)) (Ms (o0,o0_1) (o1,o1_1)) o2 o2_1 o1 o1_1 o0 o0_1) .fail;.ite (!decide (0<length o1_1)) (.ite (o1==1) (.leaf (zq [.dat i64 o0,.dat a' o0_1,.dat i64 o1,.dat a' o1_1]) ([(2,.box [.dat i64 o0,.dat a' o0_1,.dat i64 o1,.dat a' o1_1]),(1,.box [.dat i64 o1,.dat a' o1_1]),(0,.box [.dat i64 o0,.dat a' o0_1])])) b') b':=by kernel_rfl
theorem AY(o3:Int)(o3_1:List Int)(o2 o2_1 o1:Int)(o1_1:List Int)(o0:Int)(o0_1:List Int):stepT tA (L2 o3 o3_1 o2 o2_1 o1 o1_1 o0 o0_1)=let a':=zg (ze zd);let b':=Sp.iQS (o0,o0_1) (o3,o3_1);let c':=Sp.iQW (o0,o0_1) (o3,o3_1);let d':=Sp.iQS (o1,o1_1) (o3,o3_1);let e':=Sp.iQW (o1,o1_1) (o3,o3_1);.ite (M0 (o0,o0_1) (o3,o3_1)) (.ite (M0 (o1,o1_1) (o3,o3_1)) (.leaf (zq [.dat i64 b',.dat a' c',.dat i64 d',.dat a' e']) ([(3,.box [.dat i64 o3,.dat a' o3_1]),(2,.box [.dat i64 b',.dat a' c',.dat i64 d',.dat a' e']),(1,.box [.dat i64 o1,.dat a' o1_1]),(0,.box [.dat i64 o0,.dat a' o0_1])])) .fail) .fail:=by kernel_rfl
end T104
namespace T156
def T(a:(Int×List Int)×Int×List Int):Tr:=tree sS false 9 156 (Af ([zo (zo i64 (zg (ze zd))) (zo i64 (zg (ze zd)))]) a)
theorem Am(a:(Int×List Int)×Int×List Int):T a=let b':=zg (ze zd);let a':=[(0,.box [.dat i64 (fst (fst a)),.dat b' (snd (fst a)),.dat i64 (fst (snd a)),.dat b' (snd (snd a))])];.ite (!decide (0<length (snd (snd a)))) (.leaf (.dat zh (fst (snd a)==1)) a') (.leaf (.bl false) a'):=by kernel_rfl
end T156
namespace T157
def T(n:Int×List Int):Tr:=tree sS false 9 157 (Af ([zo i64 (zg (ze zd))]) n)
theorem Am(n:Int×List Int):T n=let a':=zg (ze zd);.ite true (.leaf (zq [.dat i64 (fst n),.dat a' (snd n),.dat i64 (1:Int),.dat a' (BA 1)]) ([(zk 0 1,.box [.dat i64 (fst n),.dat a' (snd n),.dat i64 (1:Int),.dat a' (BA 1)]),(0,.box [.dat i64 (fst n),.dat a' (snd n)])])) .fail:=by kernel_rfl
end T157
namespace T80
def T(a:(Int×List Int)×Int×List Int)(b:(Int×List Int)×Int×List Int):Tr:=tree wX false 9 80 (Af ([zo (zo i64 (zg (ze zd))) (zo i64 (zg (ze zd))),zo (zo i64 (zg (ze zd))) (zo i64 (zg (ze zd)))]) (a,b))
def L1(o2 o2_1 o1:Int)(o1_1:List Int)(o1_2:Int)(o1_3:List Int)(o0:Int)(o0_1:List Int)(o0_2:Int)(o0_3:List Int):Tr:=re ((T ((0,[]),(0,[])) ((0,[]),(0,[]))).L.L.L.R) (AD 34 [(2,.ptr 0 0),(3,.ptr 1 0),(4,.ptr 2 0)] [(2,.box [.dat i64 o2,.nil,.dat i64 o2_1,.nil]),(1,.box [.dat i64 o1,.dat (zg (ze zd)) o1_1,.dat i64 o1_2,.dat (zg (ze zd)) o1_3]),(0,.box [.dat i64 o0,.dat (zg (ze zd)) o0_1,.dat i64 o0_2,.dat (zg (ze zd)) o0_3])] 3)
theorem Am(a:(Int×List Int)×Int×List Int)(b:(Int×List Int)×Int×List Int):T a b=let a':=zg (ze zd);let b':=L1 0 0 (fst (fst b)) (snd (fst b)) (fst (snd b)) (snd (snd b)) (fst (fst a)) (snd (fst a)) (fst (snd a)) (snd (snd a));let c':=(fst (fst a),snd (fst a));let d':=(fst (fst b),snd (fst b));.ite true (.ite (CN (fst (snd a),snd (snd a))) (.ite true (.ite (CN (fst (snd b),snd (snd b))) (.ite (A4 c'&&A4 d') (.ite true (.leaf (zq [.dat i64 (Iq c' d'),.dat a' (H6 c' d'),.dat i64 (1:Int),.dat a' (BA 1)]) ([(zk (zk 0 1) 1,.box [.dat i64 (Iq c' d'),.dat a' (H6 c' d'),.dat i64 (1:Int),.dat a' (BA 1)]),(zk 0 1,.box [.dat i64 (fst (fst b)),.dat a' (snd (fst b)),.dat i64 (fst (snd b)),.dat a' (snd (snd b))]),(0,.box [.dat i64 (fst (fst a)),.dat a' (snd (fst a)),.dat i64 (fst (snd a)),.dat a' (snd (snd a))])])) .fail) .fail) b') .fail) b') .fail:=by kernel_rfl
theorem Ap(o2 o2_1 o1:Int)(o1_1:List Int)(o1_2:Int)(o1_3:List Int)(o0:Int)(o0_1:List Int)(o0_2:Int)(o0_3:List Int):stepT wX (L1 o2 o2_1 o1 o1_1 o1_2 o1_3 o0 o0_1 o0_2 o0_3)=let b':=(EG (o0_2,o0_3) (o1_2,o1_3),EW (o0_2,o0_3) (o1_2,o1_3));let c':=zg (ze zd);let d':=(EG (o0,o0_1) (o1_2,o1_3),EW (o0,o0_1) (o1_2,o1_3));let e':=(EG (o1,o1_1) (o0_2,o0_3),EW (o1,o1_1) (o0_2,o0_3));let a':=(Iq d' e',H6 d' e');.ite (A4 (o0,o0_1)&&A4 (o1_2,o1_3)) (.ite (A4 (o1,o1_1)&&A4 (o0_2,o0_3)) (.ite (A4 d'&&A4 e') (.ite (A4 (o0_2,o0_3)&&A4 (o1_2,o1_3)) (.ite (M0 a' b') (.leaf (zq [.dat i64 (cS a' b'),.dat c' (bJ a' b'),.dat i64 (bV a' b'),.dat c' (dL a' b')]) ([(2,.box [.dat i64 (cS a' b'),.dat c' (bJ a' b'),.dat i64 (bV a' b'),.dat c' (dL a' b')]),(1,.box [.dat i64 o1,.dat c' o1_1,.dat i64 o1_2,.dat c' o1_3]),(0,.box [.dat i64 o0,.dat c' o0_1,.dat i64 o0_2,.dat c' o0_3])])) .fail) .fail) .fail) .fail) .fail:=by kernel_rfl
end T80
namespace T82
def T(a:(Int×List Int)×Int×List Int)(b:(Int×List Int)×Int×List Int):Tr:=tree wX false 9 82 (Af ([zo (zo i64 (zg (ze zd))) (zo i64 (zg (ze zd))),zo (zo i64 (zg (ze zd))) (zo i64 (zg (ze zd)))]) (a,b))
theorem Am(a:(Int×List Int)×Int×List Int)(b:(Int×List Int)×Int×List Int):T a b=let c':=zg (ze zd);let d':=(fst (fst a),snd (fst a));let e':=(fst (fst b),snd (fst b));let f':=(fst (snd a),snd (snd a));let g':=(fst (snd b),snd (snd b));let a':=(EG d' e',EW d' e');let b':=(EG f' g',EW f' g');.ite (A4 d'&&A4 e') (.ite (A4 f'&&A4 g') (.ite (M0 a' b') (.leaf (zq [.dat i64 (cS a' b'),.dat c' (bJ a' b'),.dat i64 (bV a' b'),.dat c' (dL a' b')]) ([(zk (zk 0 1) 1,.box [.dat i64 (cS a' b'),.dat c' (bJ a' b'),.dat i64 (bV a' b'),.dat c' (dL a' b')]),(zk 0 1,.box [.dat i64 (fst (fst b)),.dat c' (snd (fst b)),.dat i64 (fst (snd b)),.dat c' (snd (snd b))]),(0,.box [.dat i64 (fst (fst a)),.dat c' (snd (fst a)),.dat i64 (fst (snd a)),.dat c' (snd (snd a))])])) .fail) .fail) .fail:=by kernel_rfl
end T82
namespace T88
def T(a:(Int×List Int)×Int×List Int)(b:(Int×List Int)×Int×List Int):Tr:=tree sS false 9 88 (Af ([zo (zo i64 (zg (ze zd))) (zo i64 (zg (ze zd))),zo (zo i64 (zg (ze zd))) (zo i64 (zg (ze zd)))]) (a,b))
theorem Am(a:(Int×List Int)×Int×List Int)(b:(Int×List Int)×Int×List Int):T a b=let c':=zg (ze zd);let d':=(fst (fst a),snd (fst a));let e':=(fst (snd b),snd (snd b));let f':=(fst (fst b),snd (fst b));let g':=(fst (snd a),snd (snd a));let a':=(EG d' e',EW d' e');let b':=(EG f' g',EW f' g');.ite (A4 d'&&A4 e') (.ite (A4 f'&&A4 g') (.ite (A4 a'&&A4 b') (.leaf (.dat i64 (NZ a' b')) ([(zk 0 1,.box [.dat i64 (fst (fst b)),.dat c' (snd (fst b)),.dat i64 (fst (snd b)),.dat c' (snd (snd b))]),(0,.box [.dat i64 (fst (fst a)),.dat c' (snd (fst a)),.dat i64 (fst (snd a)),.dat c' (snd (snd a))])])) .fail) .fail) .fail:=by kernel_rfl
end T88
namespace T89
def T(s:List UInt8):Tr:=tree Ng false 9 89 (Af ([zj]) s)
def L1(v0:List UInt8)(v3:Int):Tr:=re ((T [])) (AD 17 [(0,.dat zj v0),(3,.dat i64 v3)] [] 0)
theorem Am(s:List UInt8):T s=L1 s 0:=by kernel_rfl
theorem Ap(v0:List UInt8)(v3:Int):stepT Ng (L1 v0 v3)=let a':=(length v0:Int);.ite (decide (v3<a')) (.ite (decide (0<=v3)&&decide (v3<a')) (.ite ((↑(zi (getD v0 (toNat v3) (0:UInt8))):Int)==47) (.leaf (.dat i64 v3) []) (L1 v0 (zc .i64 (v3+1)))) .fail) (.leaf (.dat i64 a') []):=by kernel_rfl
end T89
namespace T90
def T(s:List UInt8):Tr:=tree Ng false 9 90 (Af ([zj]) s)
def L1(s v0:List UInt8)(v3:Int):Tr:=re ((T s).R.L.L.R) (AD 20 [(0,.dat zj v0),(3,.dat i64 v3)] [] 0)
def L2(s v0:List UInt8)(v3:Int):Tr:=re ((T s).R.R) (AD 20 [(0,.dat zj v0),(3,.dat i64 v3)] [] 0)
theorem Am(s:List UInt8):T s=let a':=(length s:Int);.ite (a'==0) (.leaf (.bl false) []) (.ite (decide (a'>1)) (.ite (decide (0<a')) (.ite ((↑(zi (getD s 0 (0:UInt8))):Int)==48) (.leaf (.bl false) []) (L1 s s 0)) .fail) (L2 s s 0)):=by kernel_rfl
theorem Ap(s v0:List UInt8)(v3:Int):stepT Ng (L1 s v0 v3)=let a':=decide (v3<(length v0:Int));let b':=(↑(zi (getD v0 (toNat v3) (0:UInt8))):Int);.ite (a') (.ite (decide (0<=v3)&&a') (.ite (decide (b'<48)) (.leaf (.bl false) []) (.ite (decide (0<=v3)&&a') (.ite (decide (b'>57)) (.leaf (.bl false) []) (L1 s v0 (zc .i64 (v3+1)))) .fail)) .fail) (.leaf (.bl true) []):=by kernel_rfl
theorem AY(s v0:List UInt8)(v3:Int):stepT Ng (L2 s v0 v3)=let a':=decide (v3<(length v0:Int));let b':=(↑(zi (getD v0 (toNat v3) (0:UInt8))):Int);.ite (a') (.ite (decide (0<=v3)&&a') (.ite (decide (b'<48)) (.leaf (.bl false) []) (.ite (decide (0<=v3)&&a') (.ite (decide (b'>57)) (.leaf (.bl false) []) (L2 s v0 (zc .i64 (v3+1)))) .fail)) .fail) (.leaf (.bl true) []):=by kernel_rfl
end T90
namespace T107
def T(n:Int):Tr:=tree rV false 9 107 (Af ([ze yg]) n)
def L1(v0:Int)(v4:Bool):Tr:=re ((T 0)) (AD 25 [(0,.dat i64 v0),(2,.ptr 0 0),(3,.nil),(4,.dat zh v4)] [(0,.box [.bl false,.nil])] 1)
theorem Am(n:Int):T n=L1 n (decide (n<0)):=by kernel_rfl
def L2(v0:Int)(v3n:Nat)(v4:Bool)(o1:List Int):Tr:=re ((stepT rV (L1 0 false)).L.L.L.L.L) (AD 25 [(0,.dat i64 v0),(2,.ptr 0 0),(3,.sl 1 1 0 v3n none),(4,.dat zh v4)] [(1,.arr false 3 i64 o1),(0,.box [.bl false,.nil])] 2)
theorem Ap(v0:Int)(v4:Bool):stepT rV (L1 v0 v4)=let a':=decide (1<=1)&&decide (0<1)&&decide ((2*1+1000)*8<=281474976710656);let b':=zc .i64 (yh v0 1000000000);.ite (v0 !=0) (.ite true (.ite (decide (z7 v0 1000000000<0)) (.ite a' (.ite true (L2 b' 1 v4 ([zc .i64 (0-z7 v0 1000000000)])) .fail) .fail) (.ite a' (.ite true (L2 b' 1 v4 ([z7 v0 1000000000])) .fail) .fail)) .fail) (.ite (decide (0<=20000)) (.leaf (zq [.dat zh (Sp.B7 v4 []),.dat (zf i64) (Sp.As [])]) ([(0,.box [.dat zh (Sp.B7 v4 []),.dat (zf i64) (Sp.As [])])])) .fail):=by kernel_rfl
theorem AY(v0:Int)(v3n:Nat)(v4:Bool)(o1:List Int):stepT rV (L2 v0 v3n v4 o1)=let a':=decide (1<=1)&&true&&decide (v3n=length o1)&&decide ((2*(v3n+1)+1000)*8<=281474976710656);let b':=zc .i64 (yh v0 1000000000);let c':=Sp.B7 v4 (take v3n o1);let d':=Sp.As (take v3n o1);.ite (v0 !=0) (.ite true (.ite (decide (z7 v0 1000000000<0)) (.ite a' (.ite true (L2 b' (zk v3n 1) v4 (o1++[zc .i64 (0-z7 v0 1000000000)])) .fail) .fail) (.ite a' (.ite true (L2 b' (zk v3n 1) v4 (o1++[z7 v0 1000000000])) .fail) .fail)) .fail) (.ite (decide (0+v3n<=length o1)&&true&&decide (length (take v3n o1)<=20000)) (.leaf (zq [.dat zh c',.dat (zf i64) d']) ([(1,.arr true 3 i64 o1),(0,.box [.dat zh c',.dat (zf i64) d'])])) .fail):=by kernel_rfl
end T107
namespace T91
def T(a:List UInt8):Tr:=tree XK3 false 9 91 (Af ([zj]) a)
theorem Am(a:List UInt8):T a=let b':=take (toNat (AV a)) a;let c':=zc .i64 (AV a+1);let a':=take (zt (length a) (toNat c')) (drop (toNat c') a);.ite (decide (length a<=1000000)) (.ite (AV a==(length a:Int)) (.ite (Ee a) (.ite true (.leaf (.tup [zq [.dat zh (EX a),.dat (zf i64) (EY a)],zq [.dat zh false,.dat (zf i64) (Sp.rW 1)]]) ([(zk 0 1,.box [.dat zh false,.dat (zf i64) (Sp.rW 1)]),(0,.box [.dat zh (EX a),.dat (zf i64) (EY a)])])) .fail) .fail) (.ite (decide (0<=AV a)&&decide (0<=toNat (AV a))&&decide (toNat (AV a)<=length a)) (.ite (decide (0<=zc .i64 (AV a+1))&&true&&decide (toNat c'<=length a)&&decide (length a<=length a)) (.ite (Ee b') (.ite (Ee a') (.leaf (.tup [zq [.dat zh (EX b'),.dat (zf i64) (EY b')],zq [.dat zh (EX a'),.dat (zf i64) (EY a')]]) ([(zk 0 1,.box [.dat zh (EX a'),.dat (zf i64) (EY a')]),(0,.box [.dat zh (EX b'),.dat (zf i64) (EY b')])])) .fail) .fail) .fail) .fail)) .fail:=by kernel_rfl
end T91
namespace T24
def T(a:List UInt8):Tr:=tree UH false 9 24 (Af ([zj]) a)
def L1(v0 v3:List UInt8):Tr:=re ((T []).L.L.L.L) (AD 96 [(0,.dat zj v0),(3,.dat zj v3)] [] 0)
theorem Am(a:List UInt8):T a=.ite (decide ((length a:Int)>0)) (.ite (decide (0<(length a:Int))) (.ite ((↑(zi (getD a 0 (0:UInt8))):Int)==45) (.ite (decide (1<=length a)&&decide (length a<=length a)) (L1 a (take (zt (length a) 1) (drop 1 a))) .fail) (L1 a a)) .fail) (L1 a a):=by kernel_rfl
def L2(v3:List UInt8)(v4:Int):Tr:=re ((stepT UH (L1 [] [])).L.L.L.R.L.L.L.R) (AD 96 [(3,.dat zj v3),(4,.dat i64 v4)] [] 0)
theorem Ap(v0 v3:List UInt8):stepT UH (L1 v0 v3)=let b':=AV v3;let c':Tr:=.leaf (.dat i64 (1:Int)) [];let a':=decide (0<=AV v3)&&decide (0<=toNat b')&&decide (toNat b'<=length v3);.ite (decide (length v3<=1000000)) (.ite a' (.ite (decide (length (take (toNat b') v3)<=1000000)) (.ite (!AT (take (toNat b') v3)) c' (.ite (decide (0<(length v0:Int))) (.ite ((↑(zi (getD v0 0 (0:UInt8))):Int)==45) (.ite a' (.ite (take (toNat b') v3==[(48:UInt8)]) c' (L2 v3 b')) .fail) (L2 v3 b')) .fail)) .fail) .fail) .fail:=by kernel_rfl
def L3(v3:List UInt8)(v4:Int):Tr:=re ((stepT UH (L2 [] 0)).L.L.L.R.L.R.L.R) (AD 96 [(3,.dat zj v3),(4,.dat i64 v4)] [] 0)
theorem AY(v3:List UInt8)(v4:Int):stepT UH (L2 v3 v4)=let d':Tr:=.leaf (.dat i64 (1:Int)) [];let e':=zc .i64 (v4+1);let a':=decide (0<=zc .i64 (v4+1))&&true&&decide (toNat e'<=length v3)&&decide (length v3<=length v3);let b':=toNat e';let c':=zt (length v3) b';.ite (decide (v4<(length v3:Int))) (.ite a' (.ite (decide (length (take c' (drop b' v3))<=1000000)) (.ite (!AT (take c' (drop b' v3))) d' (.ite a' (.ite (take c' (drop b' v3)==[(48:UInt8)]) d' (.ite a' (.ite (take c' (drop b' v3)==[(49:UInt8)]) d' (L3 v3 v4)) .fail)) .fail)) .fail) .fail) (L3 v3 v4):=by kernel_rfl
def L4(v3:List UInt8)(v4:Int):Tr:=re ((stepT UH (L3 [] 0)).R.R) (AD 96 [(3,.dat zj v3),(4,.dat i64 v4)] [] 0)
theorem CH(v3:List UInt8)(v4:Int):stepT UH (L3 v3 v4)=let a':Tr:=.leaf (.dat i64 (4:Int)) [];.ite (decide (v4>600)) a' (.ite (decide (zc .i64 (zc .i64 ((length v3:Int)-v4)-1)>600)) a' (L4 v3 v4)):=by kernel_rfl
def L5(o1:Bool)(o1_1:List Int)(o0:Bool)(o0_1:List Int):Tr:=re ((stepT UH (L4 [] 0)).L.L) (AD 96 [(5,.ptr 0 0),(6,.ptr 1 0)] [(1,.box [.dat zh o1,.dat (zf i64) o1_1]),(0,.box [.dat zh o0,.dat (zf i64) o0_1])] 2)
theorem CJ(v3:List UInt8)(v4:Int):stepT UH (L4 v3 v4)=.ite (decide (v4<(length v3:Int))) (.ite (Hn v3) (L5 (Bg v3) (Bc v3) (Bx v3) (Br v3)) .fail) (.leaf (.dat i64 (0:Int)) []):=by kernel_rfl
def L6(v7:List Int):Tr:=re ((stepT UH (L5 false [] false [])).L) (AD 96 [(7,.dat (zf i64) v7)] [] 0)
theorem E5(o1:Bool)(o1_1:List Int)(o0:Bool)(o0_1:List Int):stepT UH (L5 o1 o1_1 o0 o0_1)=.ite (A5 o0_1&&A5 o1_1&&decide (length o0_1<=9000)&&decide (length o1_1<=9000)) (L6 (Cm o0_1 o1_1)) .fail:=by kernel_rfl
theorem FQ(v7:List Int):stepT UH (L6 v7)=let a':Tr:=.leaf (.dat i64 (1:Int)) [];.ite ((length v7:Int) !=1) a' (.ite (decide (0<(length v7:Int))) (.ite (getD v7 0 0 !=1) a' (.leaf (.dat i64 (0:Int)) [])) .fail):=by kernel_rfl
end T24
namespace T83
def T(l:List Int):Tr:=tree Ng false 9 83 (Af ([zf i64]) l)
def L1(v5:List Int)(v6 v7:Int):Tr:=re ((T [])) (AD 15 [(5,.dat (zf i64) v5),(6,.dat i64 v6),(7,.dat i64 v7)] [] 0)
theorem Am(l:List Int):T l=L1 l ((length l:Int)) 0:=by kernel_rfl
theorem Ap(v5:List Int)(v6 v7:Int):stepT Ng (L1 v5 v6 v7)=.ite (decide (v7<v6)) (.ite (decide (0<=v7)&&decide (v7<(length v5:Int))) (.ite (getD v5 (toNat v7) 0 !=0) (.leaf (.dat i64 (getD v5 (toNat v7) 0)) []) (L1 v5 v6 (zc .i64 (v7+1)))) .fail) (.leaf (.dat i64 (0:Int)) []):=by kernel_rfl
end T83
namespace T85
def T(b:Bool)(e:Int):Tr:=tree Ng false 9 85 (Af ([zh,ze yg]) (b,e))
theorem Am(b:Bool)(e:Int):T b e=.ite b (.leaf (.dat i64 e) []) (.leaf (.dat i64 (0:Int)) []):=by kernel_rfl
end T85
namespace T77
def T(a:List UInt8):Tr:=tree LW false 9 77 (Af ([zj]) a)
def L1(v5 v6:List UInt8)(v7:Bool):Tr:=re ((T []).L.L.L.L.L) (AD 76 [(5,.dat zj v5),(6,.dat zj v6),(7,.dat zh v7),(8,.bl true)] [] 0)
def L2(v5 v6:List UInt8)(v7 v8:Bool):Tr:=re ((T []).L.L.L.L.R) (AD 76 [(5,.dat zj v5),(6,.dat zj v6),(7,.dat zh v7),(8,.dat zh v8)] [] 0)
def L3(v5 v6:List UInt8)(v7:Bool):Tr:=re ((T []).L.L.L.R) (AD 76 [(5,.dat zj v5),(6,.dat zj v6),(7,.dat zh v7),(8,.bl false)] [] 0)
theorem Am(a:List UInt8):T a=let a':=Aw (AZ a);let b':=Sp.AM (AZ a);let c':=Bj (AZ a);.ite (Sd a [(45:UInt8)]) (.ite (uU (AZ a) [(47:UInt8)]) (.ite (decide (length a'<=1000000)) (.ite (AT a') (.ite (!Sp.preB a) (L1 a' b' c') (L2 a' b' c' (!Aw (AZ a)==[(48:UInt8)]))) (L3 a' b' c')) .fail) .fail) .fail:=by kernel_rfl
def L4(v5 v6:List UInt8)(v7 v8:Bool):Tr:=re ((stepT LW (L1 [] [] false)).L.L.L.L) (AD 76 [(5,.dat zj v5),(6,.dat zj v6),(7,.dat zh v7),(8,.dat zh v8)] [] 0)
def L5(v5 v6:List UInt8)(v7:Bool):Tr:=re ((stepT LW (L1 [] [] false)).L.L.L.R) (AD 76 [(5,.dat zj v5),(6,.dat zj v6),(7,.dat zh v7),(8,.bl false)] [] 0)
def L6(v5 v6:List UInt8)(v7:Bool):Tr:=re ((stepT LW (L1 [] [] false)).R) (AD 76 [(5,.dat zj v5),(6,.dat zj v6),(7,.dat zh v7),(8,.bl true)] [] 0)
theorem Ap(v5 v6:List UInt8)(v7:Bool):stepT LW (L1 v5 v6 v7)=.ite v7 (.ite (decide (length v6<=1000000)) (.ite (AT v6) (.ite (!v6==[(48:UInt8)]) (L4 v5 v6 v7 (!v6==[(49:UInt8)])) (L5 v5 v6 v7)) (L5 v5 v6 v7)) .fail) (L6 v5 v6 v7):=by kernel_rfl
theorem AY(v5 v6:List UInt8)(v7 v8:Bool):stepT LW (L2 v5 v6 v7 v8)=.ite v7 (.ite v8 (.ite (decide (length v6<=1000000)) (.ite (AT v6) (.ite (!v6==[(48:UInt8)]) (L4 v5 v6 v7 (!v6==[(49:UInt8)])) (L5 v5 v6 v7)) (L5 v5 v6 v7)) .fail) (L5 v5 v6 v7)) (L4 v5 v6 v7 v8):=by kernel_rfl
theorem CH(v5 v6:List UInt8)(v7:Bool):stepT LW (L3 v5 v6 v7)=.ite v7 (L5 v5 v6 v7) (L5 v5 v6 v7):=by kernel_rfl
def L7(v5 v6:List UInt8)(v7:Bool)(v9:Int):Tr:=re ((stepT LW (L4 [] [] false false)).L.L.L.L) (AD 76 [(5,.dat zj v5),(6,.dat zj v6),(7,.dat zh v7),(9,.dat i64 v9)] [] 0)
theorem CJ(v5 v6:List UInt8)(v7 v8:Bool):stepT LW (L4 v5 v6 v7 v8)=let a':=decide (2<=2)&&true&&decide (2<=1000000);.ite true (.ite (decide ((length v5:Int)>600)) (.ite true (.ite a' (L7 v5 v6 v7 (yp [Dp (!v8) 1,Dp true 4])) .fail) .fail) (.ite true (.ite a' (L7 v5 v6 v7 (yp [Dp (!v8) 1,Dp (decide ((length v6:Int)>600)) 4])) .fail) .fail)) .fail:=by kernel_rfl
theorem E5(v5 v6:List UInt8)(v7:Bool):stepT LW (L5 v5 v6 v7)=.ite true (.ite (decide ((length v5:Int)>600)) (.ite true (.ite true (L7 v5 v6 v7 (yp [Dp true 1,Dp true 4])) .fail) .fail) (.ite true (.ite (decide (2<=2)&&true&&decide (2<=1000000)) (L7 v5 v6 v7 (yp [Dp true 1,Dp (decide ((length v6:Int)>600)) 4])) .fail) .fail)) .fail:=by kernel_rfl
theorem FQ(v5 v6:List UInt8)(v7:Bool):stepT LW (L6 v5 v6 v7)=.ite true (.ite (decide ((length v5:Int)>600)) (.ite true (.ite true (L7 v5 v6 v7 (yp [Dp false 1,Dp true 4])) .fail) .fail) (.ite true (.ite (decide (2<=2)&&true&&decide (2<=1000000)) (L7 v5 v6 v7 (yp [Dp false 1,Dp (decide ((length v6:Int)>600)) 4])) .fail) .fail)) .fail:=by kernel_rfl
def L8(v5 v6:List UInt8)(v7:Bool):Tr:=re ((stepT LW (L7 [] [] false 0)).R) (AD 76 [(5,.dat zj v5),(6,.dat zj v6),(7,.dat zh v7)] [] 0)
theorem ET(v5 v6:List UInt8)(v7:Bool)(v9:Int):stepT LW (L7 v5 v6 v7 v9)=.ite (v9 !=0) (.leaf (.dat i64 v9) []) (L8 v5 v6 v7):=by kernel_rfl
def L9(v10:Bool):Tr:=re ((stepT LW (L8 [] [] false)).L.L.L.L.L.L) (AD 76 [(10,.dat zh v10)] [] 0)
def L10:Tr:=re ((stepT LW (L8 [] [] false)).R) (AD 76 [(10,.bl false)] [] 0)
theorem HO(v5 v6:List UInt8)(v7:Bool):stepT LW (L8 v5 v6 v7)=let a':=(Mw (Db v5,C5 v5) (Db v6,C5 v6),Ms (Db v5,C5 v5) (Db v6,C5 v6));.ite v7 (.ite (Ee v5) (.ite (Ee v6) (.ite (A4 (Db v5,C5 v5)&&A4 (Db v6,C5 v6)) (.ite true (.ite (A4 a'&&A4 (1,BA 1)) (L9 (NZ a' (1,BA 1) !=0)) .fail) .fail) .fail) .fail) .fail) L10:=by kernel_rfl
theorem Yw(v10:Bool):stepT LW (L9 v10)=.ite true (.leaf (.dat i64 (Dp v10 1)) []) .fail:=by kernel_rfl
theorem tZ:stepT LW L10=.ite true (.leaf (.dat i64 (Dp false 1)) []) .fail:=by kernel_rfl
end T77
namespace T153
def T(s:List UInt8):Tr:=tree P6 false 9 153 (Af ([zj]) s)
def L1(v0:List UInt8)(v3:Bool)(o1 o0:Int):Tr:=re ((T []).L.L.L.L.L.L) (AD 41 [(0,.dat zj v0),(2,.ptr 0 0),(3,.dat zh v3),(4,.ptr 1 0)] [(1,.box [.dat i64 o1,.nil]),(0,.box [.dat i64 o0,.nil])] 2)
def L2(v0:List UInt8)(o1 o0:Int):Tr:=re ((T []).R.L.L.L.L) (AD 41 [(0,.dat zj v0),(2,.ptr 0 0),(3,.bl false),(4,.ptr 1 0)] [(1,.box [.dat i64 o1,.nil]),(0,.box [.dat i64 o0,.nil])] 2)
theorem Am(s:List UInt8):T s=let a':=take 1 s==[(45:UInt8)];let b':=decide ((length s:Int)>=1);let c':=decide (1<=length s)&&decide (length s<=length s);let d':=decide (1<=length s);let e':=take (zt (length s) 1) (drop 1 s);.ite b' (.ite d' (.ite b' (.ite d' (.ite a' (.ite c' (L1 e' a' 0 0) .fail) (L1 s a' 0 0)) .fail) (L1 s a' 0 0)) .fail) (.ite b' (.ite d' (.ite a' (.ite c' (L2 e' 0 0) .fail) (L2 s 0 0)) .fail) (L2 s 0 0)):=by kernel_rfl
def L3(v0:List UInt8)(v3:Bool)(o1 o0:Int)(v5:List UInt8)(v6:Int)(v47n:Nat)(v48 v49:Int)(o2:List Int)(o1':Int)(o0':Int):Tr:=re ((stepT P6 (L1 v0 v3 o1 o0)).L.L.L.L.L.L.L.R) (AD 77 [(5,.dat zj v5),(6,.dat i64 v6),(47,.sl 2 1 0 v47n none),(48,.dat i64 v48),(49,.dat i64 v49)] [(2,.arr false 5 (ze z6) o2),(1,.box [.dat i64 o1',.nil]),(0,.box [.dat i64 o0',.nil])] 3)
theorem Ap(v0:List UInt8)(v3:Bool)(o1 o0:Int):stepT P6 (L1 v0 v3 o1 o0)=let d':=(length v0:Int);let g':=zg (ze zd);let a':=take (toNat (Ew 18 d')) v0;let b':=take (zt (length a') 1) (drop 1 a');let c':=(↑(length a'):Int);let e':=decide (1<=length a')&&decide (length a'<=length a');let f':=(↑(zi (getD a' 0 (0:UInt8))):Int);let h':=decide (0<c');.ite (decide (d'>0)) (.ite (decide (0<=Ew 18 d')&&decide (0<=toNat (Ew 18 d'))&&decide (toNat (Ew 18 d')<=length v0)) (.ite h' (.ite (decide (c'<19)) (.ite h' (.ite (f'==45) (.ite e' (.ite (decide ((↑(length b'):Int)<1)) .fail (L3 v0 v3 o1 o0 a' 0 (length b') ((↑(length b'):Int)) 0 (yi (fun b=>(↑(zi b):Int)) b') o1 o0)) .fail) (.ite h' (.ite (f'==43) (.ite e' (.ite (decide ((↑(length b'):Int)<1)) .fail (L3 v0 v3 o1 o0 a' 0 (length b') ((↑(length b'):Int)) 0 (yi (fun b=>(↑(zi b):Int)) b') o1 o0)) .fail) (L3 v0 v3 o1 o0 a' 0 (length a') (c') 0 (yi (fun b=>(↑(zi b):Int)) a') o1 o0)) .fail)) .fail) (.ite false .fail .fail)) (.ite false .fail .fail)) .fail) (.ite v3 (.ite (Dk (o1,[])) (.leaf (zq [.dat i64 (FR (o1,[])),.dat g' (Fv (o1,[]))]) ([(1,.box [.dat i64 o1,.nil]),(0,.box [.dat i64 (FR (o1,[])),.dat g' (Fv (o1,[]))])])) .fail) (.leaf (zq [.dat i64 o1,.nil]) ([(1,.box [.dat i64 o1,.nil]),(0,.box [.dat i64 o1,.nil])]))):=by kernel_rfl
def L4(v0:List UInt8)(o1 o0:Int)(v5:List UInt8)(v6:Int)(v47n:Nat)(v48 v49:Int)(o2:List Int)(o1':Int)(o0':Int):Tr:=re ((stepT P6 (L2 v0 o1 o0)).L.L.L.L.L.L.L.R) (AD 77 [(5,.dat zj v5),(6,.dat i64 v6),(47,.sl 2 1 0 v47n none),(48,.dat i64 v48),(49,.dat i64 v49)] [(2,.arr false 5 (ze z6) o2),(1,.box [.dat i64 o1',.nil]),(0,.box [.dat i64 o0',.nil])] 3)
theorem AY(v0:List UInt8)(o1 o0:Int):stepT P6 (L2 v0 o1 o0)=let d':=(length v0:Int);let a':=take (toNat (Ew 18 d')) v0;let b':=take (zt (length a') 1) (drop 1 a');let c':=(↑(length a'):Int);let e':=decide (1<=length a')&&decide (length a'<=length a');let f':=(↑(zi (getD a' 0 (0:UInt8))):Int);let g':=decide (0<c');.ite (decide (d'>0)) (.ite (decide (0<=Ew 18 d')&&decide (0<=toNat (Ew 18 d'))&&decide (toNat (Ew 18 d')<=length v0)) (.ite g' (.ite (decide (c'<19)) (.ite g' (.ite (f'==45) (.ite e' (.ite (decide ((↑(length b'):Int)<1)) .fail (L4 v0 o1 o0 a' 0 (length b') ((↑(length b'):Int)) 0 (yi (fun b=>(↑(zi b):Int)) b') o1 o0)) .fail) (.ite g' (.ite (f'==43) (.ite e' (.ite (decide ((↑(length b'):Int)<1)) .fail (L4 v0 o1 o0 a' 0 (length b') ((↑(length b'):Int)) 0 (yi (fun b=>(↑(zi b):Int)) b') o1 o0)) .fail) (L4 v0 o1 o0 a' 0 (length a') (c') 0 (yi (fun b=>(↑(zi b):Int)) a') o1 o0)) .fail)) .fail) (.ite false .fail .fail)) (.ite false .fail .fail)) .fail) (.leaf (zq [.dat i64 o1,.nil]) ([(1,.box [.dat i64 o1,.nil]),(0,.box [.dat i64 o1,.nil])])):=by kernel_rfl
def L5(v0:List UInt8)(v3:Bool)(o1:Int)(o1_1:List Int)(o0:Int):Tr:=re ((stepT P6 (L3 [] false 0 0 [] 0 0 0 0 [] 0 0)).R.L.L.L.L.L.L.L.L) (AD 41 [(0,.dat zj v0),(2,.ptr 0 0),(3,.dat zh v3),(4,.ptr 1 0)] [(1,.box [.dat i64 o1,.dat (zg (ze zd)) o1_1]),(0,.box [.dat i64 o0,.nil])] 2)
theorem CH(v0:List UInt8)(v3:Bool)(o1 o0:Int)(v5:List UInt8)(v6:Int)(v47n:Nat)(v48 v49:Int)(o2:List Int)(o1':Int)(o0':Int):stepT P6 (L3 v0 v3 o1 o0 v5 v6 v47n v48 v49 o2 o1' o0')=let b':=Ew 18 (length v0:Int);let d':=(zc .i64 (0-v6),BA (zc .i64 (0-v6)));let i':=getD o2 (toNat v49) 0-48;let a':=(UD (10,BA 10) b',UM (10,BA 10) b');let e':=decide (0<=Ew 18 (length v0:Int))&&true&&decide (toNat b'<=length v0)&&decide (length v0<=length v0);let f':=take (zt (length v0) (toNat b')) (drop (toNat b') v0);let g':=A4 (10,BA 10)&&kF (yu (10,BA 10)) b';let c':=(EG (o1',[]) a',EW (o1',[]) a');let h':=A4 (o1',[])&&A4 a';.ite (decide (v49<v48)) (.ite (decide (0<=v49)&&decide (v49<(↑v47n:Int))) (.ite (decide (toNat v49<length o2)) (.ite (decide (zc .u8 i'>9)) .fail (L3 v0 v3 o1 o0 v5 (zc .i64 (zc .i64 (v6*10)+zc .i64 (zc .u8 i'))) v47n v48 (zc .i64 (v49+1)) o2 o1' o0')) .fail) .fail) (.ite (decide (0<(length v5:Int))) (.ite ((↑(zi (getD v5 0 (0:UInt8))):Int)==45) (.ite true (.ite g' (.ite h' (.ite true (.ite (A4 c'&&A4 d') (.ite e' (L5 f' v3 (Iq c' d') (H6 c' d') o0') .fail) .fail) .fail) .fail) .fail) .fail) (.ite true (.ite g' (.ite h' (.ite true (.ite (A4 c'&&A4 (v6,BA v6)) (.ite e' (L5 f' v3 (Iq c' (v6,BA v6)) (H6 c' (v6,BA v6)) o0') .fail) .fail) .fail) .fail) .fail) .fail)) .fail):=by kernel_rfl
def L7(v0:List UInt8)(v3:Bool)(o1:Int)(o1_1:List Int)(o0:Int)(v5:List UInt8)(v6:Int)(v47n:Nat)(v48 v49:Int)(o2:List Int)(o1':Int)(o1_1':List Int)(o0':Int):Tr:=re ((stepT P6 (L5 v0 v3 o1 o1_1 o0)).L.L.L.L.L.L.L.R) (AD 77 [(5,.dat zj v5),(6,.dat i64 v6),(47,.sl 2 1 0 v47n none),(48,.dat i64 v48),(49,.dat i64 v49)] [(2,.arr false 5 (ze z6) o2),(1,.box [.dat i64 o1',.dat (zg (ze zd)) o1_1']),(0,.box [.dat i64 o0',.nil])] 3)
theorem E5(v0:List UInt8)(v3:Bool)(o1:Int)(o1_1:List Int)(o0:Int):stepT P6 (L5 v0 v3 o1 o1_1 o0)=let c':=zg (ze zd);let e':=(length v0:Int);let a':=take (toNat (Ew 18 e')) v0;let b':=take (zt (length a') 1) (drop 1 a');let d':=(↑(length a'):Int);let f':=decide (1<=length a')&&decide (length a'<=length a');let g':=(↑(zi (getD a' 0 (0:UInt8))):Int);let h':=decide (0<d');.ite (decide (e'>0)) (.ite (decide (0<=Ew 18 e')&&decide (0<=toNat (Ew 18 e'))&&decide (toNat (Ew 18 e')<=length v0)) (.ite h' (.ite (decide (d'<19)) (.ite h' (.ite (g'==45) (.ite f' (.ite (decide ((↑(length b'):Int)<1)) .fail (L7 v0 v3 o1 o1_1 o0 a' 0 (length b') ((↑(length b'):Int)) 0 (yi (fun b=>(↑(zi b):Int)) b') o1 o1_1 o0)) .fail) (.ite h' (.ite (g'==43) (.ite f' (.ite (decide ((↑(length b'):Int)<1)) .fail (L7 v0 v3 o1 o1_1 o0 a' 0 (length b') ((↑(length b'):Int)) 0 (yi (fun b=>(↑(zi b):Int)) b') o1 o1_1 o0)) .fail) (L7 v0 v3 o1 o1_1 o0 a' 0 (length a') (d') 0 (yi (fun b=>(↑(zi b):Int)) a') o1 o1_1 o0)) .fail)) .fail) (.ite false .fail .fail)) (.ite false .fail .fail)) .fail) (.ite v3 (.ite (Dk (o1,o1_1)) (.leaf (zq [.dat i64 (FR (o1,o1_1)),.dat c' (Fv (o1,o1_1))]) ([(1,.box [.dat i64 o1,.dat c' o1_1]),(0,.box [.dat i64 (FR (o1,o1_1)),.dat c' (Fv (o1,o1_1))])])) .fail) (.leaf (zq [.dat i64 o1,.dat c' o1_1]) ([(1,.box [.dat i64 o1,.dat c' o1_1]),(0,.box [.dat i64 o1,.dat c' o1_1])]))):=by kernel_rfl
theorem ET(v0:List UInt8)(v3:Bool)(o1:Int)(o1_1:List Int)(o0:Int)(v5:List UInt8)(v6:Int)(v47n:Nat)(v48 v49:Int)(o2:List Int)(o1':Int)(o1_1':List Int)(o0':Int):stepT P6 (L7 v0 v3 o1 o1_1 o0 v5 v6 v47n v48 v49 o2 o1' o1_1' o0')=let c':=Ew 18 (length v0:Int);let d':=(zc .i64 (0-v6),BA (zc .i64 (0-v6)));let i':=getD o2 (toNat v49) 0-48;let a':=(UD (10,BA 10) c',UM (10,BA 10) c');let e':=decide (0<=Ew 18 (length v0:Int))&&true&&decide (toNat c'<=length v0)&&decide (length v0<=length v0);let f':=take (zt (length v0) (toNat c')) (drop (toNat c') v0);let g':=A4 (10,BA 10)&&kF (yu (10,BA 10)) c';let b':=(EG (o1',o1_1') a',EW (o1',o1_1') a');let h':=A4 (o1',o1_1')&&A4 a';.ite (decide (v49<v48)) (.ite (decide (0<=v49)&&decide (v49<(↑v47n:Int))) (.ite (decide (toNat v49<length o2)) (.ite (decide (zc .u8 i'>9)) .fail (L7 v0 v3 o1 o1_1 o0 v5 (zc .i64 (zc .i64 (v6*10)+zc .i64 (zc .u8 i'))) v47n v48 (zc .i64 (v49+1)) o2 o1' o1_1' o0')) .fail) .fail) (.ite (decide (0<(length v5:Int))) (.ite ((↑(zi (getD v5 0 (0:UInt8))):Int)==45) (.ite true (.ite g' (.ite h' (.ite true (.ite (A4 b'&&A4 d') (.ite e' (L5 f' v3 (Iq b' d') (H6 b' d') o0') .fail) .fail) .fail) .fail) .fail) .fail) (.ite true (.ite g' (.ite h' (.ite true (.ite (A4 b'&&A4 (v6,BA v6)) (.ite e' (L5 f' v3 (Iq b' (v6,BA v6)) (H6 b' (v6,BA v6)) o0') .fail) .fail) .fail) .fail) .fail) .fail)) .fail):=by kernel_rfl
end T153
namespace T211
def T(s t:List UInt8):Tr:=tree Zn false 9 211 (Af ([zj,zj]) (s,t))
def L1(s t v0:List UInt8)(v4:Int)(o0:List Bool):Tr:=re ((T s t).R.R.L.L.R) (AD 21 [(0,.dat zj v0),(2,.ptr 0 0),(4,.dat i64 v4)] [(0,.arr false 281 zh o0)] 1)
def L2(s t v0:List UInt8)(v4:Int)(o0:List Bool):Tr:=re ((T s t).R.R.R) (AD 21 [(0,.dat zj v0),(2,.ptr 0 0),(4,.dat i64 v4)] [(0,.arr false 281 zh o0)] 1)
theorem Am(s t:List UInt8):T s t=let a':=decide (0<(length t:Int));let b':Tr:=.leaf (.dat zj s) [];.ite (s==[]) b' (.ite (t==[]) b' (.ite ((length t:Int)==1) (.ite a' (.ite (decide ((↑(zi (getD t 0 (0:UInt8))):Int)<128)) (.ite a' (.ite a' (.ite false (.ite false b' .fail) .fail) .fail) .fail) (L1 s t t 0 Sp.rH)) .fail) (L2 s t t 0 Sp.rH))):=by kernel_rfl
def L4(s t v0:List UInt8)(v4:Int)(o0:List Bool)(v0':List UInt8)(o1:List Bool)(o0':List Bool):Tr:=re ((stepT Zn (L2 s t v0 v4 o0)).R.L.L.L.L) (AD 22 [(0,.dat zj v0'),(1,.ptr 1 0)] [(1,.arr false 281 zh o1),(0,.arr false 281 zh o0')] 2)
theorem AY(s t v0:List UInt8)(v4:Int)(o0:List Bool):stepT Zn (L2 s t v0 v4 o0)=let a':=(↑(zi (getD v0 (toNat v4) (0:UInt8))):Int);let b':=decide (length o0=256);let c':=decide (v4<(length v0:Int));.ite (c') (.ite (decide (0<=v4)&&c') (.ite (decide (a'>=128)) (.ite b' (.ite b' (.ite (decide (256=256)) (.ite true (.ite false (.ite false (.leaf (.dat zj s) ([(1,.arr false 281 zh (Sp.X1 o0)),(0,.arr false 281 zh (Sp.X1 o0))])) .fail) .fail) .fail) .fail) .fail) .fail) (.ite (decide ((0:yr (ze z6))<=a')&&decide (a'<(↑256:Int))) (.ite (decide (toNat a'<length o0)) (L2 s t v0 (zc .i64 (v4+1)) (set o0 (toNat a') true)) .fail) .fail)) .fail) (.ite b' (.ite b' (.ite (decide (256=256)) (.ite true (L4 s t v0 v4 o0 s ((Sp.X1 o0)) ((Sp.X1 o0))) .fail) .fail) .fail) .fail):=by kernel_rfl
def L7(s t v0:List UInt8)(v4:Int)(o0:List Bool)(v0':List UInt8)(o1:List Bool)(o0':List Bool)(v0'':List UInt8)(o1':List Bool)(o0'':List Bool):Tr:=re ((stepT Zn (L4 s t v0 v4 o0 v0' o1 o0')).L.L.L.L.L) (AD 16 [(0,.dat zj v0''),(1,.ptr 1 0)] [(1,.arr false 281 zh o1'),(0,.arr false 281 zh o0'')] 2)
def L8(s t v0:List UInt8)(v4:Int)(o0:List Bool)(v0':List UInt8)(o1:List Bool)(o0':List Bool)(v0'':List UInt8)(o1':List Bool)(o0'':List Bool):Tr:=re ((stepT Zn (L4 s t v0 v4 o0 v0' o1 o0')).R) (AD 16 [(0,.dat zj v0''),(1,.ptr 1 0)] [(1,.arr false 281 zh o1'),(0,.arr false 281 zh o0'')] 2)
theorem CJ(s t v0:List UInt8)(v4:Int)(o0:List Bool)(v0':List UInt8)(o1:List Bool)(o0':List Bool):stepT Zn (L4 s t v0 v4 o0 v0' o1 o0')=let b':=(↑(length v0'):Int);let c':=zc .i64 (b'-1);let d':=decide (0<=zc .i64 (b'-1));let a':=(↑(zi (getD v0' (toNat c') (0:UInt8))):Int);.ite (decide (b'>0)) (.ite (d'&&decide (zc .i64 (b'-1)<b')) (.ite (decide ((0:yr (ze z6))<=a')&&decide (a'<(↑256:Int))) (.ite (decide (toNat a'<length o1)) (.ite (!getD o1 (toNat a') false) (L7 s t v0 v4 o0 v0' o1 o0' v0' o1 o0') (.ite (d'&&decide (0<=toNat c')&&decide (toNat c'<=length v0')) (L4 s t v0 v4 o0 (take (toNat c') v0') o1 o0') .fail)) .fail) .fail) .fail) (L8 s t v0 v4 o0 v0' o1 o0' v0' o1 o0'):=by kernel_rfl
theorem ET(s t v0:List UInt8)(v4:Int)(o0:List Bool)(v0':List UInt8)(o1:List Bool)(o0':List Bool)(v0'':List UInt8)(o1':List Bool)(o0'':List Bool):stepT Zn (L7 s t v0 v4 o0 v0' o1 o0' v0'' o1' o0'')=let a':=(↑(zi (getD v0'' 0 (0:UInt8))):Int);let b':Tr:=.leaf (.dat zj v0'') ([(1,.arr false 281 zh o1'),(0,.arr false 281 zh o0'')]);.ite (decide ((↑(length v0''):Int)>0)) (.ite (decide (0<(↑(length v0''):Int))) (.ite (decide ((0:yr (ze z6))<=a')&&decide (a'<(↑256:Int))) (.ite (decide (toNat a'<length o1')) (.ite (!getD o1' (toNat a') false) b' (.ite (decide (1<=length v0'')&&decide (length v0''<=length v0'')) (L7 s t v0 v4 o0 v0' o1 o0' (take (zt (length v0'') 1) (drop 1 v0'')) o1' o0'') .fail)) .fail) .fail) .fail) b':=by kernel_rfl
theorem HO(s t v0:List UInt8)(v4:Int)(o0:List Bool)(v0':List UInt8)(o1:List Bool)(o0':List Bool)(v0'':List UInt8)(o1':List Bool)(o0'':List Bool):stepT Zn (L8 s t v0 v4 o0 v0' o1 o0' v0'' o1' o0'')=let a':=(↑(zi (getD v0'' 0 (0:UInt8))):Int);let b':Tr:=.leaf (.dat zj v0'') ([(1,.arr false 281 zh o1'),(0,.arr false 281 zh o0'')]);.ite (decide ((↑(length v0''):Int)>0)) (.ite (decide (0<(↑(length v0''):Int))) (.ite (decide ((0:yr (ze z6))<=a')&&decide (a'<(↑256:Int))) (.ite (decide (toNat a'<length o1')) (.ite (!getD o1' (toNat a') false) b' (.ite (decide (1<=length v0'')&&decide (length v0''<=length v0'')) (L8 s t v0 v4 o0 v0' o1 o0' (take (zt (length v0'') 1) (drop 1 v0'')) o1' o0'') .fail)) .fail) .fail) .fail) b':=by kernel_rfl
end T211
namespace T151
def T(s:List UInt8):Tr:=tree XH1 false 9 151 (Af ([zj]) s)
theorem Am(s:List UInt8):T s=.ite (!s==[]) (.ite (Sp.rG s [(48:UInt8),(49:UInt8),(50:UInt8),(51:UInt8),(52:UInt8),(53:UInt8),(54:UInt8),(55:UInt8),(56:UInt8),(57:UInt8)]) (.ite (Sp.OP s==[]) (.ite (decide (0<(length s:Int))) (.ite ((↑(zi (getD s 0 (0:UInt8))):Int) !=48) (.leaf (.bl true) []) (.leaf (.dat zh (s==[(48:UInt8)])) [])) .fail) (.leaf (.bl false) [])) .fail) (.leaf (.bl false) []):=by kernel_rfl
end T151
namespace T149
def T(s t:List UInt8):Tr:=tree Ng false 9 149 (Af ([zj,zj]) (s,t))
theorem Am(s t:List UInt8):T s t=let a':=(length t:Int);let b':Tr:=.leaf (.tup [.dat zj s,.bl false]) [];let c':=decide (toNat a'<=length s);.ite (decide ((length s:Int)>=a')) (.ite (decide (0<=a')&&decide (0<=toNat a')&&c') (.ite (!take (toNat a') s==t) b' (.ite (decide (0<=a')&&true&&c'&&decide (length s<=length s)) (.leaf (.tup [.dat zj (take (zt (length s) (toNat a')) (drop (toNat a') s)),.bl true]) []) .fail)) .fail) b':=by kernel_rfl
end T149
namespace T150
def T(s t:List UInt8):Tr:=tree XH2 false 9 150 (Af ([zj,zj]) (s,t))
theorem Am(s t:List UInt8):T s t=let b':=(↑(zi (getD t 0 (0:UInt8))):Int);let c':=(length t:Int);let d':Tr:=.leaf (.tup [.dat zj s,.dat zj [],.bl false]) [];let g':=decide (length s<=length s);let i':=Bz [ze z6];let e':=zc .i64 (Sp.Pn s b'+c');let f':=zc .i64 ((-1)+c');let h':=zc .i64 (0+c');let j':=Sp.Pn s b';let a':Tr:=.ite true (.ite (decide (0<=length s)) (.ite (decide (0<=zc .i64 (0+c'))&&true&&decide (toNat h'<=length s)&&g') (.leaf (.tup [.dat zj (take 0 s),.dat zj (take (zt (length s) (toNat h')) (drop (toNat h') s)),.bl true]) []) .fail) .fail) d';.ite (c'==0) a' (.ite (t==s) a' (.ite (c'==1) (.ite (decide (0<c')) (.ite (decide ((0:yr i')<=b')&&decide (b'<(256:yr i'))) (.ite (decide (Sp.Pn s b'>=0)) (.ite (decide (0<=Sp.Pn s b')&&decide (0<=toNat j')&&decide (toNat j'<=length s)) (.ite (decide (0<=zc .i64 (Sp.Pn s b'+c'))&&true&&decide (toNat e'<=length s)&&g') (.leaf (.tup [.dat zj (take (toNat j') s),.dat zj (take (zt (length s) (toNat e')) (drop (toNat e') s)),.bl true]) []) .fail) .fail) d') .fail) .fail) (.ite (decide (c'>=(length s:Int))) (.ite false (.ite (false&&decide (0<=length s)) (.ite (decide (0<=zc .i64 ((-1)+c'))&&true&&decide (toNat f'<=length s)&&g') (.leaf (.tup [.dat zj (take 0 s),.dat zj (take (zt (length s) (toNat f')) (drop (toNat f') s)),.bl true]) []) .fail) .fail) d') .fail))):=by kernel_rfl
end T150
namespace T227
def T(w:List Int):Tr:=tree kQ false 9 227 (Af ([zf i64]) w)
def L1(v0:List Int):Tr:=re ((T [])) (AD 21 [(0,.dat (zf i64) v0)] [] 0)
theorem Am(w:List Int):T w=L1 w:=by kernel_rfl
theorem Ap(v0:List Int):stepT kQ (L1 v0)=let b':=(length v0:Int);let d':Tr:=.leaf (.dat (zf i64) v0) [];let a':=zc .i64 (b'-1);let c':=decide (0<=zc .i64 (b'-1));.ite (decide (b'>0)) (.ite (c'&&decide (zc .i64 (b'-1)<b')) (.ite (getD v0 (toNat a') 0==0) (.ite (c'&&decide (0<=toNat a')&&decide (toNat a'<=length v0)) (L1 (take (toNat a') v0)) .fail) d') .fail) d':=by kernel_rfl
end T227
namespace T168
def T(n:Bool)(w:List Int):Tr:=tree aS false 9 168 (Af ([zh,zf i64]) (n,w))
theorem Am(n:Bool)(w:List Int):T n w=let a':=decide ((↑(length (As w)):Int)>0);.ite (decide (length w<=20000)) (.ite n (.leaf (zq [.dat zh a',.dat (zf i64) (As w)]) ([(0,.box [.dat zh a',.dat (zf i64) (As w)])])) (.leaf (zq [.bl false,.dat (zf i64) (As w)]) ([(0,.box [.bl false,.dat (zf i64) (As w)])]))) .fail:=by kernel_rfl
end T168
namespace T170
def T(a b:List Int):Tr:=tree kQ false 9 170 (Af ([zf i64,zf i64]) (a,b))
def L1(v0 v1:List Int)(v5:Int):Tr:=re ((T [] []).R) (AD 41 [(0,.dat (zf i64) v0),(1,.dat (zf i64) v1),(5,.dat i64 v5)] [] 0)
theorem Am(a b:List Int):T a b=let a':=(length a:Int);.ite (a' !=(length b:Int)) (.ite (decide (a'<(length b:Int))) (.leaf (.dat i64 (-1:Int)) []) (.leaf (.dat i64 (1:Int)) [])) (L1 a b (zc .i64 (a'-1))):=by kernel_rfl
theorem Ap(v0 v1:List Int)(v5:Int):stepT kQ (L1 v0 v1 v5)=let a':=decide (0<=v5)&&decide (v5<(length v0:Int));let b':=decide (0<=v5)&&decide (v5<(length v1:Int));.ite (decide (v5>=0)) (.ite a' (.ite b' (.ite (decide (getD v0 (toNat v5) 0<getD v1 (toNat v5) 0)) (.leaf (.dat i64 (-1:Int)) []) (.ite a' (.ite b' (.ite (decide (getD v0 (toNat v5) 0>getD v1 (toNat v5) 0)) (.leaf (.dat i64 (1:Int)) []) (L1 v0 v1 (zc .i64 (v5-1)))) .fail) .fail)) .fail) .fail) (.leaf (.dat i64 (0:Int)) []):=by kernel_rfl
end T170
namespace T172
def T(a b:List Int):Tr:=tree aS false 9 172 (Af ([zf i64,zf i64]) (a,b))
def L1(v0 v1:List Int)(v5n:Nat)(v6:Int)(o0:List Int):Tr:=re ((T [] []).L) (AD 72 [(0,.dat (zf i64) v0),(1,.dat (zf i64) v1),(5,.sl 0 1 0 v5n none),(6,.dat i64 v6)] [(0,.arr false 3 i64 o0)] 1)
theorem Am(a b:List Int):T a b=let a':=(length a:Int)+(length b:Int);let b':=zc .i64 a';.ite (decide (0<=zc .i64 a')&&decide (zc .i64 a'=zc .i64 a')&&decide (8*toNat b'<=281474976710656)&&decide (zc .i64 a'<9223372036854775808)) (L1 a b (toNat b') 0 (replicate (toNat b') 0)) .fail:=by kernel_rfl
def L2(v0 v1:List Int)(v5n:Nat)(v6 v7 v8:Int)(o0:List Int):Tr:=re ((stepT aS (L1 [] [] 0 0 [])).L) (AD 72 [(0,.dat (zf i64) v0),(1,.dat (zf i64) v1),(5,.sl 0 1 0 v5n none),(6,.dat i64 v6),(7,.dat i64 v7),(8,.dat i64 v8)] [(0,.arr false 3 i64 o0)] 1)
theorem Ap(v0 v1:List Int)(v5n:Nat)(v6:Int)(o0:List Int):stepT aS (L1 v0 v1 v5n v6 o0)=.ite (decide (v6<(length v0:Int))) (L2 v0 v1 v5n v6 0 0 o0) (.ite (decide (0+v5n<=length o0)&&true&&decide (length (take v5n o0)<=20000)) (.leaf (.dat (zf i64) (As (take v5n o0))) ([(0,.arr true 3 i64 o0)])) .fail):=by kernel_rfl
theorem AY(v0 v1:List Int)(v5n:Nat)(v6 v7 v8:Int)(o0:List Int):stepT aS (L2 v0 v1 v5n v6 v7 v8 o0)=let c':=decide (0<=zc .i64 (v6+v8))&&decide (zc .i64 (v6+v8)<(↑v5n:Int));let d':=zc .i64 (v6+v8);let i':=(length v1:Int);let a':=zc .i64 (zc .i64 (getD o0 (toNat d') 0+zc .i64 (getD v0 (toNat v6) 0*getD v1 (toNat v8) 0))+v7);let b':=v6+i';let g':=decide (toNat d'<length o0);let e':=decide (0<=zc .i64 b')&&decide (zc .i64 b'<(↑v5n:Int));let f':=zc .i64 b';let h':=decide (toNat f'<length o0);.ite (decide (v8<i')) (.ite c' (.ite g' (.ite (decide (0<=v6)&&decide (v6<(length v0:Int))) (.ite (decide (0<=v8)&&decide (v8<i')) (.ite true (.ite c' (.ite g' (.ite true (L2 v0 v1 v5n v6 (zc .i64 (yh a' 1000000000)) (zc .i64 (v8+1)) (set o0 (toNat d') (z7 a' 1000000000))) .fail) .fail) .fail) .fail) .fail) .fail) .fail) .fail) (.ite e' (.ite h' (.ite e' (.ite h' (L1 v0 v1 v5n (zc .i64 (v6+1)) (set o0 (toNat f') (zc .i64 (getD o0 (toNat f') 0+v7)))) .fail) .fail) .fail) .fail):=by kernel_rfl
end T172
namespace T226
def T(a:List Int)(d:Int):Tr:=tree aS false 9 226 (Af ([zf i64,ze yg]) (a,d))
def L1(v0:List Int)(v1:Int)(v6n:Nat)(v7 v8:Int)(o0:List Int):Tr:=re ((T [] 0).L) (AD 39 [(0,.dat (zf i64) v0),(1,.dat i64 v1),(6,.sl 0 1 0 v6n none),(7,.dat i64 v7),(8,.dat i64 v8)] [(0,.arr false 3 i64 o0)] 1)
theorem Am(a:List Int)(d:Int):T a d=let a':=(length a:Int);.ite (decide (0<=a')&&decide (a'=a')&&decide (8*toNat a'<=281474976710656)&&decide (a'<9223372036854775808)) (L1 a d (toNat a') 0 (zc .i64 (a'-1)) (replicate (toNat a') 0)) .fail:=by kernel_rfl
theorem Ap(v0:List Int)(v1:Int)(v6n:Nat)(v7 v8:Int)(o0:List Int):stepT aS (L1 v0 v1 v6n v7 v8 o0)=let a':=zc .i64 (zc .i64 (v7*1000000000)+getD v0 (toNat v8) 0);.ite (decide (v8>=0)) (.ite (decide (0<=v8)&&decide (v8<(length v0:Int))) (.ite (decide (v1≠0)) (.ite (decide (0<=v8)&&decide (v8<(↑v6n:Int))) (.ite (decide (toNat v8<length o0)) (.ite (decide (v1≠0)) (L1 v0 v1 v6n (z7 a' v1) (zc .i64 (v8-1)) (set o0 (toNat v8) (zc .i64 (yh a' v1)))) .fail) .fail) .fail) .fail) .fail) (.ite (decide (0+v6n<=length o0)&&true&&decide (length (take v6n o0)<=20000)) (.leaf (.tup [.dat (zf i64) (As (take v6n o0)),.dat i64 v7]) ([(0,.arr true 3 i64 o0)])) .fail):=by kernel_rfl
end T226
namespace T164
def T(a b:List Int):Tr:=tree LB false 9 164 (Af ([zf i64,zf i64]) (a,b))
def L1(v0:List Int)(v8n:Nat)(v9:List Int)(v10:Int)(v11n:Nat)(o1 o0:List Int):Tr:=re ((T [] []).L.R.R.L.L.L.L.L) (AD 206 [(0,.dat (zf i64) v0),(8,.sl 0 1 0 v8n none),(9,.dat (zf i64) v9),(10,.dat i64 v10),(11,.sl 1 1 0 v11n none)] [(1,.arr false 3 i64 o1),(0,.arr true 3 i64 o0)] 2)
theorem Am(a b:List Int):T a b=let c':=(length b:Int);let e':=getD b (toNat (zc .i64 (c'-1))) 0+1;let a':=yh 1000000000 (zc .i64 e');let b':=Ar a*Ar [zc .i64 a'];let d':=BN (Ar b*Ar [zc .i64 a']);.ite (A5 a&&A5 b) (.ite (decide (BO (Ar a) (Ar b)<0)) (.leaf (.tup [.nil,.dat (zf i64) a]) []) (.ite (c'==1) (.ite (decide (0<c')) (.ite (JA a&&decide (0<getD b 0 0)&&decide (getD b 0 0<1000000000)) (.ite (decide (1<=1)&&true&&decide (1<=20000)) (.leaf (.tup [.dat (zf i64) (BN (Ar a/getD b 0 0)),.dat (zf i64) (As [Ar a % getD b 0 0])]) ([(0,.arr true 3 i64 [Ar a % getD b 0 0])])) .fail) .fail) .fail) (.ite (decide (0<=zc .i64 (c'-1))&&decide (zc .i64 (c'-1)<c')) (.ite (decide (zc .i64 e'≠0)) (.ite (decide (1<=1)&&true&&(Sp.hR b&&Sp.hR [zc .i64 a'])) (.ite (decide (1<=1)&&true&&(Sp.hR a&&Sp.hR [zc .i64 a'])) (.ite (decide ((2*(0+length (BN b'))+1000)*8<=281474976710656)) (L1 a 1 d' ((↑(length d'):Int)) (zk 0 (length (BN b'))) ([]++BN b') ([zc .i64 a'])) .fail) .fail) .fail) .fail) .fail))) .fail:=by kernel_rfl
def L2(v8n:Nat)(v9:List Int)(v10:Int)(v11n v12n:Nat)(v13:Int)(o2 o1 o0:List Int):Tr:=re ((stepT LB (L1 [] 0 [] 0 0 [] [])).R.L) (AD 206 [(8,.sl 0 1 0 v8n none),(9,.dat (zf i64) v9),(10,.dat i64 v10),(11,.sl 1 1 0 v11n none),(12,.sl 2 1 0 v12n none),(13,.dat i64 v13)] [(2,.arr false 3 i64 o2),(1,.arr false 3 i64 o1),(0,.arr true 3 i64 o0)] 3)
theorem Ap(v0:List Int)(v8n:Nat)(v9:List Int)(v10:Int)(v11n:Nat)(o1 o0:List Int):stepT LB (L1 v0 v8n v9 v10 v11n o1 o0)=let a':=(↑v11n:Int)-v10;let b':=zc .i64 a';.ite (decide ((↑v11n:Int)<zc .i64 ((length v0:Int)+1))) (.ite (decide (v11n=length o1)&&decide ((2*(v11n+1)+1000)*8<=281474976710656)) (L1 v0 v8n v9 v10 (zk v11n 1) (o1++[0]) o0) .fail) (.ite (decide (0<=zc .i64 a')&&decide (zc .i64 a'=zc .i64 a')&&decide (8*toNat b'<=281474976710656)&&decide (zc .i64 a'<9223372036854775808)) (L2 v8n v9 v10 v11n (toNat b') (zc .i64 (zc .i64 a'-1)) (replicate (toNat b') 0) o1 o0) .fail):=by kernel_rfl
def L3(v8n:Nat)(v9:List Int)(v10:Int)(v11n v12n:Nat)(v13:Int)(o2 o1 o0:List Int)(v0n:Nat)(v1:List Int)(v2 v7:Int)(v9':Int)(v10':Int)(o2':List Int)(o1':List Int)(o0':List Int):Tr:=re ((stepT LB (L2 v8n v9 v10 v11n v12n v13 o2 o1 o0)).L.L.L.L.L.L.L.L.L) (AD 77 [(0,.sl 1 1 0 v0n none),(1,.dat (zf i64) v1),(2,.dat i64 v2),(7,.dat i64 v7),(9,.dat i64 v9'),(10,.dat i64 v10')] [(2,.arr false 3 i64 o2'),(1,.arr false 3 i64 o1'),(0,.arr true 3 i64 o0')] 3)
theorem AY(v8n:Nat)(v9:List Int)(v10:Int)(v11n v12n:Nat)(v13:Int)(o2 o1 o0:List Int):stepT LB (L2 v8n v9 v10 v11n v12n v13 o2 o1 o0)=let a':=(length v9:Int);let f':=take (toNat v10) o1;let c':=toNat (zc .i64 (a'-1));let d':=zc .i64 (v13+a')-1;let e':=decide (0<=zc .i64 (a'-1))&&decide (zc .i64 (a'-1)<a');let g':=zc .i64 (v13+a');let b':=zc .i64 (zc .i64 (getD o1 (toNat g') 0*1000000000)+getD o1 (toNat (zc .i64 d')) 0);let h':=decide (getD v9 c' 0≠0);.ite (decide (v13>=0)) (.ite (decide (0<=zc .i64 (v13+a'))&&decide (zc .i64 (v13+a')<(↑v11n:Int))) (.ite (decide (toNat g'<length o1)) (.ite (decide (0<=zc .i64 d')&&decide (zc .i64 d'<(↑v11n:Int))) (.ite (decide (toNat (zc .i64 d')<length o1)) (.ite e' (.ite h' (.ite e' (.ite h' (L3 v8n v9 v10 v11n v12n v13 o2 o1 o0 v11n v9 v13 (a') (zc .i64 (yh b' (getD v9 c' 0))) (z7 b' (getD v9 c' 0)) o2 o1 o0) .fail) .fail) .fail) .fail) .fail) .fail) .fail) .fail) (.ite (decide (0<=v10)&&true&&decide (0<=toNat v10)&&decide (toNat v10<=zw none v11n)&&decide (zw none v11n<=zw none v11n)&&true) (.ite (decide (0<(↑v8n:Int))) (.ite (decide (0<length o0)) (.ite (decide (0+toNat v10<=length o1)&&true&&decide (length f'<=20000)) (.ite (JA (As f')&&decide (0<getD o0 0 0)&&decide (getD o0 0 0<1000000000)) (.ite (decide (0+v12n<=length o2)&&true&&decide (length (take v12n o2)<=20000)) (.leaf (.tup [.dat (zf i64) (As (take v12n o2)),.dat (zf i64) (BN (Ar (As f')/getD o0 0 0))]) ([(2,.arr true 3 i64 o2),(1,.arr true 3 i64 o1),(0,.arr true 3 i64 o0)])) .fail) .fail) .fail) .fail) .fail) .fail):=by kernel_rfl
def L4(v8n:Nat)(v9:List Int)(v10:Int)(v11n v12n:Nat)(v13 v14 v15 v16:Int)(o2 o1 o0:List Int):Tr:=re ((stepT LB (L3 0 [] 0 0 0 0 [] [] [] 0 [] 0 0 0 0 [] [] [])).L.L.L) (AD 206 [(8,.sl 0 1 0 v8n none),(9,.dat (zf i64) v9),(10,.dat i64 v10),(11,.sl 1 1 0 v11n none),(12,.sl 2 1 0 v12n none),(13,.dat i64 v13),(14,.dat i64 v14),(15,.dat i64 v15),(16,.dat i64 v16)] [(2,.arr false 3 i64 o2),(1,.arr false 3 i64 o1),(0,.arr true 3 i64 o0)] 3)
theorem CH(v8n:Nat)(v9:List Int)(v10:Int)(v11n v12n:Nat)(v13:Int)(o2 o1 o0:List Int)(v0n:Nat)(v1:List Int)(v2 v7:Int)(v9':Int)(v10':Int)(o2':List Int)(o1':List Int)(o0':List Int):stepT LB (L3 v8n v9 v10 v11n v12n v13 o2 o1 o0 v0n v1 v2 v7 v9' v10' o2' o1' o0')=let b':=zc .i64 (v2+v7)-2;let c':=v10'+getD v1 (toNat (zc .i64 (v7-1))) 0;let d':=zc .i64 (v9'-1);let a':Tr:=.ite (decide (0<=zc .i64 (v7-1))&&decide (zc .i64 (v7-1)<(length v1:Int))) (.ite (decide (zc .i64 c'>=1000000000)) (L4 v8n v9 v10 v11n v12n v13 d' 0 0 o2' o1' o0') (L3 v8n v9 v10 v11n v12n v13 o2 o1 o0 v0n v1 v2 v7 d' (zc .i64 c') o2' o1' o0')) .fail;.ite (decide (v9'>=1000000000)) a' (.ite (decide (0<=zc .i64 (v7-2))&&decide (zc .i64 (v7-2)<(length v1:Int))) (.ite (decide (0<=zc .i64 b')&&decide (zc .i64 b'<(↑v0n:Int))) (.ite (decide (toNat (zc .i64 b')<length o1')) (.ite (decide (zc .i64 (v9'*getD v1 (toNat (zc .i64 (v7-2))) 0)>zc .i64 (zc .i64 (v10'*1000000000)+getD o1' (toNat (zc .i64 b')) 0))) a' (L4 v8n v9 v10 v11n v12n v13 v9' 0 0 o2' o1' o0')) .fail) .fail) .fail):=by kernel_rfl
def L5(v8n:Nat)(v9:List Int)(v10:Int)(v11n v12n:Nat)(v13 v14 v19 v20:Int)(o2 o1 o0:List Int):Tr:=re ((stepT LB (L4 0 [] 0 0 0 0 0 0 0 [] [] [])).R.L.L.L.L.L.L.L) (AD 206 [(8,.sl 0 1 0 v8n none),(9,.dat (zf i64) v9),(10,.dat i64 v10),(11,.sl 1 1 0 v11n none),(12,.sl 2 1 0 v12n none),(13,.dat i64 v13),(14,.dat i64 v14),(19,.dat i64 v19),(20,.dat i64 v20)] [(2,.arr false 3 i64 o2),(1,.arr false 3 i64 o1),(0,.arr true 3 i64 o0)] 3)
theorem CJ(v8n:Nat)(v9:List Int)(v10:Int)(v11n v12n:Nat)(v13 v14 v15 v16:Int)(o2 o1 o0:List Int):stepT LB (L4 v8n v9 v10 v11n v12n v13 v14 v15 v16 o2 o1 o0)=let c':=decide (0<=zc .i64 (v16+v13))&&decide (zc .i64 (v16+v13)<(↑v11n:Int));let d':=decide (0<=zc .i64 (v13+v10))&&decide (zc .i64 (v13+v10)<(↑v11n:Int));let e':=zc .i64 (zc .i64 (v14*getD v9 (toNat v16) 0)+v15);let f':=zc .i64 (v16+v13);let g':=zc .i64 (v13+v10);let j':=zc .i64 (v16+1);let a':=set o1 (toNat g') (zc .i64 (getD o1 (toNat g') 0-v15));let b':=getD o1 (toNat f') 0-z7 e' 1000000000;let h':=decide (toNat f'<length o1);let i':=decide (toNat g'<length o1);let k':=yh e' 1000000000;.ite (decide (v16<v10)) (.ite (decide (0<=v16)&&decide (v16<(length v9:Int))) (.ite c' (.ite h' (.ite true (.ite true (.ite (decide (zc .i64 b'<0)) (.ite c' (.ite h' (L4 v8n v9 v10 v11n v12n v13 v14 (zc .i64 (zc .i64 k'+1)) j' o2 (set o1 (toNat f') (zc .i64 (zc .i64 b'+1000000000))) o0) .fail) .fail) (.ite c' (.ite h' (L4 v8n v9 v10 v11n v12n v13 v14 (zc .i64 k') j' o2 (set o1 (toNat f') (zc .i64 b')) o0) .fail) .fail)) .fail) .fail) .fail) .fail) .fail) (.ite d' (.ite i' (.ite d' (.ite i' (.ite d' (.ite (decide (toNat g'<length a')) (.ite (decide (getD a' (toNat g') 0<0)) (L5 v8n v9 v10 v11n v12n v13 (zc .i64 (v14-1)) 0 0 o2 a' o0) (.ite (decide (0<=v13)&&decide (v13<(↑v12n:Int))) (.ite (decide (toNat v13<length o2)) (L2 v8n v9 v10 v11n v12n (zc .i64 (v13-1)) (set o2 (toNat v13) v14) a' o0) .fail) .fail)) .fail) .fail) .fail) .fail) .fail) .fail):=by kernel_rfl
theorem E5(v8n:Nat)(v9:List Int)(v10:Int)(v11n v12n:Nat)(v13 v14 v19 v20:Int)(o2 o1 o0:List Int):stepT LB (L5 v8n v9 v10 v11n v12n v13 v14 v19 v20 o2 o1 o0)=let b':=decide (0<=zc .i64 (v20+v13))&&decide (zc .i64 (v20+v13)<(↑v11n:Int));let c':=decide (0<=zc .i64 (v13+v10))&&decide (zc .i64 (v13+v10)<(↑v11n:Int));let d':=zc .i64 (v20+v13);let e':=zc .i64 (v13+v10);let a':=zc .i64 (zc .i64 (getD o1 (toNat d') 0+getD v9 (toNat v20) 0)+v19);let f':=decide (toNat d'<length o1);let g':=decide (toNat e'<length o1);.ite (decide (v20<v10)) (.ite b' (.ite f' (.ite (decide (0<=v20)&&decide (v20<(length v9:Int))) (.ite true (.ite b' (.ite f' (.ite true (L5 v8n v9 v10 v11n v12n v13 v14 (zc .i64 (yh a' 1000000000)) (zc .i64 (v20+1)) o2 (set o1 (toNat d') (z7 a' 1000000000)) o0) .fail) .fail) .fail) .fail) .fail) .fail) .fail) (.ite c' (.ite g' (.ite c' (.ite g' (.ite (decide (0<=v13)&&decide (v13<(↑v12n:Int))) (.ite (decide (toNat v13<length o2)) (L2 v8n v9 v10 v11n v12n (zc .i64 (v13-1)) (set o2 (toNat v13) v14) (set o1 (toNat e') (zc .i64 (getD o1 (toNat e') 0+v19))) o0) .fail) .fail) .fail) .fail) .fail) .fail):=by kernel_rfl
end T164
namespace T92
def T(a b:List Int):Tr:=tree yT false 9 92 (Af ([zf i64,zf i64]) (a,b))
def L1(v0 v1:List Int):Tr:=re ((T [] [])) (AD 19 [(0,.dat (zf i64) v0),(1,.dat (zf i64) v1)] [] 0)
theorem Am(a b:List Int):T a b=L1 a b:=by kernel_rfl
theorem Ap(v0 v1:List Int):stepT yT (L1 v0 v1)=.ite (decide ((length v1:Int)>0)) (.ite (A5 v0&&A5 v1&&decide (length v0<=9000)&&decide (length v1<=9000)&&decide (0<Ar v1)) (L1 v1 (BN (Ar v0 % Ar v1))) .fail) (.leaf (.dat (zf i64) v0) []):=by kernel_rfl
end T92
namespace T165
def T(s:List UInt8):Tr:=tree kQ false 9 165 (Af ([zj]) s)
def L1(v0:List UInt8)(v3 v4:Int):Tr:=re ((T [])) (AD 20 [(0,.dat zj v0),(3,.dat i64 v3),(4,.dat i64 v4)] [] 0)
theorem Am(s:List UInt8):T s=L1 s 0 0:=by kernel_rfl
theorem Ap(v0:List UInt8)(v3 v4:Int):stepT kQ (L1 v0 v3 v4)=let a':=decide (v4<(length v0:Int));.ite (a') (.ite (decide (0<=v4)&&a') (L1 v0 (zc .i64 (zc .i64 (zc .i64 (10*v3)+zc .i64 (↑(zi (getD v0 (toNat v4) (0:UInt8))):Int))-48)) (zc .i64 (v4+1))) .fail) (.leaf (.dat i64 v3) []):=by kernel_rfl
end T165
namespace T163
def T(s:List UInt8):Tr:=tree aR false 9 163 (Af ([zj]) s)
def L1(v0:List UInt8)(v3:Bool):Tr:=re ((T []).L.L.L.L) (AD 40 [(0,.dat zj v0),(2,.ptr 0 0),(3,.dat zh v3),(4,.nil)] [(0,.box [.bl false,.nil])] 1)
def L2(v0:List UInt8):Tr:=re ((T []).R) (AD 40 [(0,.dat zj v0),(2,.ptr 0 0),(3,.bl false),(4,.nil)] [(0,.box [.bl false,.nil])] 1)
theorem Am(s:List UInt8):T s=let a':=(↑(zi (getD s 0 (0:UInt8))):Int)==45;.ite (decide ((length s:Int)>0)) (.ite (decide (0<(length s:Int))) (.ite a' (.ite (decide (1<=length s)&&decide (length s<=length s)) (L1 (take (zt (length s) 1) (drop 1 s)) a') .fail) (L1 s a')) .fail) (L2 s):=by kernel_rfl
def L3(v0:List UInt8)(v3:Bool)(v4n:Nat)(o1:List Int):Tr:=re ((stepT aR (L1 [] false)).L.L.L.L.L) (AD 40 [(0,.dat zj v0),(2,.ptr 0 0),(3,.dat zh v3),(4,.sl 1 1 0 v4n none)] [(1,.arr false 3 i64 o1),(0,.box [.bl false,.nil])] 2)
theorem Ap(v0:List UInt8)(v3:Bool):stepT aR (L1 v0 v3)=let b':=decide (1<=1)&&decide (0<1)&&decide ((2*1+1000)*8<=281474976710656);let e':=(length v0:Int);let g':=B7 v3 [Bu v0];let h':=As [Bu v0];let a':=zc .i64 (e'-9);let d':=decide (0<=zc .i64 (e'-9));let c':=take (zt (length v0) (toNat a')) (drop (toNat a') v0);let f':=decide (toNat a'<=length v0);.ite (decide (e'>9)) (.ite (d'&&true&&f'&&decide (length v0<=length v0)) (.ite (DU c') (.ite b' (.ite (d'&&decide (0<=toNat a')&&f') (L3 (take (toNat a') v0) v3 1 ([Bu c'])) .fail) .fail) .fail) .fail) (.ite (DU v0) (.ite b' (.ite (decide (0+1<=1)&&true&&decide (1<=20000)) (.leaf (zq [.dat zh g',.dat (zf i64) h']) ([(zk 1 1,.arr true 3 i64 [Bu v0]),(1,.arr false 3 i64 [Bu v0]),(0,.box [.dat zh g',.dat (zf i64) h'])])) .fail) .fail) .fail):=by kernel_rfl
def L4(v0:List UInt8)(v4n:Nat)(o1:List Int):Tr:=re ((stepT aR (L2 [])).L.L.L.L.L) (AD 40 [(0,.dat zj v0),(2,.ptr 0 0),(3,.bl false),(4,.sl 1 1 0 v4n none)] [(1,.arr false 3 i64 o1),(0,.box [.bl false,.nil])] 2)
theorem AY(v0:List UInt8):stepT aR (L2 v0)=let b':=decide (1<=1)&&decide (0<1)&&decide ((2*1+1000)*8<=281474976710656);let e':=B7 false [Bu v0];let f':=(length v0:Int);let h':=As [Bu v0];let a':=zc .i64 (f'-9);let d':=decide (0<=zc .i64 (f'-9));let c':=take (zt (length v0) (toNat a')) (drop (toNat a') v0);let g':=decide (toNat a'<=length v0);.ite (decide (f'>9)) (.ite (d'&&true&&g'&&decide (length v0<=length v0)) (.ite (DU c') (.ite b' (.ite (d'&&decide (0<=toNat a')&&g') (L4 (take (toNat a') v0) 1 ([Bu c'])) .fail) .fail) .fail) .fail) (.ite (DU v0) (.ite b' (.ite (decide (0+1<=1)&&true&&decide (1<=20000)) (.leaf (zq [.dat zh e',.dat (zf i64) h']) ([(zk 1 1,.arr true 3 i64 [Bu v0]),(1,.arr false 3 i64 [Bu v0]),(0,.box [.dat zh e',.dat (zf i64) h'])])) .fail) .fail) .fail):=by kernel_rfl
theorem CH(v0:List UInt8)(v3:Bool)(v4n:Nat)(o1:List Int):stepT aR (L3 v0 v3 v4n o1)=let c':=decide (1<=1)&&true&&decide (v4n=length o1)&&decide ((2*(v4n+1)+1000)*8<=281474976710656);let f':=o1++[Bu v0];let g':=(length v0:Int);let a':=zc .i64 (g'-9);let b':=take (zk v4n 1) f';let e':=decide (0<=zc .i64 (g'-9));let d':=take (zt (length v0) (toNat a')) (drop (toNat a') v0);let h':=decide (toNat a'<=length v0);.ite (decide (g'>9)) (.ite (e'&&true&&h'&&decide (length v0<=length v0)) (.ite (DU d') (.ite c' (.ite (e'&&decide (0<=toNat a')&&h') (L3 (take (toNat a') v0) v3 (zk v4n 1) (o1++[Bu d'])) .fail) .fail) .fail) .fail) (.ite (DU v0) (.ite c' (.ite (decide (0+zk v4n 1<=length f')&&true&&decide (length b'<=20000)) (.leaf (zq [.dat zh (B7 v3 b'),.dat (zf i64) (As b')]) ([(zk 2 1,.arr true 3 i64 f'),(2,.arr false 3 i64 [Bu v0]),(0,.box [.dat zh (B7 v3 b'),.dat (zf i64) (As b')])])) .fail) .fail) .fail):=by kernel_rfl
theorem CJ(v0:List UInt8)(v4n:Nat)(o1:List Int):stepT aR (L4 v0 v4n o1)=let c':=decide (1<=1)&&true&&decide (v4n=length o1)&&decide ((2*(v4n+1)+1000)*8<=281474976710656);let f':=o1++[Bu v0];let g':=(length v0:Int);let a':=zc .i64 (g'-9);let b':=take (zk v4n 1) f';let e':=decide (0<=zc .i64 (g'-9));let d':=take (zt (length v0) (toNat a')) (drop (toNat a') v0);let h':=decide (toNat a'<=length v0);.ite (decide (g'>9)) (.ite (e'&&true&&h'&&decide (length v0<=length v0)) (.ite (DU d') (.ite c' (.ite (e'&&decide (0<=toNat a')&&h') (L4 (take (toNat a') v0) (zk v4n 1) (o1++[Bu d'])) .fail) .fail) .fail) .fail) (.ite (DU v0) (.ite c' (.ite (decide (0+zk v4n 1<=length f')&&true&&decide (length b'<=20000)) (.leaf (zq [.dat zh (B7 false b'),.dat (zf i64) (As b')]) ([(zk 2 1,.arr true 3 i64 f'),(2,.arr false 3 i64 [Bu v0]),(0,.box [.dat zh (B7 false b'),.dat (zf i64) (As b')])])) .fail) .fail) .fail):=by kernel_rfl
end T163
namespace T105n
def T(n:Int):Tr:=tree XF0 false 9 105 (Af ([ze yg]) n)
theorem Am(n:Int):T n=.leaf (zq [.dat i64 n,.nil]) ([(0,.box [.dat i64 n,.nil])]):=by kernel_rfl
end T105n
namespace T176
def T(a b:Int×List Int):Tr:=tree xC false 9 176 (Af ([zo i64 (zg (ze zd)),zo i64 (zg (ze zd))]) (a,b))
def L1(v8:Bool)(v12 v13:List Int)(o2 o1 o0:Int)(o0_1:List Int):Tr:=re ((T (0,[]) (0,[])).L.L.R.L.L.L) (AD 84 [(3,.ptr 0 0),(4,.ptr 1 0),(5,.ptr 2 0),(8,.dat zh v8),(12,.dat (zf (ze zd)) v12),(13,.dat (zf (ze zd)) v13)] [(2,.box [.dat i64 o2,.nil]),(1,.box [.dat i64 o1,.nil]),(0,.box [.dat i64 o0,.dat (zg (ze zd)) o0_1])] 3)
theorem Am(a b:Int×List Int):T a b=let b':=zg (ze zd);let c':=Bq (Ae (yu (fst a,snd a)));let d':=Bq (Ae (yu (fst b,snd b)));let e':=yh (fst a) (fst b);let f':=zc .i64 (z7 (fst a) (fst b)+fst b);let h':=z7 (fst a) (fst b);let i':=zk (zk 0 1) 1;let a':Tr:=.ite (Dk (fst a,snd a)) (.ite (Dk (fst b,snd b)) (.ite (SB c' d') (L1 (decide (yu (fst a,snd a)<0)) (Bq (Ak c'/Ak d')) (Bq (Ak c' % Ak d')) 0 0 (fst b) (snd b)) .fail) .fail) .fail;let g':=zc .i64 (zc .i64 e'-1);.ite (!decide (0<length (snd a))) (.ite (!decide (0<length (snd b))) (.ite (fst a !=(-9223372036854775808)) (.ite (decide (fst b≠0)) (.ite (decide (fst b≠0)) (.ite (decide (z7 (fst a) (fst b)<0)) (.leaf (.tup [zq [.dat i64 g',.nil],zq [.dat i64 f',.nil]]) ([(zk i' 1,.box [.dat i64 f',.nil]),(zk (zk 0 1) 1,.box [.dat i64 g',.nil]),(zk 0 1,.box [.dat i64 (fst b),.dat b' (snd b)]),(0,.box [.dat i64 (fst a),.dat b' (snd a)])])) (.leaf (.tup [zq [.dat i64 (zc .i64 e'),.nil],zq [.dat i64 h',.nil]]) ([(zk i' 1,.box [.dat i64 h',.nil]),(zk (zk 0 1) 1,.box [.dat i64 (zc .i64 e'),.nil]),(zk 0 1,.box [.dat i64 (fst b),.dat b' (snd b)]),(0,.box [.dat i64 (fst a),.dat b' (snd a)])]))) .fail) .fail) a') a') a':=by kernel_rfl
def L2(o4:Int)(o4_1:List Int)(o3:Int)(o3_1:List Int)(o2 o1 o0:Int)(o0_1:List Int):Tr:=re ((stepT xC (L1 false [] [] 0 0 0 [])).L.L) (AD 84 [(3,.ptr 0 0),(4,.ptr 1 0),(5,.ptr 2 0),(14,.ptr 3 0),(15,.ptr 4 0)] [(4,.box [.dat i64 o4,.dat (zg (ze zd)) o4_1]),(3,.box [.dat i64 o3,.dat (zg (ze zd)) o3_1]),(2,.box [.dat i64 o2,.nil]),(1,.box [.dat i64 o1,.nil]),(0,.box [.dat i64 o0,.dat (zg (ze zd)) o0_1])] 5)
theorem Ap(v8:Bool)(v12 v13:List Int)(o2 o1 o0:Int)(o0_1:List Int):stepT xC (L1 v8 v12 v13 o2 o1 o0 o0_1)=let a':=Sp.sg v8 (Ak v13);let b':=Sp.sg v8 (Ak v12);.ite (B5 v12) (.ite (B5 v13) (L2 (Cz a') (Cx a') (Cz b') (Cx b') o2 o1 o0 o0_1) .fail) .fail:=by kernel_rfl
theorem AY(o4:Int)(o4_1:List Int)(o3:Int)(o3_1:List Int)(o2 o1 o0:Int)(o0_1:List Int):stepT xC (L2 o4 o4_1 o3 o3_1 o2 o1 o0 o0_1)=let a':=zg (ze zd);let b':=fD (o3,o3_1) (1,BA 1);let c':=dI (o3,o3_1) (1,BA 1);let d':=Iq (o4,o4_1) (o0,o0_1);let e':=H6 (o4,o4_1) (o0,o0_1);.ite (Dk (o4,o4_1)) (.ite (decide (EN (o4,o4_1)<0)) (.ite true (.ite (A4 (o3,o3_1)&&A4 (1,BA 1)) (.ite (A4 (o4,o4_1)&&A4 (o0,o0_1)) (.leaf (.tup [zq [.dat i64 b',.dat a' c'],zq [.dat i64 d',.dat a' e']]) ([(4,.box [.dat i64 d',.dat a' e']),(3,.box [.dat i64 b',.dat a' c']),(2,.box [.dat i64 d',.dat a' e']),(1,.box [.dat i64 b',.dat a' c']),(0,.box [.dat i64 o0,.dat a' o0_1])])) .fail) .fail) .fail) (.leaf (.tup [zq [.dat i64 o3,.dat a' o3_1],zq [.dat i64 o4,.dat a' o4_1]]) ([(4,.box [.dat i64 o4,.dat a' o4_1]),(3,.box [.dat i64 o3,.dat a' o3_1]),(2,.box [.dat i64 o4,.dat a' o4_1]),(1,.box [.dat i64 o3,.dat a' o3_1]),(0,.box [.dat i64 o0,.dat a' o0_1])]))) .fail:=by kernel_rfl
end T176
namespace T152
def T(a b:Int×List Int):Tr:=tree yM false 9 152 (Af ([zo i64 (zg (ze zd)),zo i64 (zg (ze zd))]) (a,b))
def L1(o2 o1:Int)(o1_1:List Int)(o0:Int)(o0_1:List Int):Tr:=re ((T (0,[]) (0,[])).L.L) (AD 23 [(2,.ptr 0 0),(3,.ptr 1 0),(4,.ptr 2 0)] [(2,.box [.dat i64 o2,.nil]),(1,.box [.dat i64 o1,.dat (zg (ze zd)) o1_1]),(0,.box [.dat i64 o0,.dat (zg (ze zd)) o0_1])] 3)
theorem Am(a b:Int×List Int):T a b=.ite (Dk (fst a,snd a)) (.ite (Dk (fst b,snd b)) (L1 0 (NM (fst b,snd b)) (Pd (fst b,snd b)) (NM (fst a,snd a)) (Pd (fst a,snd a))) .fail) .fail:=by kernel_rfl
theorem Ap(o2 o1:Int)(o1_1:List Int)(o0:Int)(o0_1:List Int):stepT yM (L1 o2 o1 o1_1 o0 o0_1)=let a':=zg (ze zd);.ite (Dk (o1,o1_1)) (.ite (EN (o1,o1_1) !=0) (.ite (A4 (o0,o0_1)&&A4 (o1,o1_1)&&decide (0<yu (o1,o1_1))) (L1 o2 (Iv (o0,o0_1) (o1,o1_1)) (Ik (o0,o0_1) (o1,o1_1)) o1 o1_1) .fail) (.leaf (zq [.dat i64 o0,.dat a' o0_1]) ([(2,.box [.dat i64 o0,.dat a' o0_1]),(1,.box [.dat i64 o1,.dat a' o1_1]),(0,.box [.dat i64 o0,.dat a' o0_1])]))) .fail:=by kernel_rfl
end T152
namespace T216
def T(a:Int×List Int)(k:Int):Tr:=tree xD false 9 216 (Af ([zo i64 (zg (ze zd)),ze yg]) (a,k))
def L1(v1 o2:Int)(o2_1:List Int)(o1 o0:Int)(o0_1:List Int):Tr:=re ((T (0,[]) 0).L) (AD 23 [(1,.dat i64 v1),(2,.ptr 0 0),(4,.ptr 1 0),(5,.ptr 2 0)] [(2,.box [.dat i64 o2,.dat (zg (ze zd)) o2_1]),(1,.box [.dat i64 o1,.nil]),(0,.box [.dat i64 o0,.dat (zg (ze zd)) o0_1])] 3)
theorem Am(a:Int×List Int)(k:Int):T a k=.ite true (L1 k 1 (BA 1) 0 (fst a) (snd a)) .fail:=by kernel_rfl
theorem Ap(v1 o2:Int)(o2_1:List Int)(o1 o0:Int)(o0_1:List Int):stepT xD (L1 v1 o2 o2_1 o1 o0 o0_1)=let a':=zg (ze zd);let b':=yq v1 (2^1);let c':=A4 (o0,o0_1)&&A4 (o0,o0_1);let d':=EG (o2,o2_1) (o0,o0_1);let e':=EW (o2,o2_1) (o0,o0_1);let f':=EG (o0,o0_1) (o0,o0_1);let g':=EW (o0,o0_1) (o0,o0_1);.ite (decide (v1>0)) (.ite (HD yg v1 1==1) (.ite (A4 (o2,o2_1)&&A4 (o0,o0_1)) (.ite (decide (v1>1)) (.ite c' (.ite true (L1 b' d' e' o1 f' g') .fail) .fail) (.ite true (L1 b' d' e' o1 o0 o0_1) .fail)) .fail) (.ite (decide (v1>1)) (.ite c' (.ite true (L1 b' o2 o2_1 o1 f' g') .fail) .fail) (.ite true (L1 b' o2 o2_1 o1 o0 o0_1) .fail))) (.leaf (zq [.dat i64 o2,.dat a' o2_1]) ([(2,.box [.dat i64 o2,.dat a' o2_1]),(1,.box [.dat i64 o2,.dat a' o2_1]),(0,.box [.dat i64 o0,.dat a' o0_1])])):=by kernel_rfl
end T216
namespace T230
def T(a b:List Int):Tr:=tree Jr false 9 230 (Af ([zf (ze zd),zf (ze zd)]) (a,b))
def L1(v0 v1:List Int)(v6n:Nat)(v7 v8:Int)(o0:List Int):Tr:=re ((T [] []).L.R.L.L) (AD 137 [(0,.dat (zf (ze zd)) v0),(1,.dat (zf (ze zd)) v1),(6,.sl 0 1 0 v6n none),(7,.dat (ze zd) v7),(8,.dat i64 v8)] [(0,.arr false 130 (ze zd) o0)] 1)
def L2(a b:List Int)(v1:Int)(v5n:Nat)(v12:List Int)(v13 v14:Int)(o0:List Int):Tr:=re ((T a b).L.R.R.L.L.L) (AD 40 [(1,.dat i64 v1),(5,.sl 0 1 0 v5n none),(12,.dat (zf (ze zd)) v12),(13,.dat i64 v13),(14,.dat i64 v14)] [(0,.arr false 130 (ze zd) o0)] 1)
theorem Am(a b:List Int):T a b=let a':=(length b:Int);let b':=(length a:Int);let c':=zc .i64 (a'+1);let d':=getD b (toNat (zc .i64 (a'-1))) 0;.ite (B5 a&&B5 b) (.ite (decide (BO (Ak a) (Ak b)<0)) (.leaf (.tup [.nil,.dat (zf (ze zd)) a]) []) (.ite (a'==1) (.ite (decide (0<=b')&&decide (b'=b')&&decide (8*toNat b'<=281474976710656)&&decide (b'<9223372036854775808)) (L1 a b (toNat b') 0 (zc .i64 (b'-1)) (replicate (toNat b') 0)) .fail) (.ite (decide (0<=zc .i64 (a'-1))&&decide (zc .i64 (a'-1)<a')) (.ite (zu d') (.ite (decide (0<=zc .i64 (a'+1))&&decide (zc .i64 (a'+1)=zc .i64 (a'+1))&&decide (8*toNat c'<=281474976710656)&&decide (zc .i64 (a'+1)<9223372036854775808)) (L2 a b (Sp.lz d') (toNat c') b (a') 0 (replicate (toNat c') 0)) .fail) .fail) .fail))) .fail:=by kernel_rfl
theorem Ap(v0 v1:List Int)(v6n:Nat)(v7 v8:Int)(o0:List Int):stepT Jr (L1 v0 v1 v6n v7 v8 o0)=let a':=ze zd;let b':=getD v0 (toNat v8) 0;.ite (decide (v8>=0)) (.ite (decide (0<=v8)&&decide (v8<(length v0:Int))) (.ite (decide (0<(length v1:Int))) (.ite (zu v7&&zu b'&&zu (getD v1 0 0)&&decide (v7<getD v1 0 0)) (.ite (decide (0<=v8)&&decide (v8<(↑v6n:Int))) (.ite (decide (toNat v8<length o0)) (L1 v0 v1 v6n (Sp.dr v7 b' (getD v1 0 0)) (zc .i64 (v8-1)) (set o0 (toNat v8) (Sp.dq v7 b' (getD v1 0 0)))) .fail) .fail) .fail) .fail) .fail) (.ite (decide (0+v6n<=length o0)&&true&&CR (take v6n o0)) (.ite (decide (1<=1)&&true&&CR [v7]) (.leaf (.tup [.dat (zf a') (As (take v6n o0)),.dat (zf a') (As [v7])]) ([(1,.arr true 130 a' [v7]),(0,.arr true 130 a' o0)])) .fail) .fail):=by kernel_rfl
def L3(a b:List Int)(v1:Int)(v5n:Nat)(v12:List Int)(v13 v14:Int)(o0:List Int)(v1':Int)(v5n':Nat)(v12':List Int)(v13':Int)(v14':Int)(o1:List Int)(o0':List Int):Tr:=re ((stepT Jr (L2 a b v1 v5n v12 v13 v14 o0)).R.L.L) (AD 40 [(1,.dat i64 v1'),(5,.sl 1 1 0 v5n' none),(12,.dat (zf (ze zd)) v12'),(13,.dat i64 v13'),(14,.dat i64 v14')] [(1,.arr false 130 (ze zd) o1),(0,.arr true 130 (ze zd) o0')] 2)
theorem AY(a b:List Int)(v1:Int)(v5n:Nat)(v12:List Int)(v13 v14:Int)(o0:List Int):stepT Jr (L2 a b v1 v5n v12 v13 v14 o0)=let a':=set o0 (toNat v14) (aA zd (getD o0 (toNat v14) 0) (zc .u64 (getD v12 (toNat v14) 0*2^yt (toNat v1) 64)));let b':=(length a:Int)+1;let c':=zc .i64 (v14+1);let e':=decide (0<=v14)&&decide (v14<(↑v5n:Int));let f':=decide (toNat v14<length o0);let d':=zc .i64 b';.ite (decide (v14<v13)) (.ite (decide (0<=v14)&&decide (v14<(length v12:Int))) (.ite e' (.ite f' (.ite (decide (0<=v1)) (.ite e' (.ite f' (.ite (decide (v1>0)) (.ite (decide (0<=zc .i64 (64-v1))) (.ite (decide (0<=zc .i64 (v14+1))&&decide (zc .i64 (v14+1)<(↑v5n:Int))) (.ite (decide (toNat c'<length a')) (L2 a b v1 v5n v12 v13 c' (set a' (toNat c') (yq (getD v12 (toNat v14) 0) (2^yt (toNat (zc .i64 (64-v1))) 64)))) .fail) .fail) .fail) (L2 a b v1 v5n v12 v13 c' a')) .fail) .fail) .fail) .fail) .fail) .fail) (.ite (decide (0+v5n<=length o0)&&true&&CR (take v5n o0)) (.ite (decide (0<=zc .i64 b')&&decide (zc .i64 b'=zc .i64 b')&&decide (8*toNat d'<=281474976710656)&&decide (zc .i64 b'<9223372036854775808)) (L3 a b v1 v5n v12 v13 v14 o0 (Sp.lz (getD b (toNat (zc .i64 ((length b:Int)-1))) 0)) (toNat d') a ((length a:Int)) 0 (replicate (toNat d') 0) o0) .fail) .fail):=by kernel_rfl
def L4(v9:Int)(v10:List Int)(v11n:Nat)(v12:Int)(v13n:Nat)(v14:Int)(o1 o0:List Int):Tr:=re ((stepT Jr (L3 [] [] 0 0 [] 0 0 [] 0 0 [] 0 0 [] [])).R.L) (AD 137 [(9,.dat i64 v9),(10,.dat (zf (ze zd)) v10),(11,.sl 0 1 0 v11n none),(12,.dat i64 v12),(13,.sl 1 1 0 v13n none),(14,.dat i64 v14)] [(1,.arr false 130 (ze zd) o1),(0,.arr false 130 (ze zd) o0)] 2)
theorem CH(a b:List Int)(v1:Int)(v5n:Nat)(v12:List Int)(v13 v14:Int)(o0:List Int)(v1':Int)(v5n':Nat)(v12':List Int)(v13':Int)(v14':Int)(o1:List Int)(o0':List Int):stepT Jr (L3 a b v1 v5n v12 v13 v14 o0 v1' v5n' v12' v13' v14' o1 o0')=let b':=set o1 (toNat v14') (aA zd (getD o1 (toNat v14') 0) (zc .u64 (getD v12' (toNat v14') 0*2^yt (toNat v1') 64)));let c':=zc .i64 (v14'+1);let e':=decide (0<=v14')&&decide (v14'<(↑v5n':Int));let g':=decide (toNat v14'<length o1);let h':=As (take v5n o0);let d':=(↑(length h'):Int);let a':=zc .i64 ((length a:Int)-d')+1;let f':=zc .i64 a';.ite (decide (v14'<v13')) (.ite (decide (0<=v14')&&decide (v14'<(↑(length v12'):Int))) (.ite e' (.ite g' (.ite (decide (0<=v1')) (.ite e' (.ite g' (.ite (decide (v1'>0)) (.ite (decide (0<=zc .i64 (64-v1'))) (.ite (decide (0<=zc .i64 (v14'+1))&&decide (zc .i64 (v14'+1)<(↑v5n':Int))) (.ite (decide (toNat c'<length b')) (L3 a b v1 v5n v12 v13 v14 o0 v1' v5n' v12' v13' c' (set b' (toNat c') (yq (getD v12' (toNat v14') 0) (2^yt (toNat (zc .i64 (64-v1'))) 64))) o0') .fail) .fail) .fail) (L3 a b v1 v5n v12 v13 v14 o0 v1' v5n' v12' v13' c' b' o0')) .fail) .fail) .fail) .fail) .fail) .fail) (.ite (decide (0<=zc .i64 a')&&decide (zc .i64 a'=zc .i64 a')&&decide (8*toNat f'<=281474976710656)&&decide (zc .i64 a'<9223372036854775808)) (L4 (Sp.lz (getD b (toNat (zc .i64 ((length b:Int)-1))) 0)) h' v5n' (d') (toNat f') (zc .i64 ((length a:Int)-d')) (replicate (toNat f') 0) o1) .fail):=by kernel_rfl
def L5(v9:Int)(v10:List Int)(v11n:Nat)(v12:Int)(v13n:Nat)(v14:Int)(o1 o0:List Int)(v0o v0n v0c:Nat)(v1:List Int)(v5 v6 v7 v8:Int)(o1':List Int)(o0':List Int):Tr:=re ((stepT Jr (L4 v9 v10 v11n v12 v13n v14 o1 o0)).L.L.L.L.L.L.L.L.L.L) (AD 186 [(0,.sl 0 1 v0o v0n (Option.some v0c)),(1,.dat (zf (ze zd)) v1),(5,.dat i64 v5),(6,.dat (ze zd) v6),(7,.dat (ze zd) v7),(8,.dat (ze zd) v8)] [(1,.arr false 130 (ze zd) o1'),(0,.arr false 130 (ze zd) o0')] 2)
def L6(v9:Int)(v11n:Nat)(v12:Int)(v13n:Nat)(v96 v97:Int)(o1 o0:List Int):Tr:=re ((stepT Jr (L4 0 [] 0 0 0 0 [] [])).R) (AD 137 [(9,.dat i64 v9),(11,.sl 0 1 0 v11n none),(12,.dat i64 v12),(13,.sl 1 1 0 v13n none),(96,.dat i64 v96),(97,.dat i64 v97)] [(1,.arr false 130 (ze zd) o1),(0,.arr false 130 (ze zd) o0)] 2)
theorem CJ(v9:Int)(v10:List Int)(v11n:Nat)(v12:Int)(v13n:Nat)(v14:Int)(o1 o0:List Int):stepT Jr (L4 v9 v10 v11n v12 v13n v14 o1 o0)=let c':=(length v10:Int);let d':=zk 0 (toNat v14);let k':=zt (zw none v11n) (toNat v14);let p':=zc .i64 (v14+v12)+1;let a':=toNat (zc .i64 (c'-1));let g':=zc .i64 p';let h':=zk (toNat c') d';let l':=decide (zk (toNat c') d'<length o0);let n':=decide (0<=zc .i64 (c'-1));let b':=zt (toNat g') (toNat v14);let e':=n'&&decide (zc .i64 (c'-1)<c');let f':=getD o0 (zk a' d') 0;let j':=getD v10 a' 0;let o':=decide (zk a' d'<length o0);let q':=getD o0 h' 0;let i':=n'&&decide (zc .i64 (c'-1)<(↑b':Int));let m':=decide (0<=c')&&decide (c'<(↑b':Int));.ite (decide (v14>=0)) (.ite (decide (0<=v14)&&decide (0<=zc .i64 p')&&true&&decide (toNat v14<=toNat g')&&decide (toNat g'<=zw none v11n)&&decide (zw none v11n<=zw none v11n)&&true) (.ite m' (.ite l' (.ite e' (.ite (decide (getD o0 h' 0>=getD v10 a' 0)) (.ite i' (.ite o' (.ite e' (.ite (zu f'&&zu j'&&decide ((0:yr (Bz [u64]))<=0)&&decide (0<=(1:yr (Bz [u64])))) (L5 v9 v10 v11n v12 v13n v14 o1 o0 d' b' k' v10 (c') 18446744073709551615 (HQ f' j' 0) (NS f' j' 0) o1 o0) .fail) .fail) .fail) .fail) (.ite m' (.ite l' (.ite i' (.ite o' (.ite e' (.ite (zu q'&&zu f'&&zu j'&&decide (getD o0 h' 0<getD v10 a' 0)) (L5 v9 v10 v11n v12 v13n v14 o1 o0 d' b' k' v10 (c') (Sp.dq q' f' j') (Sp.dr q' f' j') 0 o1 o0) .fail) .fail) .fail) .fail) .fail) .fail)) .fail) .fail) .fail) .fail) (L6 v9 v11n v12 v13n v12 0 o1 o0):=by kernel_rfl
def L7(v9:Int)(v10:List Int)(v11n:Nat)(v12:Int)(v13n:Nat)(v14:Int)(o1 o0:List Int)(v0o v0n v0c:Nat)(v1:List Int)(v5 v6 v11:Int)(v12':Int)(v104 v105:Int)(o1':List Int)(o0':List Int):Tr:=re ((stepT Jr (L5 v9 v10 v11n v12 v13n v14 o1 o0 0 0 0 [] 0 0 0 0 [] [])).L.L.L.L) (AD 186 [(0,.sl 0 1 v0o v0n (Option.some v0c)),(1,.dat (zf (ze zd)) v1),(5,.dat i64 v5),(6,.dat (ze zd) v6),(11,.dat (ze zd) v11),(12,.dat (ze zd) v12'),(104,.dat i64 v104),(105,.dat i64 v105)] [(1,.arr false 130 (ze zd) o1'),(0,.arr false 130 (ze zd) o0')] 2)
theorem E5(v9:Int)(v10:List Int)(v11n:Nat)(v12:Int)(v13n:Nat)(v14:Int)(o1 o0:List Int)(v0o v0n v0c:Nat)(v1:List Int)(v5 v6 v7 v8:Int)(o1':List Int)(o0':List Int):stepT Jr (L5 v9 v10 v11n v12 v13n v14 o1 o0 v0o v0n v0c v1 v5 v6 v7 v8 o1' o0')=let b':=toNat (zc .i64 (v5-2));let c':=L7 v9 v10 v11n v12 v13n v14 o1 o0 v0o v0n v0c v1 v5 v6 0 0 v5 0 o1' o0';let d':=getD v1 (toNat (zc .i64 (v5-1))) 0;let f':=decide (0<=zc .i64 (v5-2));let a':Tr:=.ite (decide (0<=zc .i64 (v5-1))&&decide (zc .i64 (v5-1)<(length v1:Int))) (.ite (zu v7&&zu d'&&decide ((0:yr (Bz [u64]))<=0)&&decide (0<=(1:yr (Bz [u64])))) (L5 v9 v10 v11n v12 v13n v14 o1 o0 v0o v0n v0c v1 v5 (zc .u64 (v6-1)) (HQ v7 d' 0) (NS v7 d' 0) o1' o0') .fail) .fail;let e':=getD v1 b' 0;.ite (v8==0) (.ite (f'&&decide (zc .i64 (v5-2)<(length v1:Int))) (.ite (zu v6&&zu e') (.ite (decide (QT v6 e'<v7)) c' (.ite (QT v6 e'==v7) (.ite (f'&&decide (zc .i64 (v5-2)<(↑v0n:Int))) (.ite (decide (zk b' v0o<length o0')) (.ite (decide (Iu v6 e'<=getD o0' (zk b' v0o) 0)) c' a') .fail) .fail) a')) .fail) .fail) c':=by kernel_rfl
theorem FQ(v9:Int)(v11n:Nat)(v12:Int)(v13n:Nat)(v96 v97:Int)(o1 o0:List Int):stepT Jr (L6 v9 v11n v12 v13n v96 v97 o1 o0)=let a':=set o0 (toNat v97) (yq (getD o0 (toNat v97) 0) (2^yt (toNat v9) 64));let b':=decide (0<=v97)&&decide (v97<(↑v11n:Int));let c':=zc .i64 (v97+1);let d':=ze zd;let e':=decide (zc .i64 (v97+1)<(↑v11n:Int));let g':=decide (toNat v97<length o0);let f':=L6 v9 v11n v12 v13n v96 c' o1 a';let h':=decide (toNat v97<length a');.ite (decide (v97<v96)) (.ite b' (.ite g' (.ite (decide (0<=v9)) (.ite b' (.ite g' (.ite (decide (v9>0)) (.ite (e') (.ite b' (.ite h' (.ite (decide (0<=zc .i64 (v97+1))&&e') (.ite (decide (toNat c'<length a')) (.ite (decide (0<=zc .i64 (64-v9))) (.ite b' (.ite h' (L6 v9 v11n v12 v13n v96 c' o1 (set a' (toNat v97) (aA zd (getD a' (toNat v97) 0) (zc .u64 (getD a' (toNat c') 0*2^yt (toNat (zc .i64 (64-v9))) 64))))) .fail) .fail) .fail) .fail) .fail) .fail) .fail) f') f') .fail) .fail) .fail) .fail) .fail) (.ite (decide (0<=v12)&&true&&decide (0<=toNat v12)&&decide (toNat v12<=zw none v11n)&&decide (zw none v11n<=zw none v11n)&&true) (.ite (decide (0+v13n<=length o1)&&true&&CR (take v13n o1)) (.ite (decide (0+toNat v12<=length o0)&&true&&CR (take (toNat v12) o0)) (.leaf (.tup [.dat (zf d') (As (take v13n o1)),.dat (zf d') (As (take (toNat v12) o0))]) ([(1,.arr true 130 d' o1),(0,.arr true 130 d' o0)])) .fail) .fail) .fail):=by kernel_rfl
def L8(v9:Int)(v10:List Int)(v11n:Nat)(v12:Int)(v13n:Nat)(v14:Int)(o1 o0:List Int)(v0o v0n v0c:Nat)(v1:List Int)(v5 v6 v17 v156 v157:Int)(o1':List Int)(o0':List Int):Tr:=re ((stepT Jr (L7 v9 v10 v11n v12 v13n v14 o1 o0 0 0 0 [] 0 0 0 0 0 0 [] [])).R.L.L.L.L.L.R) (AD 186 [(0,.sl 0 1 v0o v0n (Option.some v0c)),(1,.dat (zf (ze zd)) v1),(5,.dat i64 v5),(6,.dat (ze zd) v6),(17,.dat (ze zd) v17),(156,.dat i64 v156),(157,.dat i64 v157)] [(1,.arr false 130 (ze zd) o1'),(0,.arr false 130 (ze zd) o0')] 2)
theorem ET(v9:Int)(v10:List Int)(v11n:Nat)(v12:Int)(v13n:Nat)(v14:Int)(o1 o0:List Int)(v0o v0n v0c:Nat)(v1:List Int)(v5 v6 v11:Int)(v12':Int)(v104 v105:Int)(o1':List Int)(o0':List Int):stepT Jr (L7 v9 v10 v11n v12 v13n v14 o1 o0 v0o v0n v0c v1 v5 v6 v11 v12' v104 v105 o1' o0')=let b':=zk (toNat v5) v0o;let d':=getD v1 (toNat v105) 0;let e':=decide (zk (toNat v105) v0o<length o0');let g':=decide (zk (toNat v5) v0o<length o0');let h':=decide (0<=v105)&&decide (v105<(↑v0n:Int));let i':=(0:yr (Bz [u64]));let j':=(1:yr (Bz [u64]));let k':=decide (0<=v5)&&decide (v5<(↑v0n:Int));let n':=zk (toNat v105) v0o;let a':=Iu v6 d';let c':=getD o0' n' 0;let m':=getD o0' b' 0;let f':=set o0' b' (Ta m' v12' v11);let l':=HQ a' v12' 0;.ite (decide (v105<v104)) (.ite (decide (0<=v105)&&decide (v105<(length v1:Int))) (.ite (zu v6&&zu d') (.ite (zu a'&&zu v12'&&decide (i'<=0)&&decide (0<=j')) (.ite h' (.ite e' (.ite (zu c'&&zu l'&&decide (i'<=v11)&&decide (v11<=j')) (.ite h' (.ite e' (L7 v9 v10 v11n v12 v13n v14 o1 o0 v0o v0n v0c v1 v5 v6 (P4 c' l' v11) (zc .u64 (QT v6 d'+NS a' v12' 0)) v104 (zc .i64 (v105+1)) o1' (set o0' n' (Ta c' l' v11))) .fail) .fail) .fail) .fail) .fail) .fail) .fail) .fail) (.ite k' (.ite g' (.ite (zu m'&&zu v12'&&decide (i'<=v11)&&decide (v11<=j')) (.ite k' (.ite g' (.ite (P4 m' v12' v11==0) (.ite (decide (0<=v14)&&decide (v14<(↑v13n:Int))) (.ite (decide (toNat v14<length o1')) (L4 v9 v10 v11n v12 v13n (zc .i64 (v14-1)) (set o1' (toNat v14) v6) f') .fail) .fail) (L8 v9 v10 v11n v12 v13n v14 o1 o0 v0o v0n v0c v1 v5 v6 0 v5 0 o1' f')) .fail) .fail) .fail) .fail) .fail):=by kernel_rfl
theorem HO(v9:Int)(v10:List Int)(v11n:Nat)(v12:Int)(v13n:Nat)(v14:Int)(o1 o0:List Int)(v0o v0n v0c:Nat)(v1:List Int)(v5 v6 v17 v156 v157:Int)(o1':List Int)(o0':List Int):stepT Jr (L8 v9 v10 v11n v12 v13n v14 o1 o0 v0o v0n v0c v1 v5 v6 v17 v156 v157 o1' o0')=let b':=decide (zk (toNat v157) v0o<length o0');let c':=getD v1 (toNat v157) 0;let d':=decide (zk (toNat v5) v0o<length o0');let e':=decide (0<=v157)&&decide (v157<(↑v0n:Int));let f':=decide (0<=v5)&&decide (v5<(↑v0n:Int));let g':=zk (toNat v157) v0o;let h':=zk (toNat v5) v0o;let a':=getD o0' g' 0;.ite (decide (v157<v156)) (.ite e' (.ite b' (.ite (decide (0<=v157)&&decide (v157<(length v1:Int))) (.ite (zu a'&&zu c'&&decide ((0:yr (Bz [u64]))<=v17)&&decide (v17<=(1:yr (Bz [u64])))) (.ite e' (.ite b' (L8 v9 v10 v11n v12 v13n v14 o1 o0 v0o v0n v0c v1 v5 v6 (NS a' c' v17) v156 (zc .i64 (v157+1)) o1' (set o0' g' (HQ a' c' v17))) .fail) .fail) .fail) .fail) .fail) .fail) (.ite f' (.ite d' (.ite f' (.ite d' (.ite (decide (0<=v14)&&decide (v14<(↑v13n:Int))) (.ite (decide (toNat v14<length o1')) (L4 v9 v10 v11n v12 v13n (zc .i64 (v14-1)) (set o1' (toNat v14) (zc .u64 (v6-1))) (set o0' h' (zc .u64 (getD o0' h' 0+v17)))) .fail) .fail) .fail) .fail) .fail) .fail):=by kernel_rfl
end T230
end
namespace T230
variable {Q:PV->Ob->Prop}
theorem dqr{r x d:Int}(hd:0<d)(hr:0<=r/\r<d)(hx:0<=x/\x<18446744073709551616):Sp.dq r x d*d+Sp.dr r x d=r*18446744073709551616+x/\0<=Sp.dq r x d/\Sp.dq r x d<18446744073709551616/\0<=Sp.dr r x d/\Sp.dr r x d<d:=by
 unfold Sp.dq Sp.dr;have h:=Int.mul_ediv_add_emod (r*18446744073709551616+x) d;rw[yn]at h;refine⟨h,Int.ediv_nonneg (by omega) (by omega),Int.ediv_lt_of_lt_mul hd (by omega),Int.emod_nonneg _ (by omega),Int.emod_lt_of_pos _ hd⟩
theorem Al(a:List Int)(d:Int)(ha:Au Ai a)(hd:0<d/\d<18446744073709551616)(hm:a.length<=20000)(hq:∀q r ob,Au Ai q->(0<=r/\r<d)->Ak a=Ak q*d+r->Q (.tup [.dat C9 (As q),.dat C9 (As [r])]) ob):∀(i:Nat) (q:List Int) (r:Int),i+q.length=a.length->Au Ai q->(0<=r/\r<d)->Sp.val Ai (a.drop i)=Sp.val Ai q*d+r->
  Ends Jr (L1 a [d] a.length r ((i:Int)-1) (z8 i 0++q)) Q
 |0,q,r,hl,hdq,hr,he=>by
  have ht:((z8 0 0++q).take a.length)=q:=by
   rw[List.replicate_zero,List.nil_append];exact List.take_of_length_le (by omega)
  refine Ends.An (Ap ..) (Ends.ff (by simp) ?_);rw[ht];refine zr (Ac (by simp;omega) (El (by omega) hdq)) (zr (Ac rfl (El (by simp) (fun x hx=>by rw[List.mem_singleton]at hx;subst hx;exact⟨hr.1,by show x<18446744073709551616;omega⟩))) (ya (hq q r _ hdq hr he)))
 |i+1,q,r,hl,hdq,hr,he=>by
  have e1:(((i+1:Nat):Int)-1)=(i:Int):=by omega
  have gx:=AU ha i;obtain⟨d1,d2,d3,d4,d5⟩:=dqr hd.1 hr (Sp.AX gx);have da:a.drop i=a.getD i 0::a.drop (i+1):=by
   rw[List.getD_eq_getElem?_getD,List.getElem?_eq_getElem (by omega)];exact List.drop_eq_getElem_cons (by omega)
  have es:∀x,(z8 (i+1) (0:Int)++q).set i x=z8 i 0++(x::q):=by
   intro x;rw[List.replicate_succ',ye];exact Dg _ _ _ _ (by simp)
  rw[e1];refine Ends.An (Ap ..) (zr (by simp) ?_);rw[yd,es,wr ((i:Int)-1) (by omega) (by omega)];refine zr (by simp;omega) (zr (by simp) (zr ?_ (zr (by simp;omega) (zr (by simp;omega) ?_))))
  ·exact Ac (Ac (Ac (CE hr.1 (by omega)) gx) (CE (by show 0<=d;omega) hd.2)) (w4 hr.2)
  ·refine Al a d ha hd hm hq i _ _ (by simp;omega) (fun x hx=>?_) ⟨d4,d5⟩ ?_
   ·rcases List.mem_cons.1 hx with rfl|hx
    ·exact⟨d2,d3⟩
    ·exact hdq x hx
   ·rw[da];show a.getD i 0+(18446744073709551616:Int)*Sp.val Ai (a.drop (i+1))=(Sp.dq r (a.getD i 0) d+(18446744073709551616:Int)*Sp.val Ai q)*d+Sp.dr r (a.getD i 0) d;rw[he,yj,yk,yc];omega
end T230
end Go.Pe
namespace Go.Sp
theorem T8{B P u0 u1 u2 u' v1 v2 v' q r:Int}(hP:0<P)(hv:0<=v')(hu:u'<P)(hq:0<=q)(he:q*v1+r=u0*B+u1)(h:r*B+u2<q*v2):
  ((u0*B+u1)*B+u2)*P+u'<q*((v1*B+v2)*P+v'):=by
 have e:q*(v1*B+v2)=q*v1*B+q*v2:=by rw[yk,yc]
 have e2:(u0*B+u1)*B=q*v1*B+r*B:=by rw[<-he,yj]
 have h1:(u0*B+u1)*B+u2+1<=q*(v1*B+v2):=by rw[e,e2];omega
 have h2:=zl h1 (yb hP);have h3:0<=q*v':=Int.mul_nonneg hq hv;rw[yk q, <-yc];rw[yj,Int.one_mul]at h2;omega
theorem Tk{B P u0 u1 u2 u' v1 v2 v' q r:Int}(hP:0<P)(hv:0<=v'/\v'<P)(hu:0<=u')(hq:0<=q/\q<B)(hv1:1<=v1)(hv2:0<=v2)(he:q*v1+r=u0*B+u1)(h:q*v2<=r*B+u2):
  q*((v1*B+v2)*P+v')<((u0*B+u1)*B+u2)*P+u'+((v1*B+v2)*P+v'):=by
 have e:q*(v1*B+v2)=q*v1*B+q*v2:=by rw[yk,yc]
 have e2:(u0*B+u1)*B=q*v1*B+r*B:=by rw[<-he,yj]
 have h1:q*(v1*B+v2)<=(u0*B+u1)*B+u2:=by rw[e,e2];omega
 have h2:=zl h1 (yb hP);have h3:q*v'<=(B-1)*P:=Int.le_trans (Int.mul_le_mul_of_nonneg_left (yb hv.2) hq.1) (zl (by omega) (yb hP));have h4:B<=v1*B+v2:=by
  have:=zl hv1 (show 0<=B by omega);omega
 have h5:=zl h4 (yb hP);rw[Int.sub_mul,Int.one_mul]at h3;rw[yk q, <-yc];omega
end Go.Sp
