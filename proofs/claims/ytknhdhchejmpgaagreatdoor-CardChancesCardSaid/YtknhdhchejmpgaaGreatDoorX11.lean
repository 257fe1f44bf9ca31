import Derived.Test.YtknhdhchejmpgaaGreatDoorX10
import Derived.Test.YtknhdhchejmpgaaGreatDoorX01
import Derived.Lib.ItoaMem
/- A part of a proof (no law is stated here). Made by program out of texts by AI agents. -/
noncomputable section
open Go.IntKind renaming wrap -> zc, u64 -> zd, u8 -> z6, i64 -> yg
open Go.Pe.Sh renaming int -> ze, list -> zf, nlist -> zg, bool -> zh, str -> zj, pair -> zo, T -> yr
open UInt8 renaming toNat -> zi, ofNat -> yo
open Nat renaming add -> zk, sub -> zt
open Int renaming mul_le_mul_of_nonneg_right -> zl, tmod -> z7, le_of_lt -> yb, mul_assoc -> yc, toNat_natCast -> yd, tdiv -> yh, add_mul -> yj, mul_add -> yk, mul_comm -> yn, fdiv -> yq
open Go.Pe.PV renaming agg -> zq
open Go.Pe.Ends renaming tt -> zr, leaf -> ya, ite -> ym
open Go.Sp renaming u64 -> zu, first -> yp, vI -> yu
open Option renaming getD -> zw
open List renaming replicate -> z8, append_assoc -> ye, length -> yf, map -> yi
open Min renaming min -> yt
namespace Go.Pe
open Sp
open Go.Det
theorem eI(x k:Nat)(h:2^k<=x):x.log2=k+(x/2^k).log2:=by
 have hk:=Nat.two_pow_pos k;have hz:x/2^k≠0:=by
  have:=Nat.div_pos h hk;omega
 have hx:x≠0:=by omega
 refine(Nat.log2_eq_iff hx).2 ⟨?_,?_⟩
 ·rw[Nat.pow_add];exact Nat.le_trans (Nat.mul_le_mul_left _ (Nat.log2_self_le hz)) (Nat.mul_div_le x (2^k))
 ·rw[Nat.add_assoc,Nat.pow_add];have a:x/2^k+1<=2^((x/2^k).log2+1):=Nat.lt_log2_self;have b:=Nat.mul_le_mul_left (2^k) a;have c:=Nat.lt_mul_div_succ x hk;exact Nat.lt_of_lt_of_le c b
theorem NP(x k:Nat)(h:2^k<=x):EU (x:Int)=(k:Int)+EU ((x/2^k:Nat):Int):=by
 have hk:=Nat.two_pow_pos k;have hz:=Nat.div_pos h hk;have e:=eI x k h;unfold EU;rw[wc (by omega),wc (by omega),yd,yd,e];omega
theorem rC(n k:Nat):yq (n:Int) ((2:Int)^k)=((n/2^k:Nat):Int):=by
 have:(0:Int)<2^k:=Int.pow_pos (by decide);rw[Int.fdiv_eq_ediv_of_nonneg _ (by omega),Int.natCast_ediv,Int.natCast_pow];rfl
def sU:List UInt8:=[(0:UInt8),(1:UInt8),(2:UInt8),(2:UInt8),(3:UInt8),(3:UInt8),(3:UInt8),(3:UInt8),(4:UInt8),(4:UInt8),(4:UInt8),(4:UInt8),(4:UInt8),(4:UInt8),(4:UInt8),(4:UInt8),(5:UInt8),(5:UInt8),(5:UInt8),(5:UInt8),(5:UInt8),(5:UInt8),(5:UInt8),(5:UInt8),(5:UInt8),(5:UInt8),(5:UInt8),(5:UInt8),(5:UInt8),(5:UInt8),(5:UInt8),(5:UInt8),(6:UInt8),(6:UInt8),(6:UInt8),(6:UInt8),(6:UInt8),(6:UInt8),(6:UInt8),(6:UInt8),(6:UInt8),(6:UInt8),(6:UInt8),(6:UInt8),(6:UInt8),(6:UInt8),(6:UInt8),(6:UInt8),(6:UInt8),(6:UInt8),(6:UInt8),(6:UInt8),(6:UInt8),(6:UInt8),(6:UInt8),(6:UInt8),(6:UInt8),(6:UInt8),(6:UInt8),(6:UInt8),(6:UInt8),(6:UInt8),(6:UInt8),(6:UInt8),(7:UInt8),(7:UInt8),(7:UInt8),(7:UInt8),(7:UInt8),(7:UInt8),(7:UInt8),(7:UInt8),(7:UInt8),(7:UInt8),(7:UInt8),(7:UInt8),(7:UInt8),(7:UInt8),(7:UInt8),(7:UInt8),(7:UInt8),(7:UInt8),(7:UInt8),(7:UInt8),(7:UInt8),(7:UInt8),(7:UInt8),(7:UInt8),(7:UInt8),(7:UInt8),(7:UInt8),(7:UInt8),(7:UInt8),(7:UInt8),(7:UInt8),(7:UInt8),(7:UInt8),(7:UInt8),(7:UInt8),(7:UInt8),(7:UInt8),(7:UInt8),(7:UInt8),(7:UInt8),(7:UInt8),(7:UInt8),(7:UInt8),(7:UInt8),(7:UInt8),(7:UInt8),(7:UInt8),(7:UInt8),(7:UInt8),(7:UInt8),(7:UInt8),(7:UInt8),(7:UInt8),(7:UInt8),(7:UInt8),(7:UInt8),(7:UInt8),(7:UInt8),(7:UInt8),(7:UInt8),(7:UInt8),(7:UInt8),(7:UInt8),(7:UInt8),(8:UInt8),(8:UInt8),(8:UInt8),(8:UInt8),(8:UInt8),(8:UInt8),(8:UInt8),(8:UInt8),(8:UInt8),(8:UInt8),(8:UInt8),(8:UInt8),(8:UInt8),(8:UInt8),(8:UInt8),(8:UInt8),(8:UInt8),(8:UInt8),(8:UInt8),(8:UInt8),(8:UInt8),(8:UInt8),(8:UInt8),(8:UInt8),(8:UInt8),(8:UInt8),(8:UInt8),(8:UInt8),(8:UInt8),(8:UInt8),(8:UInt8),(8:UInt8),(8:UInt8),(8:UInt8),(8:UInt8),(8:UInt8),(8:UInt8),(8:UInt8),(8:UInt8),(8:UInt8),(8:UInt8),(8:UInt8),(8:UInt8),(8:UInt8),(8:UInt8),(8:UInt8),(8:UInt8),(8:UInt8),(8:UInt8),(8:UInt8),(8:UInt8),(8:UInt8),(8:UInt8),(8:UInt8),(8:UInt8),(8:UInt8),(8:UInt8),(8:UInt8),(8:UInt8),(8:UInt8),(8:UInt8),(8:UInt8),(8:UInt8),(8:UInt8),(8:UInt8),(8:UInt8),(8:UInt8),(8:UInt8),(8:UInt8),(8:UInt8),(8:UInt8),(8:UInt8),(8:UInt8),(8:UInt8),(8:UInt8),(8:UInt8),(8:UInt8),(8:UInt8),(8:UInt8),(8:UInt8),(8:UInt8),(8:UInt8),(8:UInt8),(8:UInt8),(8:UInt8),(8:UInt8),(8:UInt8),(8:UInt8),(8:UInt8),(8:UInt8),(8:UInt8),(8:UInt8),(8:UInt8),(8:UInt8),(8:UInt8),(8:UInt8),(8:UInt8),(8:UInt8),(8:UInt8),(8:UInt8),(8:UInt8),(8:UInt8),(8:UInt8),(8:UInt8),(8:UInt8),(8:UInt8),(8:UInt8),(8:UInt8),(8:UInt8),(8:UInt8),(8:UInt8),(8:UInt8),(8:UInt8),(8:UInt8),(8:UInt8),(8:UInt8),(8:UInt8),(8:UInt8),(8:UInt8),(8:UInt8),(8:UInt8),(8:UInt8),(8:UInt8),(8:UInt8),(8:UInt8),(8:UInt8),(8:UInt8),(8:UInt8)]
theorem XT:∀m:Fin 256,((zi (sU.getD m.val 0):Nat):Int)=EU (m.val:Int)/\zc .u8 (m.val:Int)=(m.val:Int)/\EU (m.val:Int)<=8/\0<=EU (m.val:Int):=by decide+kernel
theorem Me{ACC:Int}(a z x:Nat)(hA:ACC=a)(ha:a<=64)(hz:z<256)(hx:EU (x:Int)=(a:Int)+EU (z:Int)):zc .i64 (ACC+zc .i64 ((zi (sU.getD (Int.toNat (zc .u8 (z:Int))) 0):Nat):Int))=EU x:=by
 obtain⟨e1,e2,e3,e4⟩:=XT ⟨z,hz⟩;have e1:((zi (sU.getD z 0):Nat):Int)=EU (z:Int):=e1;have e2:zc .u8 (z:Int)=(z:Int):=e2;have e3:EU (z:Int)<=8:=e3;have e4:0<=EU (z:Int):=e4;rw[e2,yd,e1,hA,hx,wr (EU (z:Int)) (by omega) (by omega),wr _ (by omega) (by omega)]
theorem pP(z:Nat)(hz:z<256):(decide ((0:yr (ze z6))<=zc z6 (z:Int))&&decide (zc z6 (z:Int)<(↑(256:Nat):Int)))=true:=by
 obtain⟨_,e2,_,_⟩:=XT ⟨z,hz⟩;have e2:zc .u8 (z:Int)=(z:Int):=e2;rw[e2];exact Ab (w4 (show(0:Int)<=(z:Int)by omega)) (w4 (by omega))
namespace T247
set_option maxHeartbeats 1000000 in
set_option maxRecDepth 100000 in
theorem ok:Ag Bh 247 Vn:=by
 refine B5 I7 (fun(x:Int) hx=>?_);have hx:=Sp.AY (n:=x) hx;obtain⟨x,rfl⟩:=Int.eq_ofNat_of_zero_le hx.1;refine Ends.eq (Al (x:Int)) ?_;conv=>zeta
 conv=>zeta
 rw[rC x 32,rC x 16,rC x 8,rC (x/2^32) 16,rC (x/2^32) 8,rC (x/2^32/2^16) 8,rC (x/2^16) 8];have l32:=NP x 32;have l16:=NP x 16;have l8:=NP x 8;have l3216:=NP (x/2^32) 16;have l328:=NP (x/2^32) 8;have l32168:=NP (x/2^32/2^16) 8;have l168:=NP (x/2^16) 8;refine ym (fun c1=>zr rfl (ym (fun c2=>zr rfl (ym (fun c3=>zr rfl (zr (pP _ ?_) (ya (Ad.of rfl rfl (Me 56 _ x (by decide+kernel) (by decide) ?_ ?_))))) (fun c3=>zr (pP _ ?_) (ya (Ad.of rfl rfl (Me 48 _ x (by decide+kernel) (by decide) ?_ ?_)))))) (fun c2=>ym (fun c3=>zr rfl (zr (pP _ ?_) (ya (Ad.of rfl rfl (Me 40 _ x (by decide+kernel) (by decide) ?_ ?_))))) (fun c3=>zr (pP _ ?_) (ya (Ad.of rfl rfl (Me 32 _ x rfl (by decide) ?_ ?_))))))) (fun c1=>ym (fun c2=>zr rfl (ym (fun c3=>zr rfl (zr (pP _ ?_) (ya (Ad.of rfl rfl (Me 24 _ x (by decide+kernel) (by decide) ?_ ?_))))) (fun c3=>zr (pP _ ?_) (ya (Ad.of rfl rfl (Me 16 _ x (by decide+kernel) (by decide) ?_ ?_)))))) (fun c2=>ym (fun c3=>zr rfl (zr (pP _ ?_) (ya (Ad.of rfl rfl (Me 8 _ x (by decide+kernel) (by decide) ?_ ?_))))) (fun c3=>zr (pP _ ?_) (ya (Ad.of rfl rfl (Me 0 _ x rfl (by decide) ?_ ?_))))));all_goals
  first
   |replace c1:=w6 c1
   |replace c1:=w7 c1
  first
   |replace c2:=w6 c2
   |replace c2:=w7 c2
  first
   |replace c3:=w6 c3
   |replace c3:=w7 c3
  omega
end T247
theorem nB:DF XD1:=Aa T247.ok AN
theorem Q1{n:Int}(h1:0<=n)(h2:n<18446744073709551616):0<=Sp.EU n/\Sp.EU n<=64:=by
 unfold Sp.EU;split
 ·omega
 ·have:n.toNat.log2<64:=(Nat.log2_lt (by omega)).2 (by omega);omega
namespace T272
theorem ok:Ag Bh 272 xV:=by
 refine B5 nB (fun(x:Int) hx=>?_);have h:=Sp.AY (n:=x) hx;have hl:=Q1 h.1 h.2;refine Ends.eq (Al x) (zr hx (ya (Ad.of rfl rfl ?_)));show zc .i64 (64-Sp.EU x)=Sp.lz x;unfold Sp.lz;exact wr _ (by omega) (by omega)
end T272
theorem aE:Ag Bh 271 Si:=T271.ok T272.ok
end Go.Pe
namespace Go.Sp
def R0(a b:List Int):Bool:=B4 a&&B4 b&&decide (a.length<=9000)&&decide (b.length<=9000)&&decide (0<Ak b)
end Go.Sp
namespace Go.Pe
open Sp
open Go.Det
def Ga:Ao:=⟨[Dc,Dc],fun i=>R0 i.1 i.2,[Dc,Dc],fun i=>(Bt (Ak i.1/Ak i.2),Bt (Ak i.1 % Ak i.2)),false⟩
def Jm:AX:=X7 [(221,XZ),(269,U8),(223,SO),(268,U3),(270,Wb),(271,Si),(272,xV)]
end Go.Pe
namespace Go.Sp
def Hb(c:UInt8):Int:=(c.toNat:Int)-48
def BK(c:UInt8):Bool:=decide (48<=c.toNat)&&decide (c.toNat<=57)
def Az(n:Int):List UInt8->Int
 |[]=>n
 |c::r=>Az (10*n+Hb c) r
def Aj(s:List UInt8):Bool:=s.all BK
theorem CI:∀(n:Int) (a b:List UInt8),Az n (a++b)=Az (Az n a) b
 |_,[],_=>rfl
 |n,c::a,b=>by rw[List.cons_append,Az,Az,CI]
theorem Ew:∀(s:List UInt8) (n:Int),Az n s=n*10^s.length+Az 0 s
 |[],n=>by simp[Az]
 |c::s,n=>by
  rw[Az,Az,Ew s (10*n+Hb c),Ew s (10*0+Hb c),List.length_cons,Int.pow_succ,yj,Int.mul_zero,Int.zero_add,yn 10 n,yc,yn 10 (10^s.length),Int.add_assoc]
theorem CT{c:UInt8}(h:BK c=true):0<=Hb c/\Hb c<=9:=by
 unfold BK at h;rw[Bool.and_eq_true,w5,w5]at h;unfold Hb;omega
theorem Bd:∀ {s:List UInt8},Aj s=true->0<=Az 0 s/\Az 0 s<10^s.length
 |[],_=>by simp[Az]
 |c::s,h=>by
  unfold Aj at h;rw[List.all_cons,Bool.and_eq_true]at h;have a:=CT h.1;have b:=Bd (s:=s) h.2;have hp:=AL (show(0:Int)<10 by decide) s.length;have c1:=Int.mul_nonneg a.1 (yb hp);have c2:=zl a.2 (yb hp);rw[Az,Ew,List.length_cons,Int.pow_succ,Int.mul_zero,Int.zero_add,yn (10^s.length) 10];omega
theorem Bb{s:List UInt8}(h:Aj s=true)(i:Nat):Aj (s.take i)=true:=by
 unfold Aj at h ⊢;rw[List.all_eq_true]at h ⊢;exact fun x hx=>h x (List.mem_of_mem_take hx)
theorem BR{s:List UInt8}(h:Aj s=true)(i:Nat):Aj (s.drop i)=true:=by
 unfold Aj at h ⊢;rw[List.all_eq_true]at h ⊢;exact fun x hx=>h x (List.mem_of_mem_drop hx)
def AW(s:List UInt8):Bool:=decide (s≠[])&&Aj s&&(decide (s.getD 0 0≠48)||decide (s=[48]))
def Gn(a b:AR):AR:=if vI a<0/\Ae (vI a) % vI b≠0 then MF (CO (-(Ae (vI a)/vI b))) (1,[])else CO (sg (decide (vI a<0)) (Ae (vI a)/vI b))
def bJ(a b:AR):Int:=(Gn a b).1
def fY(a b:AR):List Int:=(Gn a b).2
def Iv(a b:AR):Int:=Cx (vI a % vI b)
def HS(a b:AR):List Int:=Cv (vI a % vI b)
def gI(a b:Int):Int:=if a<0 then -(-(Int.gcd a b:Int))else(Int.gcd a b:Int)
theorem Gr(a b:Int):gI a b=(Int.gcd a b:Int):=by unfold gI;split<;>omega
def Mi(a b:AR):Int:=Cx (gI (vI a) (vI b))
def Mw(a b:AR):List Int:=Cv (gI (vI a) (vI b))
def pI(a k:Int):Int:=if k<0 then -(-(a^k.toNat))else a^k.toNat
theorem RT(a k:Int):pI a k=a^k.toNat:=by unfold pI;split<;>omega
def aW(a k:Int):Bool:=decide (0<=k)&&decide (k<=100000)&&decide (Ae (pI a k)<(18446744073709551616:Int)^(4000:Nat))
def UN(a:AR)(k:Int):Int:=Cx (pI (vI a) k)
def Tz(a:AR)(k:Int):List Int:=Cv (pI (vI a) k)
def BB(n:Int):List Int:=if n<0 then[]else[]
theorem D8(n:Int):BB n=[]:=by unfold BB;split<;>rfl
def Cd(s:List UInt8):Int:=if s.getD 0 0=45 then -Az 0 (s.drop 1)else Az 0 s
def Em(s:List UInt8):Bool:=decide (s.length<=5999)&&(if s.getD 0 0=45 then Aj (s.drop 1)else Aj s)
def C6(s:List UInt8):Int:=Cx (Cd s)
def C3(s:List UInt8):List Int:=Cv (Cd s)
end Go.Sp
namespace Go.Pe
open Sp
open Go.Det
def Fm:Ao:=⟨[BI,BI],fun i=>A4 i.1&&A4 i.2&&decide (0<yu i.2),[BI,BI],fun i=>((bJ i.1 i.2,fY i.1 i.2),(Iv i.1 i.2,HS i.1 i.2)),false⟩
def XC:Ao:=⟨[BI,BI],fun i=>A4 i.1&&A4 i.2,[BI],fun i=>(Mi i.1 i.2,Mw i.1 i.2),false⟩
def cY:Ao:=⟨[BI,i64],fun i=>A4 i.1&&aW (yu i.1) i.2,[BI],fun i=>(UN i.1 i.2,Tz i.1 i.2),false⟩
def Om:Ao:=⟨[.str],fun s=>Em s,[BI],fun s=>(C6 s,C3 s),false⟩
def U1:Ao:=⟨[i64],fun _=>true,[BI],fun n=>(n,BB n),false⟩
def vC:AX:=ZR [(176,[9,10])] [] [(176,[(9,[3,4,5,8,12,13]),(10,[3,4,5,14,15])])] [(105,U1),(230,Ga),(218,PA),(219,aR),(217,aK),(158,PD),(173,IE)]
def XF0:AX:=X7 []
def xP:AX:=X7 [(176,Fm),(212,pR),(173,IE)]
def vF:AX:=X7 [(105,U1),(159,P9)]
end Go.Pe
namespace Go.Sp
abbrev B9:Nat:=1000000000
def Jq(l:List Int):Bool:=decide (l.length<=20000)&&l.all fun d=>decide (0<=d)&&decide (d<1000000000)
def hR(l:List Int):Bool:=Jq l&&decide (l.length<=9000)
def A5(l:List Int):Bool:=Jq l&&uK l
def Ar(l:List Int):Int:=val B9 l
def BM(n:Int):List Int:=dg B9 n
def rN(n:Int):Bool:=decide (n<0)
def rW(n:Int):List Int:=BM (Ae n)
def B6(neg:Bool)(w:List Int):Bool:=neg&&decide (Au w≠[])
def DL(s:List UInt8):Bool:=decide (s.length<=18)&&Aj s
def Bx(s:List UInt8):Int:=Az 0 s
def EY(s:List UInt8):Bool:=rN (Cd s)
def E2(s:List UInt8):List Int:=rW (Cd s)
def Ci(a b:List Int):List Int:=BM (gI (Ar a) (Ar b))
end Go.Sp
namespace Go.Pe
open Sp
open Go.Det
abbrev li:Sh:=.list i64
abbrev Jk:Sh:=.pair .bool li
def Sl:Ao:=⟨[li],fun l=>decide (yf (α:=Int) l<=20000),[li],fun l=>Au l,false⟩
def H3:Ao:=⟨[.bool,li],fun i=>decide (yf (α:=Int) i.2<=20000),[Jk],fun i=>(B6 i.1 i.2,Au i.2),false⟩
def XP:Ao:=⟨[li,li],fun i=>A5 i.1&&A5 i.2,[i64],fun i=>BO (Ar i.1) (Ar i.2),false⟩
def WO:Ao:=⟨[li,li],fun i=>Sp.hR i.1&&Sp.hR i.2,[li],fun i=>BM (Ar i.1*Ar i.2),false⟩
def V0:Ao:=⟨[li,i64],fun i=>Jq i.1&&decide (0<(i.2:Int))&&decide ((i.2:Int)<1000000000),[li,i64],fun i=>(BM (Ar i.1/i.2),Ar i.1 % i.2),false⟩
def Qn:Ao:=⟨[li,li],fun i=>A5 i.1&&A5 i.2&&decide (yf (α:=Int) i.1<=9000)&&decide (yf (α:=Int) i.2<=9000)&&decide (0<Ar i.2),[li,li],fun i=>(BM (Ar i.1/Ar i.2),BM (Ar i.1 % Ar i.2)),false⟩
def KM:Ao:=⟨[li,li],fun i=>A5 i.1&&A5 i.2&&decide (yf (α:=Int) i.1<=9000)&&decide (yf (α:=Int) i.2<=9000),[li],fun i=>Ci i.1 i.2,false⟩
def Sq:Ao:=⟨[.str],fun s=>DL s,[i64],fun s=>Bx s,false⟩
def RZ:Ao:=⟨[.str],fun s=>Em s,[Jk],fun s=>(EY s,E2 s),false⟩
def iU:AX:=X7 []
def ZT:AX:=X7 [(227,Sl)]
def LX:AX:=X7 [(170,XP),(227,Sl),(226,V0),(172,WO)]
def wH:AX:=X7 [(164,Qn)]
def ZP:AX:=X7 [(165,Sq),(168,H3)]
end Go.Pe
namespace Go.Sp
def Dd:List UInt8:=[48,49,50,51,52,53,54,55,56,57]
def XJ(o:List Bool):List Bool:=(List.range 256).map fun j=>o.getD j false
def qA:List Bool:=z8 256 false
def OV(s:List UInt8):List UInt8:=((s.reverse.dropWhile BK).reverse).dropWhile BK
def Pz(s:List UInt8)(c:Int):Int:=match s.findIdx? (fun x=>x==c.toNat.toUInt8)with
 |some i=>(i:Int)
 |none=> -1
def Ax(s:List UInt8):List UInt8:=match s.findIdx? (fun x=>x==47)with
 |some i=>s.take i
 |none=>s
def AM(s:List UInt8):List UInt8:=match s.findIdx? (fun x=>x==47)with
 |some i=>s.drop (i+1)
 |none=>[]
def Bm(s:List UInt8):Bool:=s.any (fun x=>x==47)
def A0(s:List UInt8):List UInt8:=if s.getD 0 0=45 then s.drop 1 else s
def preB(s:List UInt8):Bool:=decide (s.getD 0 0=45)
def pM(s t:List UInt8):Bool:=decide (t=Dd)&&decide (s.length<=1000000)
def sR(s t:List UInt8):Bool:=decide (t=[47])&&decide (s.length<=1000000)
def Rn(s t:List UInt8):Bool:=decide (t=[45])&&decide (s.length<=1000000)
end Go.Sp
namespace Go.Pe
open Sp
open Go.Det
def Wr:Ao:=⟨[.str,.str],fun i=>pM i.1 i.2,[.str],fun i=>OV i.1,false⟩
def qQ:Ao:=⟨[.str,.int .u8],fun i=>decide (0<=(i.2:Int))&&decide ((i.2:Int)<256),[i64],fun i=>Pz i.1 i.2,false⟩
def fA:Ao:=⟨[.str,.str],fun i=>sR i.1 i.2,[.str,.str,.bool],fun i=>(Ax i.1,Sp.AM i.1,Bm i.1),false⟩
def pK:Ao:=⟨[.str,.str],fun i=>Rn i.1 i.2,[.str,.bool],fun i=>(A0 i.1,Sp.preB i.1),false⟩
def L0:Ao:=⟨[.str],fun s=>decide (s.length<=1000000),[.bool],fun s=>AW s,false⟩
def MS:AX:=X7 []
def YN:AX:=X7 [(263,⟨[.str,.str],fun _=>false,[.str],fun i=>i.1,false⟩),(264,⟨[.str,.str],fun _=>false,[.str],fun i=>i.1,false⟩),(258,⟨[.str,.int .u8],fun _=>false,[.str],fun i=>i.1,false⟩),(259,⟨[.str,.int .u8],fun _=>false,[.str],fun i=>i.1,false⟩)]
def XH1:AX:=X7 [(211,Wr)]
def XH2:AX:=X7 [(316,qQ)]
def PY:AX:=X7 [(105,U1),(216,cY),(159,P9),(158,PD),(174,TG),(302,⟨[.str,i64,i64],fun _=>false,[i64],fun _=>(0:Int),false⟩),(267,⟨[.str],fun _=>false,[i64],fun _=>(0:Int),false⟩)]
end Go.Pe
namespace Go.Sp
def HG(a:List UInt8):Bool:=AW (Ax (A0 a))&&(!preB a||decide (Ax (A0 a)≠[48]))&&(!Bm (A0 a)||(AW (AM (A0 a))&&decide (AM (A0 a)≠[48])&&decide (AM (A0 a)≠[49])))
def tK(a:List UInt8):Int:=Az 0 (Ax (A0 a))
def uC(a:List UInt8):Int:=Az 0 (AM (A0 a))
def AO(a:List UInt8):Int:=if HG a=false then 1 else if 600<(Ax (A0 a)).length\/600<(AM (A0 a)).length then 4 else if Bm (A0 a)=true/\gI (tK a) (uC a)≠1 then 1 else 0
def AU(s:List UInt8):Int:=((Ax s).length:Int)
def Hg(a:List UInt8):Bool:=Em (Ax a)&&Em (AM a)&&decide (a.length<=5999)
def A6(a:List UInt8):Int:=Cd (Ax a)
def AG(a:List UInt8):Int:=if Bm a=true then Cd (AM a)else 1
def Bz(a:List UInt8):Bool:=rN (A6 a)
def Br(a:List UInt8):List Int:=rW (A6 a)
def Bi(a:List UInt8):Bool:=rN (AG a)
def Be(a:List UInt8):List Int:=rW (AG a)
end Go.Sp
namespace Go.Pe
open Sp
open Go.Det
def Fa:Ao:=⟨[.str],fun s=>decide (s.length<=1000000),[i64],fun s=>AO s,false⟩
def La:Ao:=⟨[.str],fun s=>decide (s.length<=1000000),[i64],fun s=>AU s,false⟩
def IQ:Ao:=⟨[i64],fun n=>CH n,[Jk],fun n=>(Sp.rN n,Sp.rW n),false⟩
def SM:Ao:=⟨[.str],fun s=>Hg s,[Jk,Jk],fun s=>((Bz s,Br s),(Bi s,Be s)),false⟩
def LF:AX:=ZR [(77,[4,6,7,9,10])] [] [(77,[(4,[5,6,7,8]),(6,[5,6,7,8]),(7,[5,6,7,9]),(9,[5,6,7]),(10,[10])])] [(83,JL),(85,WS),(149,pK),(150,fA),(151,L0),(152,XC),(153,Om),(154,XQ),(105,U1)]
def qR:AX:=X7 [(168,H3)]
def XK3:AX:=X7 [(89,La),(163,RZ),(107,IQ)]
def Uz:AX:=ZR [(24,[4,7,9,11,13,14])] [] [(24,[(4,[0,3]),(7,[3,4]),(9,[3,4]),(11,[3,4]),(13,[5,6]),(14,[7])])] [(89,La),(90,L0),(91,SM),(92,KM)]
end Go.Pe
namespace Go.Sp
abbrev AS:=(Int×List Int)×(Int×List Int)
def ME(a:AR):Bool:=Dh a&&decide (a.2.length<=4000)
def Du(a:AS):Bool:=ME a.1&&ME a.2
def eQ(a b:AS):Int:=BO (vI a.1*vI b.2) (vI b.1*vI a.2)
def VF(a:List UInt8):Int:=Cx (A6 a)
def VV(a:List UInt8):List Int:=Cv (A6 a)
def Sn(a:List UInt8):Int:=Cx (AG a)
def SI(a:List UInt8):List Int:=Cv (AG a)
def iQ(a b:AR):AR:=if vI b<0 then Gn (Ds a) (Ds b)else Gn a b
def yT(a b:AR):Int:=(iQ a b).1
def zB(a b:AR):List Int:=(iQ a b).2
def CJ(d:AR):Bool:=decide (d.2=[])&&decide (d.1=1)
def gR(n d:AR):AR:=(Mi n d,Mw n d)
def MD(n d:AR):AS:=if CJ d=true then(n,d)else(iQ n (gR n d),iQ d (gR n d))
def Y4(n d:AR):AS:=if vI d<0 then MD (Ds n) (Ds d)else MD n d
def fWh(n:AR):AS:=(n,(1,BB 1))
def Hp(a b:AS):AS:=if CJ a.2=true/\CJ b.2=true then fWh (En a.1 b.1)else Y4 (En (EX a.1 b.2) (EX b.1 a.2)) (EX a.2 b.2)
def OD(a b:AS):AS:=Y4 (EX a.1 b.1) (EX a.2 b.2)
def nS(f:AS):Int:=f.1.1
def nW(f:AS):List Int:=f.1.2
def dS(f:AS):Int:=f.2.1
def dW(f:AS):List Int:=f.2.2
def cI(n d:AR):Int:=nS (Y4 n d)
def iL(n d:AR):List Int:=nW (Y4 n d)
def fR(n d:AR):Int:=dS (Y4 n d)
def cG(n d:AR):List Int:=dW (Y4 n d)
def TX(a b:AS):Int:=nS (Hp a b)
def TU(a b:AS):List Int:=nW (Hp a b)
def Ud(a b:AS):Int:=dS (Hp a b)
def S9(a b:AS):List Int:=dW (Hp a b)
def vM(a b:AS):Int:=nS (OD a b)
def wG(a b:AS):List Int:=nW (OD a b)
def xW(a b:AS):Int:=dS (OD a b)
def wB(a b:AS):List Int:=dW (OD a b)
def FC(a:AS):Bool:=Du a&&decide (0<vI a.2)
def MH(n d:AR):Bool:=A4 n&&A4 d&&decide (vI d≠0)
end Go.Sp
namespace Go.Pe
open Sp
open Go.Det
abbrev BS:Sh:=.pair BI BI
def WA:Ao:=⟨[.str],fun s=>Hg s,[BS],fun s=>((VF s,VV s),(Sn s,SI s)),false⟩
def qE:Ao:=⟨[BS,BS],fun i=>Sp.Du (i.1:AS)&&Sp.Du (i.2:AS),[i64],fun i=>eQ (i.1:AS) (i.2:AS),false⟩
def cIQ:Ao:=⟨[BI,BI],fun i=>MH i.1 i.2,[BI],fun i=>(yT i.1 i.2,zB i.1 i.2),false⟩
def qG:Ao:=⟨[BI,BI],fun i=>MH i.1 i.2,[BS],fun i=>((cI i.1 i.2,iL i.1 i.2),(fR i.1 i.2,cG i.1 i.2)),false⟩
def Oy:Ao:=⟨[BS],fun _=>true,[.bool],fun a=>CJ (a:AS).2,false⟩
def dY:Ao:=⟨[BI],fun _=>true,[BS],fun n=>((n:AR),((1:Int),BB 1)),false⟩
def cF:Ao:=⟨[i64],fun _=>true,[BS],fun n=>(((n:Int),BB n),((1:Int),BB 1)),false⟩
def T7:Ao:=⟨[BS,BS],fun i=>Sp.FC (i.1:AS)&&Sp.FC (i.2:AS),[BS],fun i=>((TX i.1 i.2,TU i.1 i.2),(Ud i.1 i.2,S9 i.1 i.2)),false⟩
def cW:Ao:=⟨[BS,BS],fun i=>Sp.FC (i.1:AS)&&Sp.FC (i.2:AS),[BS],fun i=>((vM i.1 i.2,wG i.1 i.2),(xW i.1 i.2,wB i.1 i.2)),false⟩
def qT:AX:=ZR [(175,[3])] [] [(175,[(3,[2,3,4])])] [(173,IE),(174,TG),(176,Fm),(152,XC),(105,U1),(158,PD),(159,P9),(154,XQ),(150,fA),(153,Om)]
def tD:AX:=ZR [(104,[3,6])] [] [(104,[(3,[2,3,4]),(6,[2,3,4,5])])] [(173,IE),(174,TG),(152,XC),(175,cIQ)]
def vE:AX:=ZR [(80,[3])] [] [(80,[(3,[2,3,4])])] [(156,Oy),(157,dY),(158,PD),(159,P9),(104,qG)]
end Go.Pe
namespace Go.Sp
def LH(a:List UInt8):List UInt8:=if Bm a=true then AM a else[49]
def P2(a:List UInt8)(n:Int):Bool:=decide ((a.length:Int)<=2*n+2)&&decide (AO a=0)&&decide (((A0 (Ax a)).length:Int)<=n)&&decide (((LH a).length:Int)<=n)
def BY(a:List UInt8)(n:Int):Bool:=decide (a.length<=40)&&(decide (AO a≠0)||P2 a n)
end Go.Sp
namespace Go.Pe
open Go.Det
def aL:Ao:=⟨[.str,i64],fun i=>decide (0<=(i.2:Int))&&decide ((i.2:Int)<=1000),[.bool],fun i=>Sp.P2 i.1 i.2,false⟩
def Mb:Ao:=⟨[.str,i64],fun i=>decide (0<=(i.2:Int))&&decide ((i.2:Int)<=1000),[.bool],fun i=>Sp.BY i.1 i.2,false⟩
def Xq:Ao:=⟨[.str],fun s=>decide (s.length<=1000000),[.str],fun s=>Sp.A0 s,false⟩
def fL:Ao:=⟨[.str],fun s=>decide (s.length<=1000000),[.str],fun s=>Sp.Ax s,false⟩
def T1:Ao:=⟨[.str],fun s=>decide (s.length<=1000000),[.str],fun s=>Sp.LH s,false⟩
def zW:AX:=X7 [(89,La)]
def XM3:AX:=X7 [(24,Fa),(100,Xq),(101,fL),(102,T1)]
def XM4:AX:=X7 [(24,Fa),(31,aL)]
end Go.Pe
namespace Go.Sp
def DK(a:List UInt8):Bool:=decide (a.length<=20)&&decide ((Ax (A0 a)).length<=9)&&decide ((AM (A0 a)).length<=9)
def H4(a:List UInt8):Int:=if preB a=true then -Az 0 (Ax (A0 a))else Az 0 (Ax (A0 a))
def RR(a:List UInt8):Int:=if Bm (A0 a)=true then Az 0 (AM (A0 a))else 1
def GL(a:List UInt8):Int:=if a=[48]then 0 else if a.getD 0 0=45 then -1 else 1
def K2(a:List UInt8):List UInt8:=if a=[48]then a else if a.getD 0 0=45 then a.drop 1 else 45::a
def Hm:Nat->Nat->Nat->List UInt8->List UInt8
 |0,_,_,acc=>acc
 |f+1,n,l,acc=>if n=0/\l<=acc.length then acc else Hm f (n/10) l (yo (48+n % 10)::acc)
def HO(n l:Int):List UInt8:=Hm 64 n.toNat l.toNat []
def wA(a b:Int):Bool:=decide (0<=a)&&decide (a<9223372036854775808)&&decide (0<=b)&&decide (b<9223372036854775808)
end Go.Sp
namespace Go.Pe
open Go.Det
def qD:Ao:=⟨[i64,i64],fun i=>Sp.wA i.1 i.2,[i64],fun i=>Sp.gI i.1 i.2,false⟩
def Pv:Ao:=⟨[.str],fun s=>decide (s.length<=1000000),[i64],fun s=>Sp.GL s,false⟩
def Z9:Ao:=⟨[.str],fun s=>decide (s.length<=1000000),[.str],fun s=>Sp.K2 s,false⟩
def PB:Ao:=⟨[i64,i64],fun i=>decide (0<=(i.1:Int))&&decide ((i.1:Int)<9223372036854775808)&&decide (0<=(i.2:Int))&&decide ((i.2:Int)<=20),[.str],fun i=>Sp.HO i.1 i.2,false⟩
def M8:AX:=ZR [(95,[5,7,11,13])] [] [(95,[(5,[5,6]),(7,[5,6]),(11,[5,6,7,8,9]),(13,[6,8,9])])] [(165,Sq),(89,La)]
def XO2:AX:=X7 [(41,Pv)]
end Go.Pe
namespace Go.Sp
open Go.Lib
theorem FE(a d:Nat)(ha:0<a)(hd:d<10):decDigits (10*a+d)=decDigits a++[yo (48+d)]:=by
 rw[decDigits,dif_neg (by omega),show(10*a+d)/10=a from by omega,show(10*a+d) % 10=d from by omega]
theorem iK(a d:Nat)(ha:0<a)(hd:d<10):nDigits (10*a+d)=nDigits a+1:=by
 rw[nDigits_big (by omega),show(10*a+d)/10=a from by omega]
def FZ(k b:Nat):List UInt8:=z8 (k-nDigits b) 48++decDigits b
theorem Qh(k b d:Nat)(hk:1<=k)(hd:d<10):FZ (k+1) (10*b+d)=FZ k b++[yo (48+d)]:=by
 unfold FZ;rcases Nat.eq_zero_or_pos b with rfl|hb
 ·rw[Nat.mul_zero,Nat.zero_add,nDigits_small hd,decDigits_one hd,nDigits_small (by omega),decDigits_one (by omega)];obtain⟨j,rfl⟩:∃j,k=j+1:=⟨k-1,by omega⟩;have e:(48:UInt8)=yo (48+0):=rfl;rw[Nat.add_sub_cancel,Nat.add_sub_cancel, <-e,List.replicate_succ',ye]
 ·rw[iK b d hb hd,FE b d hb hd, <-ye,Nat.add_sub_add_right]
theorem R8:∀(k a b:Nat),1<=k->0<a->b<10^k->decDigits (a*10^k+b)=decDigits a++FZ k b
 |0,_,_,h,_,_=>by omega
 |1,a,b,_,ha,hb=>by
  rw[Nat.pow_one]at*;rw[Nat.mul_comm,FE a b ha hb];unfold FZ;rw[nDigits_small hb,decDigits_one hb];rfl
 |k+2,a,b,_,ha,hb=>by
  have h1:b=10*(b/10)+b % 10:=by omega
  have h2:b/10<10^(k+1):=by
   rw[Nat.pow_succ 10 (k+1)]at hb;omega
  have h3:a*10^(k+2)+b=10*(a*10^(k+1)+b/10)+b % 10:=by
   rw[Nat.pow_succ 10 (k+1), <-Nat.mul_assoc];omega
  have hp:0<a*10^(k+1):=Nat.mul_pos ha (Nat.pow_pos (by omega));have ih:=R8 (k+1) a (b/10) (by omega) ha h2;have hs:=Qh (k+1) (b/10) (b % 10) (by omega) (by omega);rw[h3,FE _ _ (by omega) (by omega),ih,ye, <-hs, <-h1]
def Cf:Nat->Nat->List (List UInt8)
 |0,_=>[]
 |f+1,v=>if v<10^18 then[decDigits v]else FZ 18 (v % 10^18)::Cf f (v/10^18)
theorem ID:∀(f v:Nat),v<f->(Cf f v).reverse.flatten=decDigits v
 |0,_,h=>by omega
 |f+1,v,h=>by
  unfold Cf;split
  ·simp
  ·next c=>
   have hp:1<=v/10^18:=by omega
   have h1:v/10^18<f:=by omega
   have h2:=ID f (v/10^18) h1;rw[List.reverse_cons,List.flatten_append,h2];have h3:=R8 18 (v/10^18) (v % 10^18) (by omega) (by omega) (Nat.mod_lt _ (by decide));rw[show v/10^18*10^18+v % 10^18=v from by omega]at h3;rw[h3];simp
end Go.Sp
namespace Go.Pe
open Sp
open Go.Det
section
open List Int Prod
namespace T87
def T(s:List UInt8):Tr:=tree qT false 9 87 (Af ([zj]) s)
theorem Al(s:List UInt8):T s=let a':=zg (ze zd);let b':=C6 (Ax s);let c':=C3 (Ax s);.ite (sR s [(47:UInt8)]) (.ite (!Bm s) (.ite (Em (Ax s)) (.ite true (.leaf (zq [.dat i64 b',.dat a' c',.dat i64 (1:Int),.dat a' (BB 1)]) ([(zk (zk 0 1) 1,.box [.dat i64 b',.dat a' c',.dat i64 (1:Int),.dat a' (BB 1)]),(zk 0 1,.box [.dat i64 b',.dat a' c']),(0,.box [.dat i64 b',.dat a' c',.dat i64 (1:Int),.dat a' (BB 1)])])) .fail) .fail) (.ite (Em (Ax s)) (.ite (Em (Sp.AM s)) (.leaf (zq [.dat i64 b',.dat a' c',.dat i64 (C6 (Sp.AM s)),.dat a' (C3 (Sp.AM s))]) ([(0,.box [.dat i64 b',.dat a' c',.dat i64 (C6 (Sp.AM s)),.dat a' (C3 (Sp.AM s))])])) .fail) .fail)) .fail:=by kernel_rfl
end T87
namespace T175
def T(a b:Int×List Int):Tr:=tree qT false 9 175 (Af ([zo i64 (zg (ze zd)),zo i64 (zg (ze zd))]) (a,b))
def L1(o2 o1:Int)(o1_1:List Int)(o0:Int)(o0_1:List Int):Tr:=re ((T (0,[]) (0,[])).L.L.L.L) (AA 21 [(2,.ptr 0 0),(3,.ptr 1 0),(4,.ptr 2 0)] [(2,.box [.dat i64 o2,.nil]),(1,.box [.dat i64 o1,.dat (zg (ze zd)) o1_1]),(0,.box [.dat i64 o0,.dat (zg (ze zd)) o0_1])] 3)
theorem Al(a b:Int×List Int):T a b=.ite (Dh (fst b,snd b)) (.ite (decide (EI (fst b,snd b)<0)) (.ite (Dh (fst a,snd a)) (.ite (Dh (fst b,snd b)) (L1 0 (Fv (fst b,snd b)) (Ft (fst b,snd b)) (Fv (fst a,snd a)) (Ft (fst a,snd a))) .fail) .fail) (L1 0 (fst b) (snd b) (fst a) (snd a))) .fail:=by kernel_rfl
theorem An(o2 o1:Int)(o1_1:List Int)(o0:Int)(o0_1:List Int):stepT qT (L1 o2 o1 o1_1 o0 o0_1)=let a':=zg (ze zd);let b':=bJ (o0,o0_1) (o1,o1_1);let c':=fY (o0,o0_1) (o1,o1_1);.ite (A4 (o0,o0_1)&&A4 (o1,o1_1)&&decide (0<yu (o1,o1_1))) (.leaf (zq [.dat i64 b',.dat a' c']) ([(zk 3 1,.box [.dat i64 (Iv (o0,o0_1) (o1,o1_1)),.dat a' (HS (o0,o0_1) (o1,o1_1))]),(3,.box [.dat i64 b',.dat a' c']),(2,.box [.dat i64 b',.dat a' c']),(1,.box [.dat i64 o1,.dat a' o1_1]),(0,.box [.dat i64 o0,.dat a' o0_1])])) .fail:=by kernel_rfl
end T175
namespace T104
def T(n d:Int×List Int):Tr:=tree tD false 9 104 (Af ([zo i64 (zg (ze zd)),zo i64 (zg (ze zd))]) (n,d))
def L1(o2 o2_1 o1:Int)(o1_1:List Int)(o0:Int)(o0_1:List Int):Tr:=re ((T (0,[]) (0,[])).L.L.L.L) (AA 34 [(2,.ptr 0 0),(3,.ptr 1 0),(4,.ptr 2 0)] [(2,.box [.dat i64 o2,.nil,.dat i64 o2_1,.nil]),(1,.box [.dat i64 o1,.dat (zg (ze zd)) o1_1]),(0,.box [.dat i64 o0,.dat (zg (ze zd)) o0_1])] 3)
theorem Al(n d:Int×List Int):T n d=.ite (Dh (fst d,snd d)) (.ite (decide (EI (fst d,snd d)<0)) (.ite (Dh (fst n,snd n)) (.ite (Dh (fst d,snd d)) (L1 0 0 (Fv (fst d,snd d)) (Ft (fst d,snd d)) (Fv (fst n,snd n)) (Ft (fst n,snd n))) .fail) .fail) (L1 0 0 (fst d) (snd d) (fst n) (snd n))) .fail:=by kernel_rfl
def L2(o3:Int)(o3_1:List Int)(o2 o2_1 o1:Int)(o1_1:List Int)(o0:Int)(o0_1:List Int):Tr:=re ((stepT tD (L1 0 0 0 [] 0 [])).L.R.L) (AA 34 [(2,.ptr 0 0),(3,.ptr 1 0),(4,.ptr 2 0),(5,.ptr 3 0)] [(3,.box [.dat i64 o3,.dat (zg (ze zd)) o3_1]),(2,.box [.dat i64 o2,.nil,.dat i64 o2_1,.nil]),(1,.box [.dat i64 o1,.dat (zg (ze zd)) o1_1]),(0,.box [.dat i64 o0,.dat (zg (ze zd)) o0_1])] 4)
theorem An(o2 o2_1 o1:Int)(o1_1:List Int)(o0:Int)(o0_1:List Int):stepT tD (L1 o2 o2_1 o1 o1_1 o0 o0_1)=let a':=zg (ze zd);let b':Tr:=.ite (A4 (o0,o0_1)&&A4 (o1,o1_1)) (L2 (Mi (o0,o0_1) (o1,o1_1)) (Mw (o0,o0_1) (o1,o1_1)) o2 o2_1 o1 o1_1 o0 o0_1) .fail;.ite (!decide (0<length o1_1)) (.ite (o1==1) (.leaf (zq [.dat i64 o0,.dat a' o0_1,.dat i64 o1,.dat a' o1_1]) ([(2,.box [.dat i64 o0,.dat a' o0_1,.dat i64 o1,.dat a' o1_1]),(1,.box [.dat i64 o1,.dat a' o1_1]),(0,.box [.dat i64 o0,.dat a' o0_1])])) b') b':=by kernel_rfl
theorem AZ(o3:Int)(o3_1:List Int)(o2 o2_1 o1:Int)(o1_1:List Int)(o0:Int)(o0_1:List Int):stepT tD (L2 o3 o3_1 o2 o2_1 o1 o1_1 o0 o0_1)=let a':=zg (ze zd);let b':=yT (o0,o0_1) (o3,o3_1);let c':=zB (o0,o0_1) (o3,o3_1);let d':=yT (o1,o1_1) (o3,o3_1);let e':=zB (o1,o1_1) (o3,o3_1);.ite (MH (o0,o0_1) (o3,o3_1)) (.ite (MH (o1,o1_1) (o3,o3_1)) (.leaf (zq [.dat i64 b',.dat a' c',.dat i64 d',.dat a' e']) ([(3,.box [.dat i64 o3,.dat a' o3_1]),(2,.box [.dat i64 b',.dat a' c',.dat i64 d',.dat a' e']),(1,.box [.dat i64 o1,.dat a' o1_1]),(0,.box [.dat i64 o0,.dat a' o0_1])])) .fail) .fail:=by kernel_rfl
end T104
namespace T156
def T(a:(Int×List Int)×Int×List Int):Tr:=tree qT false 9 156 (Af ([zo (zo i64 (zg (ze zd))) (zo i64 (zg (ze zd)))]) a)
theorem Al(a:(Int×List Int)×Int×List Int):T a=let b':=zg (ze zd);let a':=[(0,.box [.dat i64 (fst (fst a)),.dat b' (snd (fst a)),.dat i64 (fst (snd a)),.dat b' (snd (snd a))])];.ite (!decide (0<length (snd (snd a)))) (.leaf (.dat zh (fst (snd a)==1)) a') (.leaf (.bl false) a'):=by kernel_rfl
end T156
namespace T157
def T(n:Int×List Int):Tr:=tree qT false 9 157 (Af ([zo i64 (zg (ze zd))]) n)
theorem Al(n:Int×List Int):T n=let a':=zg (ze zd);.ite true (.leaf (zq [.dat i64 (fst n),.dat a' (snd n),.dat i64 (1:Int),.dat a' (BB 1)]) ([(zk 0 1,.box [.dat i64 (fst n),.dat a' (snd n),.dat i64 (1:Int),.dat a' (BB 1)]),(0,.box [.dat i64 (fst n),.dat a' (snd n)])])) .fail:=by kernel_rfl
end T157
namespace T80
def T(a:(Int×List Int)×Int×List Int)(b:(Int×List Int)×Int×List Int):Tr:=tree vE false 9 80 (Af ([zo (zo i64 (zg (ze zd))) (zo i64 (zg (ze zd))),zo (zo i64 (zg (ze zd))) (zo i64 (zg (ze zd)))]) (a,b))
def L1(o2 o2_1 o1:Int)(o1_1:List Int)(o1_2:Int)(o1_3:List Int)(o0:Int)(o0_1:List Int)(o0_2:Int)(o0_3:List Int):Tr:=re ((T ((0,[]),(0,[])) ((0,[]),(0,[]))).L.L.L.R) (AA 34 [(2,.ptr 0 0),(3,.ptr 1 0),(4,.ptr 2 0)] [(2,.box [.dat i64 o2,.nil,.dat i64 o2_1,.nil]),(1,.box [.dat i64 o1,.dat (zg (ze zd)) o1_1,.dat i64 o1_2,.dat (zg (ze zd)) o1_3]),(0,.box [.dat i64 o0,.dat (zg (ze zd)) o0_1,.dat i64 o0_2,.dat (zg (ze zd)) o0_3])] 3)
theorem Al(a:(Int×List Int)×Int×List Int)(b:(Int×List Int)×Int×List Int):T a b=let a':=zg (ze zd);let b':=L1 0 0 (fst (fst b)) (snd (fst b)) (fst (snd b)) (snd (snd b)) (fst (fst a)) (snd (fst a)) (fst (snd a)) (snd (snd a));let c':=(fst (fst a),snd (fst a));let d':=(fst (fst b),snd (fst b));.ite true (.ite (CJ (fst (snd a),snd (snd a))) (.ite true (.ite (CJ (fst (snd b),snd (snd b))) (.ite (A4 c'&&A4 d') (.ite true (.leaf (zq [.dat i64 (Ig c' d'),.dat a' (Ik c' d'),.dat i64 (1:Int),.dat a' (BB 1)]) ([(zk (zk 0 1) 1,.box [.dat i64 (Ig c' d'),.dat a' (Ik c' d'),.dat i64 (1:Int),.dat a' (BB 1)]),(zk 0 1,.box [.dat i64 (fst (fst b)),.dat a' (snd (fst b)),.dat i64 (fst (snd b)),.dat a' (snd (snd b))]),(0,.box [.dat i64 (fst (fst a)),.dat a' (snd (fst a)),.dat i64 (fst (snd a)),.dat a' (snd (snd a))])])) .fail) .fail) b') .fail) b') .fail:=by kernel_rfl
theorem An(o2 o2_1 o1:Int)(o1_1:List Int)(o1_2:Int)(o1_3:List Int)(o0:Int)(o0_1:List Int)(o0_2:Int)(o0_3:List Int):stepT vE (L1 o2 o2_1 o1 o1_1 o1_2 o1_3 o0 o0_1 o0_2 o0_3)=let b':=(EL (o0_2,o0_3) (o1_2,o1_3),EV (o0_2,o0_3) (o1_2,o1_3));let c':=zg (ze zd);let d':=(EL (o0,o0_1) (o1_2,o1_3),EV (o0,o0_1) (o1_2,o1_3));let e':=(EL (o1,o1_1) (o0_2,o0_3),EV (o1,o1_1) (o0_2,o0_3));let a':=(Ig d' e',Ik d' e');.ite (A4 (o0,o0_1)&&A4 (o1_2,o1_3)) (.ite (A4 (o1,o1_1)&&A4 (o0_2,o0_3)) (.ite (A4 d'&&A4 e') (.ite (A4 (o0_2,o0_3)&&A4 (o1_2,o1_3)) (.ite (MH a' b') (.leaf (zq [.dat i64 (cI a' b'),.dat c' (iL a' b'),.dat i64 (fR a' b'),.dat c' (cG a' b')]) ([(2,.box [.dat i64 (cI a' b'),.dat c' (iL a' b'),.dat i64 (fR a' b'),.dat c' (cG a' b')]),(1,.box [.dat i64 o1,.dat c' o1_1,.dat i64 o1_2,.dat c' o1_3]),(0,.box [.dat i64 o0,.dat c' o0_1,.dat i64 o0_2,.dat c' o0_3])])) .fail) .fail) .fail) .fail) .fail:=by kernel_rfl
end T80
namespace T82
def T(a:(Int×List Int)×Int×List Int)(b:(Int×List Int)×Int×List Int):Tr:=tree vE false 9 82 (Af ([zo (zo i64 (zg (ze zd))) (zo i64 (zg (ze zd))),zo (zo i64 (zg (ze zd))) (zo i64 (zg (ze zd)))]) (a,b))
theorem Al(a:(Int×List Int)×Int×List Int)(b:(Int×List Int)×Int×List Int):T a b=let c':=zg (ze zd);let d':=(fst (fst a),snd (fst a));let e':=(fst (fst b),snd (fst b));let f':=(fst (snd a),snd (snd a));let g':=(fst (snd b),snd (snd b));let a':=(EL d' e',EV d' e');let b':=(EL f' g',EV f' g');.ite (A4 d'&&A4 e') (.ite (A4 f'&&A4 g') (.ite (MH a' b') (.leaf (zq [.dat i64 (cI a' b'),.dat c' (iL a' b'),.dat i64 (fR a' b'),.dat c' (cG a' b')]) ([(zk (zk 0 1) 1,.box [.dat i64 (cI a' b'),.dat c' (iL a' b'),.dat i64 (fR a' b'),.dat c' (cG a' b')]),(zk 0 1,.box [.dat i64 (fst (fst b)),.dat c' (snd (fst b)),.dat i64 (fst (snd b)),.dat c' (snd (snd b))]),(0,.box [.dat i64 (fst (fst a)),.dat c' (snd (fst a)),.dat i64 (fst (snd a)),.dat c' (snd (snd a))])])) .fail) .fail) .fail:=by kernel_rfl
end T82
namespace T88
def T(a:(Int×List Int)×Int×List Int)(b:(Int×List Int)×Int×List Int):Tr:=tree qT false 9 88 (Af ([zo (zo i64 (zg (ze zd))) (zo i64 (zg (ze zd))),zo (zo i64 (zg (ze zd))) (zo i64 (zg (ze zd)))]) (a,b))
theorem Al(a:(Int×List Int)×Int×List Int)(b:(Int×List Int)×Int×List Int):T a b=let c':=zg (ze zd);let d':=(fst (fst a),snd (fst a));let e':=(fst (snd b),snd (snd b));let f':=(fst (fst b),snd (fst b));let g':=(fst (snd a),snd (snd a));let a':=(EL d' e',EV d' e');let b':=(EL f' g',EV f' g');.ite (A4 d'&&A4 e') (.ite (A4 f'&&A4 g') (.ite (A4 a'&&A4 b') (.leaf (.dat i64 (Nr a' b')) ([(zk 0 1,.box [.dat i64 (fst (fst b)),.dat c' (snd (fst b)),.dat i64 (fst (snd b)),.dat c' (snd (snd b))]),(0,.box [.dat i64 (fst (fst a)),.dat c' (snd (fst a)),.dat i64 (fst (snd a)),.dat c' (snd (snd a))])])) .fail) .fail) .fail:=by kernel_rfl
end T88
namespace T89
def T(s:List UInt8):Tr:=tree MS false 9 89 (Af ([zj]) s)
def L1(v0:List UInt8)(v3:Int):Tr:=re ((T [])) (AA 17 [(0,.dat zj v0),(3,.dat i64 v3)] [] 0)
theorem Al(s:List UInt8):T s=L1 s 0:=by kernel_rfl
theorem An(v0:List UInt8)(v3:Int):stepT MS (L1 v0 v3)=let a':=(length v0:Int);.ite (decide (v3<a')) (.ite (decide (0<=v3)&&decide (v3<a')) (.ite ((↑(zi (getD v0 (toNat v3) (0:UInt8))):Int)==47) (.leaf (.dat i64 v3) []) (L1 v0 (zc .i64 (v3+1)))) .fail) (.leaf (.dat i64 a') []):=by kernel_rfl
end T89
namespace T90
def T(s:List UInt8):Tr:=tree MS false 9 90 (Af ([zj]) s)
def L1(s v0:List UInt8)(v3:Int):Tr:=re ((T s).R.L.L.R) (AA 20 [(0,.dat zj v0),(3,.dat i64 v3)] [] 0)
def L2(s v0:List UInt8)(v3:Int):Tr:=re ((T s).R.R) (AA 20 [(0,.dat zj v0),(3,.dat i64 v3)] [] 0)
theorem Al(s:List UInt8):T s=let a':=(length s:Int);.ite (a'==0) (.leaf (.bl false) []) (.ite (decide (a'>1)) (.ite (decide (0<a')) (.ite ((↑(zi (getD s 0 (0:UInt8))):Int)==48) (.leaf (.bl false) []) (L1 s s 0)) .fail) (L2 s s 0)):=by kernel_rfl
theorem An(s v0:List UInt8)(v3:Int):stepT MS (L1 s v0 v3)=let a':=decide (v3<(length v0:Int));let b':=(↑(zi (getD v0 (toNat v3) (0:UInt8))):Int);.ite (a') (.ite (decide (0<=v3)&&a') (.ite (decide (b'<48)) (.leaf (.bl false) []) (.ite (decide (0<=v3)&&a') (.ite (decide (b'>57)) (.leaf (.bl false) []) (L1 s v0 (zc .i64 (v3+1)))) .fail)) .fail) (.leaf (.bl true) []):=by kernel_rfl
theorem AZ(s v0:List UInt8)(v3:Int):stepT MS (L2 s v0 v3)=let a':=decide (v3<(length v0:Int));let b':=(↑(zi (getD v0 (toNat v3) (0:UInt8))):Int);.ite (a') (.ite (decide (0<=v3)&&a') (.ite (decide (b'<48)) (.leaf (.bl false) []) (.ite (decide (0<=v3)&&a') (.ite (decide (b'>57)) (.leaf (.bl false) []) (L2 s v0 (zc .i64 (v3+1)))) .fail)) .fail) (.leaf (.bl true) []):=by kernel_rfl
end T90
namespace T107
def T(n:Int):Tr:=tree qR false 9 107 (Af ([ze yg]) n)
def L1(v0:Int)(v4:Bool):Tr:=re ((T 0)) (AA 25 [(0,.dat i64 v0),(2,.ptr 0 0),(3,.nil),(4,.dat zh v4)] [(0,.box [.bl false,.nil])] 1)
theorem Al(n:Int):T n=L1 n (decide (n<0)):=by kernel_rfl
def L2(v0:Int)(v3n:Nat)(v4:Bool)(o1:List Int):Tr:=re ((stepT qR (L1 0 false)).L.L.L.L.L) (AA 25 [(0,.dat i64 v0),(2,.ptr 0 0),(3,.sl 1 1 0 v3n none),(4,.dat zh v4)] [(1,.arr false 3 i64 o1),(0,.box [.bl false,.nil])] 2)
theorem An(v0:Int)(v4:Bool):stepT qR (L1 v0 v4)=let a':=decide (1<=1)&&decide (0<1)&&decide ((2*1+1000)*8<=281474976710656);let b':=zc .i64 (yh v0 1000000000);.ite (v0 !=0) (.ite true (.ite (decide (z7 v0 1000000000<0)) (.ite a' (.ite true (L2 b' 1 v4 ([zc .i64 (0-z7 v0 1000000000)])) .fail) .fail) (.ite a' (.ite true (L2 b' 1 v4 ([z7 v0 1000000000])) .fail) .fail)) .fail) (.ite (decide (0<=20000)) (.leaf (zq [.dat zh (Sp.B6 v4 []),.dat (zf i64) (Sp.Au [])]) ([(0,.box [.dat zh (Sp.B6 v4 []),.dat (zf i64) (Sp.Au [])])])) .fail):=by kernel_rfl
theorem AZ(v0:Int)(v3n:Nat)(v4:Bool)(o1:List Int):stepT qR (L2 v0 v3n v4 o1)=let a':=decide (1<=1)&&true&&decide (v3n=length o1)&&decide ((2*(v3n+1)+1000)*8<=281474976710656);let b':=zc .i64 (yh v0 1000000000);let c':=Sp.B6 v4 (take v3n o1);let d':=Sp.Au (take v3n o1);.ite (v0 !=0) (.ite true (.ite (decide (z7 v0 1000000000<0)) (.ite a' (.ite true (L2 b' (zk v3n 1) v4 (o1++[zc .i64 (0-z7 v0 1000000000)])) .fail) .fail) (.ite a' (.ite true (L2 b' (zk v3n 1) v4 (o1++[z7 v0 1000000000])) .fail) .fail)) .fail) (.ite (decide (0+v3n<=length o1)&&true&&decide (length (take v3n o1)<=20000)) (.leaf (zq [.dat zh c',.dat (zf i64) d']) ([(1,.arr true 3 i64 o1),(0,.box [.dat zh c',.dat (zf i64) d'])])) .fail):=by kernel_rfl
end T107
namespace T91
def T(a:List UInt8):Tr:=tree XK3 false 9 91 (Af ([zj]) a)
theorem Al(a:List UInt8):T a=let b':=take (toNat (AU a)) a;let c':=zc .i64 (AU a+1);let a':=take (zt (length a) (toNat c')) (drop (toNat c') a);.ite (decide (length a<=1000000)) (.ite (AU a==(length a:Int)) (.ite (Em a) (.ite true (.leaf (.tup [zq [.dat zh (EY a),.dat (zf i64) (E2 a)],zq [.dat zh false,.dat (zf i64) (Sp.rW 1)]]) ([(zk 0 1,.box [.dat zh false,.dat (zf i64) (Sp.rW 1)]),(0,.box [.dat zh (EY a),.dat (zf i64) (E2 a)])])) .fail) .fail) (.ite (decide (0<=AU a)&&decide (0<=toNat (AU a))&&decide (toNat (AU a)<=length a)) (.ite (decide (0<=zc .i64 (AU a+1))&&true&&decide (toNat c'<=length a)&&decide (length a<=length a)) (.ite (Em b') (.ite (Em a') (.leaf (.tup [zq [.dat zh (EY b'),.dat (zf i64) (E2 b')],zq [.dat zh (EY a'),.dat (zf i64) (E2 a')]]) ([(zk 0 1,.box [.dat zh (EY a'),.dat (zf i64) (E2 a')]),(0,.box [.dat zh (EY b'),.dat (zf i64) (E2 b')])])) .fail) .fail) .fail) .fail)) .fail:=by kernel_rfl
end T91
namespace T24
def T(a:List UInt8):Tr:=tree Uz false 9 24 (Af ([zj]) a)
def L1(v0 v3:List UInt8):Tr:=re ((T []).L.L.L.L) (AA 96 [(0,.dat zj v0),(3,.dat zj v3)] [] 0)
theorem Al(a:List UInt8):T a=.ite (decide ((length a:Int)>0)) (.ite (decide (0<(length a:Int))) (.ite ((↑(zi (getD a 0 (0:UInt8))):Int)==45) (.ite (decide (1<=length a)&&decide (length a<=length a)) (L1 a (take (zt (length a) 1) (drop 1 a))) .fail) (L1 a a)) .fail) (L1 a a):=by kernel_rfl
def L2(v3:List UInt8)(v4:Int):Tr:=re ((stepT Uz (L1 [] [])).L.L.L.R.L.L.L.R) (AA 96 [(3,.dat zj v3),(4,.dat i64 v4)] [] 0)
theorem An(v0 v3:List UInt8):stepT Uz (L1 v0 v3)=let b':=AU v3;let c':Tr:=.leaf (.dat i64 (1:Int)) [];let a':=decide (0<=AU v3)&&decide (0<=toNat b')&&decide (toNat b'<=length v3);.ite (decide (length v3<=1000000)) (.ite a' (.ite (decide (length (take (toNat b') v3)<=1000000)) (.ite (!AW (take (toNat b') v3)) c' (.ite (decide (0<(length v0:Int))) (.ite ((↑(zi (getD v0 0 (0:UInt8))):Int)==45) (.ite a' (.ite (take (toNat b') v3==[(48:UInt8)]) c' (L2 v3 b')) .fail) (L2 v3 b')) .fail)) .fail) .fail) .fail:=by kernel_rfl
def L3(v3:List UInt8)(v4:Int):Tr:=re ((stepT Uz (L2 [] 0)).L.L.L.R.L.R.L.R) (AA 96 [(3,.dat zj v3),(4,.dat i64 v4)] [] 0)
theorem AZ(v3:List UInt8)(v4:Int):stepT Uz (L2 v3 v4)=let d':Tr:=.leaf (.dat i64 (1:Int)) [];let e':=zc .i64 (v4+1);let a':=decide (0<=zc .i64 (v4+1))&&true&&decide (toNat e'<=length v3)&&decide (length v3<=length v3);let b':=toNat e';let c':=zt (length v3) b';.ite (decide (v4<(length v3:Int))) (.ite a' (.ite (decide (length (take c' (drop b' v3))<=1000000)) (.ite (!AW (take c' (drop b' v3))) d' (.ite a' (.ite (take c' (drop b' v3)==[(48:UInt8)]) d' (.ite a' (.ite (take c' (drop b' v3)==[(49:UInt8)]) d' (L3 v3 v4)) .fail)) .fail)) .fail) .fail) (L3 v3 v4):=by kernel_rfl
def L4(v3:List UInt8)(v4:Int):Tr:=re ((stepT Uz (L3 [] 0)).R.R) (AA 96 [(3,.dat zj v3),(4,.dat i64 v4)] [] 0)
theorem CU(v3:List UInt8)(v4:Int):stepT Uz (L3 v3 v4)=let a':Tr:=.leaf (.dat i64 (4:Int)) [];.ite (decide (v4>600)) a' (.ite (decide (zc .i64 (zc .i64 ((length v3:Int)-v4)-1)>600)) a' (L4 v3 v4)):=by kernel_rfl
def L5(o1:Bool)(o1_1:List Int)(o0:Bool)(o0_1:List Int):Tr:=re ((stepT Uz (L4 [] 0)).L.L) (AA 96 [(5,.ptr 0 0),(6,.ptr 1 0)] [(1,.box [.dat zh o1,.dat (zf i64) o1_1]),(0,.box [.dat zh o0,.dat (zf i64) o0_1])] 2)
theorem Ct(v3:List UInt8)(v4:Int):stepT Uz (L4 v3 v4)=.ite (decide (v4<(length v3:Int))) (.ite (Hg v3) (L5 (Bi v3) (Be v3) (Bz v3) (Br v3)) .fail) (.leaf (.dat i64 (0:Int)) []):=by kernel_rfl
def L6(v7:List Int):Tr:=re ((stepT Uz (L5 false [] false [])).L) (AA 96 [(7,.dat (zf i64) v7)] [] 0)
theorem Ei(o1:Bool)(o1_1:List Int)(o0:Bool)(o0_1:List Int):stepT Uz (L5 o1 o1_1 o0 o0_1)=.ite (A5 o0_1&&A5 o1_1&&decide (length o0_1<=9000)&&decide (length o1_1<=9000)) (L6 (Ci o0_1 o1_1)) .fail:=by kernel_rfl
theorem Eo(v7:List Int):stepT Uz (L6 v7)=let a':Tr:=.leaf (.dat i64 (1:Int)) [];.ite ((length v7:Int) !=1) a' (.ite (decide (0<(length v7:Int))) (.ite (getD v7 0 0 !=1) a' (.leaf (.dat i64 (0:Int)) [])) .fail):=by kernel_rfl
end T24
namespace T83
def T(l:List Int):Tr:=tree MS false 9 83 (Af ([zf i64]) l)
def L1(v5:List Int)(v6 v7:Int):Tr:=re ((T [])) (AA 15 [(5,.dat (zf i64) v5),(6,.dat i64 v6),(7,.dat i64 v7)] [] 0)
theorem Al(l:List Int):T l=L1 l ((length l:Int)) 0:=by kernel_rfl
theorem An(v5:List Int)(v6 v7:Int):stepT MS (L1 v5 v6 v7)=.ite (decide (v7<v6)) (.ite (decide (0<=v7)&&decide (v7<(length v5:Int))) (.ite (getD v5 (toNat v7) 0 !=0) (.leaf (.dat i64 (getD v5 (toNat v7) 0)) []) (L1 v5 v6 (zc .i64 (v7+1)))) .fail) (.leaf (.dat i64 (0:Int)) []):=by kernel_rfl
end T83
namespace T85
def T(b:Bool)(e:Int):Tr:=tree MS false 9 85 (Af ([zh,ze yg]) (b,e))
theorem Al(b:Bool)(e:Int):T b e=.ite b (.leaf (.dat i64 e) []) (.leaf (.dat i64 (0:Int)) []):=by kernel_rfl
end T85
namespace T77
def T(a:List UInt8):Tr:=tree LF false 9 77 (Af ([zj]) a)
def L1(v5 v6:List UInt8)(v7:Bool):Tr:=re ((T []).L.L.L.L.L) (AA 76 [(5,.dat zj v5),(6,.dat zj v6),(7,.dat zh v7),(8,.bl true)] [] 0)
def L2(v5 v6:List UInt8)(v7 v8:Bool):Tr:=re ((T []).L.L.L.L.R) (AA 76 [(5,.dat zj v5),(6,.dat zj v6),(7,.dat zh v7),(8,.dat zh v8)] [] 0)
def L3(v5 v6:List UInt8)(v7:Bool):Tr:=re ((T []).L.L.L.R) (AA 76 [(5,.dat zj v5),(6,.dat zj v6),(7,.dat zh v7),(8,.bl false)] [] 0)
theorem Al(a:List UInt8):T a=let a':=Ax (A0 a);let b':=Sp.AM (A0 a);let c':=Bm (A0 a);.ite (Rn a [(45:UInt8)]) (.ite (sR (A0 a) [(47:UInt8)]) (.ite (decide (length a'<=1000000)) (.ite (AW a') (.ite (!Sp.preB a) (L1 a' b' c') (L2 a' b' c' (!Ax (A0 a)==[(48:UInt8)]))) (L3 a' b' c')) .fail) .fail) .fail:=by kernel_rfl
def L4(v5 v6:List UInt8)(v7 v8:Bool):Tr:=re ((stepT LF (L1 [] [] false)).L.L.L.L) (AA 76 [(5,.dat zj v5),(6,.dat zj v6),(7,.dat zh v7),(8,.dat zh v8)] [] 0)
def L5(v5 v6:List UInt8)(v7:Bool):Tr:=re ((stepT LF (L1 [] [] false)).L.L.L.R) (AA 76 [(5,.dat zj v5),(6,.dat zj v6),(7,.dat zh v7),(8,.bl false)] [] 0)
def L6(v5 v6:List UInt8)(v7:Bool):Tr:=re ((stepT LF (L1 [] [] false)).R) (AA 76 [(5,.dat zj v5),(6,.dat zj v6),(7,.dat zh v7),(8,.bl true)] [] 0)
theorem An(v5 v6:List UInt8)(v7:Bool):stepT LF (L1 v5 v6 v7)=.ite v7 (.ite (decide (length v6<=1000000)) (.ite (AW v6) (.ite (!v6==[(48:UInt8)]) (L4 v5 v6 v7 (!v6==[(49:UInt8)])) (L5 v5 v6 v7)) (L5 v5 v6 v7)) .fail) (L6 v5 v6 v7):=by kernel_rfl
theorem AZ(v5 v6:List UInt8)(v7 v8:Bool):stepT LF (L2 v5 v6 v7 v8)=.ite v7 (.ite v8 (.ite (decide (length v6<=1000000)) (.ite (AW v6) (.ite (!v6==[(48:UInt8)]) (L4 v5 v6 v7 (!v6==[(49:UInt8)])) (L5 v5 v6 v7)) (L5 v5 v6 v7)) .fail) (L5 v5 v6 v7)) (L4 v5 v6 v7 v8):=by kernel_rfl
theorem CU(v5 v6:List UInt8)(v7:Bool):stepT LF (L3 v5 v6 v7)=.ite v7 (L5 v5 v6 v7) (L5 v5 v6 v7):=by kernel_rfl
def L7(v5 v6:List UInt8)(v7:Bool)(v9:Int):Tr:=re ((stepT LF (L4 [] [] false false)).L.L.L.L) (AA 76 [(5,.dat zj v5),(6,.dat zj v6),(7,.dat zh v7),(9,.dat i64 v9)] [] 0)
theorem Ct(v5 v6:List UInt8)(v7 v8:Bool):stepT LF (L4 v5 v6 v7 v8)=let a':=decide (2<=2)&&true&&decide (2<=1000000);.ite true (.ite (decide ((length v5:Int)>600)) (.ite true (.ite a' (L7 v5 v6 v7 (yp [Dl (!v8) 1,Dl true 4])) .fail) .fail) (.ite true (.ite a' (L7 v5 v6 v7 (yp [Dl (!v8) 1,Dl (decide ((length v6:Int)>600)) 4])) .fail) .fail)) .fail:=by kernel_rfl
theorem Ei(v5 v6:List UInt8)(v7:Bool):stepT LF (L5 v5 v6 v7)=.ite true (.ite (decide ((length v5:Int)>600)) (.ite true (.ite true (L7 v5 v6 v7 (yp [Dl true 1,Dl true 4])) .fail) .fail) (.ite true (.ite (decide (2<=2)&&true&&decide (2<=1000000)) (L7 v5 v6 v7 (yp [Dl true 1,Dl (decide ((length v6:Int)>600)) 4])) .fail) .fail)) .fail:=by kernel_rfl
theorem Eo(v5 v6:List UInt8)(v7:Bool):stepT LF (L6 v5 v6 v7)=.ite true (.ite (decide ((length v5:Int)>600)) (.ite true (.ite true (L7 v5 v6 v7 (yp [Dl false 1,Dl true 4])) .fail) .fail) (.ite true (.ite (decide (2<=2)&&true&&decide (2<=1000000)) (L7 v5 v6 v7 (yp [Dl false 1,Dl (decide ((length v6:Int)>600)) 4])) .fail) .fail)) .fail:=by kernel_rfl
def L8(v5 v6:List UInt8)(v7:Bool):Tr:=re ((stepT LF (L7 [] [] false 0)).R) (AA 76 [(5,.dat zj v5),(6,.dat zj v6),(7,.dat zh v7)] [] 0)
theorem ES(v5 v6:List UInt8)(v7:Bool)(v9:Int):stepT LF (L7 v5 v6 v7 v9)=.ite (v9 !=0) (.leaf (.dat i64 v9) []) (L8 v5 v6 v7):=by kernel_rfl
def L9(v10:Bool):Tr:=re ((stepT LF (L8 [] [] false)).L.L.L.L.L.L) (AA 76 [(10,.dat zh v10)] [] 0)
def L10:Tr:=re ((stepT LF (L8 [] [] false)).R) (AA 76 [(10,.bl false)] [] 0)
theorem HL(v5 v6:List UInt8)(v7:Bool):stepT LF (L8 v5 v6 v7)=let a':=(Mi (C6 v5,C3 v5) (C6 v6,C3 v6),Mw (C6 v5,C3 v5) (C6 v6,C3 v6));.ite v7 (.ite (Em v5) (.ite (Em v6) (.ite (A4 (C6 v5,C3 v5)&&A4 (C6 v6,C3 v6)) (.ite true (.ite (A4 a'&&A4 (1,BB 1)) (L9 (Nr a' (1,BB 1) !=0)) .fail) .fail) .fail) .fail) .fail) L10:=by kernel_rfl
theorem XW(v10:Bool):stepT LF (L9 v10)=.ite true (.leaf (.dat i64 (Dl v10 1)) []) .fail:=by kernel_rfl
theorem rV:stepT LF L10=.ite true (.leaf (.dat i64 (Dl false 1)) []) .fail:=by kernel_rfl
end T77
namespace T153
def T(s:List UInt8):Tr:=tree PY false 9 153 (Af ([zj]) s)
def L1(v0:List UInt8)(v3:Bool)(o1 o0:Int):Tr:=re ((T []).L.L.L.L.L.L) (AA 41 [(0,.dat zj v0),(2,.ptr 0 0),(3,.dat zh v3),(4,.ptr 1 0)] [(1,.box [.dat i64 o1,.nil]),(0,.box [.dat i64 o0,.nil])] 2)
def L2(v0:List UInt8)(o1 o0:Int):Tr:=re ((T []).R.L.L.L.L) (AA 41 [(0,.dat zj v0),(2,.ptr 0 0),(3,.bl false),(4,.ptr 1 0)] [(1,.box [.dat i64 o1,.nil]),(0,.box [.dat i64 o0,.nil])] 2)
theorem Al(s:List UInt8):T s=let a':=take 1 s==[(45:UInt8)];let b':=decide ((length s:Int)>=1);let c':=decide (1<=length s)&&decide (length s<=length s);let d':=decide (1<=length s);let e':=take (zt (length s) 1) (drop 1 s);.ite b' (.ite d' (.ite b' (.ite d' (.ite a' (.ite c' (L1 e' a' 0 0) .fail) (L1 s a' 0 0)) .fail) (L1 s a' 0 0)) .fail) (.ite b' (.ite d' (.ite a' (.ite c' (L2 e' 0 0) .fail) (L2 s 0 0)) .fail) (L2 s 0 0)):=by kernel_rfl
def L3(v0:List UInt8)(v3:Bool)(o1 o0:Int)(v5:List UInt8)(v6:Int)(v47n:Nat)(v48 v49:Int)(o2:List Int)(o1':Int)(o0':Int):Tr:=re ((stepT PY (L1 v0 v3 o1 o0)).L.L.L.L.L.L.L.R) (AA 77 [(5,.dat zj v5),(6,.dat i64 v6),(47,.sl 2 1 0 v47n none),(48,.dat i64 v48),(49,.dat i64 v49)] [(2,.arr false 5 (ze z6) o2),(1,.box [.dat i64 o1',.nil]),(0,.box [.dat i64 o0',.nil])] 3)
theorem An(v0:List UInt8)(v3:Bool)(o1 o0:Int):stepT PY (L1 v0 v3 o1 o0)=let d':=(length v0:Int);let g':=zg (ze zd);let a':=take (toNat (Er 18 d')) v0;let b':=take (zt (length a') 1) (drop 1 a');let c':=(↑(length a'):Int);let e':=decide (1<=length a')&&decide (length a'<=length a');let f':=(↑(zi (getD a' 0 (0:UInt8))):Int);let h':=decide (0<c');.ite (decide (d'>0)) (.ite (decide (0<=Er 18 d')&&decide (0<=toNat (Er 18 d'))&&decide (toNat (Er 18 d')<=length v0)) (.ite h' (.ite (decide (c'<19)) (.ite h' (.ite (f'==45) (.ite e' (.ite (decide ((↑(length b'):Int)<1)) .fail (L3 v0 v3 o1 o0 a' 0 (length b') ((↑(length b'):Int)) 0 (yi (fun b=>(↑(zi b):Int)) b') o1 o0)) .fail) (.ite h' (.ite (f'==43) (.ite e' (.ite (decide ((↑(length b'):Int)<1)) .fail (L3 v0 v3 o1 o0 a' 0 (length b') ((↑(length b'):Int)) 0 (yi (fun b=>(↑(zi b):Int)) b') o1 o0)) .fail) (L3 v0 v3 o1 o0 a' 0 (length a') (c') 0 (yi (fun b=>(↑(zi b):Int)) a') o1 o0)) .fail)) .fail) (.ite false .fail .fail)) (.ite false .fail .fail)) .fail) (.ite v3 (.ite (Dh (o1,[])) (.leaf (zq [.dat i64 (Fv (o1,[])),.dat g' (Ft (o1,[]))]) ([(1,.box [.dat i64 o1,.nil]),(0,.box [.dat i64 (Fv (o1,[])),.dat g' (Ft (o1,[]))])])) .fail) (.leaf (zq [.dat i64 o1,.nil]) ([(1,.box [.dat i64 o1,.nil]),(0,.box [.dat i64 o1,.nil])]))):=by kernel_rfl
def L4(v0:List UInt8)(o1 o0:Int)(v5:List UInt8)(v6:Int)(v47n:Nat)(v48 v49:Int)(o2:List Int)(o1':Int)(o0':Int):Tr:=re ((stepT PY (L2 v0 o1 o0)).L.L.L.L.L.L.L.R) (AA 77 [(5,.dat zj v5),(6,.dat i64 v6),(47,.sl 2 1 0 v47n none),(48,.dat i64 v48),(49,.dat i64 v49)] [(2,.arr false 5 (ze z6) o2),(1,.box [.dat i64 o1',.nil]),(0,.box [.dat i64 o0',.nil])] 3)
theorem AZ(v0:List UInt8)(o1 o0:Int):stepT PY (L2 v0 o1 o0)=let d':=(length v0:Int);let a':=take (toNat (Er 18 d')) v0;let b':=take (zt (length a') 1) (drop 1 a');let c':=(↑(length a'):Int);let e':=decide (1<=length a')&&decide (length a'<=length a');let f':=(↑(zi (getD a' 0 (0:UInt8))):Int);let g':=decide (0<c');.ite (decide (d'>0)) (.ite (decide (0<=Er 18 d')&&decide (0<=toNat (Er 18 d'))&&decide (toNat (Er 18 d')<=length v0)) (.ite g' (.ite (decide (c'<19)) (.ite g' (.ite (f'==45) (.ite e' (.ite (decide ((↑(length b'):Int)<1)) .fail (L4 v0 o1 o0 a' 0 (length b') ((↑(length b'):Int)) 0 (yi (fun b=>(↑(zi b):Int)) b') o1 o0)) .fail) (.ite g' (.ite (f'==43) (.ite e' (.ite (decide ((↑(length b'):Int)<1)) .fail (L4 v0 o1 o0 a' 0 (length b') ((↑(length b'):Int)) 0 (yi (fun b=>(↑(zi b):Int)) b') o1 o0)) .fail) (L4 v0 o1 o0 a' 0 (length a') (c') 0 (yi (fun b=>(↑(zi b):Int)) a') o1 o0)) .fail)) .fail) (.ite false .fail .fail)) (.ite false .fail .fail)) .fail) (.leaf (zq [.dat i64 o1,.nil]) ([(1,.box [.dat i64 o1,.nil]),(0,.box [.dat i64 o1,.nil])])):=by kernel_rfl
def L5(v0:List UInt8)(v3:Bool)(o1:Int)(o1_1:List Int)(o0:Int):Tr:=re ((stepT PY (L3 [] false 0 0 [] 0 0 0 0 [] 0 0)).R.L.L.L.L.L.L.L.L) (AA 41 [(0,.dat zj v0),(2,.ptr 0 0),(3,.dat zh v3),(4,.ptr 1 0)] [(1,.box [.dat i64 o1,.dat (zg (ze zd)) o1_1]),(0,.box [.dat i64 o0,.nil])] 2)
theorem CU(v0:List UInt8)(v3:Bool)(o1 o0:Int)(v5:List UInt8)(v6:Int)(v47n:Nat)(v48 v49:Int)(o2:List Int)(o1':Int)(o0':Int):stepT PY (L3 v0 v3 o1 o0 v5 v6 v47n v48 v49 o2 o1' o0')=let b':=Er 18 (length v0:Int);let d':=(zc .i64 (0-v6),BB (zc .i64 (0-v6)));let i':=getD o2 (toNat v49) 0-48;let a':=(UN (10,BB 10) b',Tz (10,BB 10) b');let e':=decide (0<=Er 18 (length v0:Int))&&true&&decide (toNat b'<=length v0)&&decide (length v0<=length v0);let f':=take (zt (length v0) (toNat b')) (drop (toNat b') v0);let g':=A4 (10,BB 10)&&aW (yu (10,BB 10)) b';let c':=(EL (o1',[]) a',EV (o1',[]) a');let h':=A4 (o1',[])&&A4 a';.ite (decide (v49<v48)) (.ite (decide (0<=v49)&&decide (v49<(↑v47n:Int))) (.ite (decide (toNat v49<length o2)) (.ite (decide (zc .u8 i'>9)) .fail (L3 v0 v3 o1 o0 v5 (zc .i64 (zc .i64 (v6*10)+zc .i64 (zc .u8 i'))) v47n v48 (zc .i64 (v49+1)) o2 o1' o0')) .fail) .fail) (.ite (decide (0<(length v5:Int))) (.ite ((↑(zi (getD v5 0 (0:UInt8))):Int)==45) (.ite true (.ite g' (.ite h' (.ite true (.ite (A4 c'&&A4 d') (.ite e' (L5 f' v3 (Ig c' d') (Ik c' d') o0') .fail) .fail) .fail) .fail) .fail) .fail) (.ite true (.ite g' (.ite h' (.ite true (.ite (A4 c'&&A4 (v6,BB v6)) (.ite e' (L5 f' v3 (Ig c' (v6,BB v6)) (Ik c' (v6,BB v6)) o0') .fail) .fail) .fail) .fail) .fail) .fail)) .fail):=by kernel_rfl
def L7(v0:List UInt8)(v3:Bool)(o1:Int)(o1_1:List Int)(o0:Int)(v5:List UInt8)(v6:Int)(v47n:Nat)(v48 v49:Int)(o2:List Int)(o1':Int)(o1_1':List Int)(o0':Int):Tr:=re ((stepT PY (L5 v0 v3 o1 o1_1 o0)).L.L.L.L.L.L.L.R) (AA 77 [(5,.dat zj v5),(6,.dat i64 v6),(47,.sl 2 1 0 v47n none),(48,.dat i64 v48),(49,.dat i64 v49)] [(2,.arr false 5 (ze z6) o2),(1,.box [.dat i64 o1',.dat (zg (ze zd)) o1_1']),(0,.box [.dat i64 o0',.nil])] 3)
theorem Ei(v0:List UInt8)(v3:Bool)(o1:Int)(o1_1:List Int)(o0:Int):stepT PY (L5 v0 v3 o1 o1_1 o0)=let c':=zg (ze zd);let e':=(length v0:Int);let a':=take (toNat (Er 18 e')) v0;let b':=take (zt (length a') 1) (drop 1 a');let d':=(↑(length a'):Int);let f':=decide (1<=length a')&&decide (length a'<=length a');let g':=(↑(zi (getD a' 0 (0:UInt8))):Int);let h':=decide (0<d');.ite (decide (e'>0)) (.ite (decide (0<=Er 18 e')&&decide (0<=toNat (Er 18 e'))&&decide (toNat (Er 18 e')<=length v0)) (.ite h' (.ite (decide (d'<19)) (.ite h' (.ite (g'==45) (.ite f' (.ite (decide ((↑(length b'):Int)<1)) .fail (L7 v0 v3 o1 o1_1 o0 a' 0 (length b') ((↑(length b'):Int)) 0 (yi (fun b=>(↑(zi b):Int)) b') o1 o1_1 o0)) .fail) (.ite h' (.ite (g'==43) (.ite f' (.ite (decide ((↑(length b'):Int)<1)) .fail (L7 v0 v3 o1 o1_1 o0 a' 0 (length b') ((↑(length b'):Int)) 0 (yi (fun b=>(↑(zi b):Int)) b') o1 o1_1 o0)) .fail) (L7 v0 v3 o1 o1_1 o0 a' 0 (length a') (d') 0 (yi (fun b=>(↑(zi b):Int)) a') o1 o1_1 o0)) .fail)) .fail) (.ite false .fail .fail)) (.ite false .fail .fail)) .fail) (.ite v3 (.ite (Dh (o1,o1_1)) (.leaf (zq [.dat i64 (Fv (o1,o1_1)),.dat c' (Ft (o1,o1_1))]) ([(1,.box [.dat i64 o1,.dat c' o1_1]),(0,.box [.dat i64 (Fv (o1,o1_1)),.dat c' (Ft (o1,o1_1))])])) .fail) (.leaf (zq [.dat i64 o1,.dat c' o1_1]) ([(1,.box [.dat i64 o1,.dat c' o1_1]),(0,.box [.dat i64 o1,.dat c' o1_1])]))):=by kernel_rfl
theorem ES(v0:List UInt8)(v3:Bool)(o1:Int)(o1_1:List Int)(o0:Int)(v5:List UInt8)(v6:Int)(v47n:Nat)(v48 v49:Int)(o2:List Int)(o1':Int)(o1_1':List Int)(o0':Int):stepT PY (L7 v0 v3 o1 o1_1 o0 v5 v6 v47n v48 v49 o2 o1' o1_1' o0')=let c':=Er 18 (length v0:Int);let d':=(zc .i64 (0-v6),BB (zc .i64 (0-v6)));let i':=getD o2 (toNat v49) 0-48;let a':=(UN (10,BB 10) c',Tz (10,BB 10) c');let e':=decide (0<=Er 18 (length v0:Int))&&true&&decide (toNat c'<=length v0)&&decide (length v0<=length v0);let f':=take (zt (length v0) (toNat c')) (drop (toNat c') v0);let g':=A4 (10,BB 10)&&aW (yu (10,BB 10)) c';let b':=(EL (o1',o1_1') a',EV (o1',o1_1') a');let h':=A4 (o1',o1_1')&&A4 a';.ite (decide (v49<v48)) (.ite (decide (0<=v49)&&decide (v49<(↑v47n:Int))) (.ite (decide (toNat v49<length o2)) (.ite (decide (zc .u8 i'>9)) .fail (L7 v0 v3 o1 o1_1 o0 v5 (zc .i64 (zc .i64 (v6*10)+zc .i64 (zc .u8 i'))) v47n v48 (zc .i64 (v49+1)) o2 o1' o1_1' o0')) .fail) .fail) (.ite (decide (0<(length v5:Int))) (.ite ((↑(zi (getD v5 0 (0:UInt8))):Int)==45) (.ite true (.ite g' (.ite h' (.ite true (.ite (A4 b'&&A4 d') (.ite e' (L5 f' v3 (Ig b' d') (Ik b' d') o0') .fail) .fail) .fail) .fail) .fail) .fail) (.ite true (.ite g' (.ite h' (.ite true (.ite (A4 b'&&A4 (v6,BB v6)) (.ite e' (L5 f' v3 (Ig b' (v6,BB v6)) (Ik b' (v6,BB v6)) o0') .fail) .fail) .fail) .fail) .fail) .fail)) .fail):=by kernel_rfl
end T153
namespace T211
def T(s t:List UInt8):Tr:=tree YN false 9 211 (Af ([zj,zj]) (s,t))
def L1(s t v0:List UInt8)(v4:Int)(o0:List Bool):Tr:=re ((T s t).R.R.L.L.R) (AA 21 [(0,.dat zj v0),(2,.ptr 0 0),(4,.dat i64 v4)] [(0,.arr false 281 zh o0)] 1)
def L2(s t v0:List UInt8)(v4:Int)(o0:List Bool):Tr:=re ((T s t).R.R.R) (AA 21 [(0,.dat zj v0),(2,.ptr 0 0),(4,.dat i64 v4)] [(0,.arr false 281 zh o0)] 1)
theorem Al(s t:List UInt8):T s t=let a':=decide (0<(length t:Int));let b':Tr:=.leaf (.dat zj s) [];.ite (s==[]) b' (.ite (t==[]) b' (.ite ((length t:Int)==1) (.ite a' (.ite (decide ((↑(zi (getD t 0 (0:UInt8))):Int)<128)) (.ite a' (.ite a' (.ite false (.ite false b' .fail) .fail) .fail) .fail) (L1 s t t 0 Sp.qA)) .fail) (L2 s t t 0 Sp.qA))):=by kernel_rfl
def L4(s t v0:List UInt8)(v4:Int)(o0:List Bool)(v0':List UInt8)(o1:List Bool)(o0':List Bool):Tr:=re ((stepT YN (L2 s t v0 v4 o0)).R.L.L.L.L) (AA 22 [(0,.dat zj v0'),(1,.ptr 1 0)] [(1,.arr false 281 zh o1),(0,.arr false 281 zh o0')] 2)
theorem AZ(s t v0:List UInt8)(v4:Int)(o0:List Bool):stepT YN (L2 s t v0 v4 o0)=let a':=(↑(zi (getD v0 (toNat v4) (0:UInt8))):Int);let b':=decide (length o0=256);let c':=decide (v4<(length v0:Int));.ite (c') (.ite (decide (0<=v4)&&c') (.ite (decide (a'>=128)) (.ite b' (.ite b' (.ite (decide (256=256)) (.ite true (.ite false (.ite false (.leaf (.dat zj s) ([(1,.arr false 281 zh (Sp.XJ o0)),(0,.arr false 281 zh (Sp.XJ o0))])) .fail) .fail) .fail) .fail) .fail) .fail) (.ite (decide ((0:yr (ze z6))<=a')&&decide (a'<(↑256:Int))) (.ite (decide (toNat a'<length o0)) (L2 s t v0 (zc .i64 (v4+1)) (set o0 (toNat a') true)) .fail) .fail)) .fail) (.ite b' (.ite b' (.ite (decide (256=256)) (.ite true (L4 s t v0 v4 o0 s ((Sp.XJ o0)) ((Sp.XJ o0))) .fail) .fail) .fail) .fail):=by kernel_rfl
def L7(s t v0:List UInt8)(v4:Int)(o0:List Bool)(v0':List UInt8)(o1:List Bool)(o0':List Bool)(v0'':List UInt8)(o1':List Bool)(o0'':List Bool):Tr:=re ((stepT YN (L4 s t v0 v4 o0 v0' o1 o0')).L.L.L.L.L) (AA 16 [(0,.dat zj v0''),(1,.ptr 1 0)] [(1,.arr false 281 zh o1'),(0,.arr false 281 zh o0'')] 2)
def L8(s t v0:List UInt8)(v4:Int)(o0:List Bool)(v0':List UInt8)(o1:List Bool)(o0':List Bool)(v0'':List UInt8)(o1':List Bool)(o0'':List Bool):Tr:=re ((stepT YN (L4 s t v0 v4 o0 v0' o1 o0')).R) (AA 16 [(0,.dat zj v0''),(1,.ptr 1 0)] [(1,.arr false 281 zh o1'),(0,.arr false 281 zh o0'')] 2)
theorem Ct(s t v0:List UInt8)(v4:Int)(o0:List Bool)(v0':List UInt8)(o1:List Bool)(o0':List Bool):stepT YN (L4 s t v0 v4 o0 v0' o1 o0')=let b':=(↑(length v0'):Int);let c':=zc .i64 (b'-1);let d':=decide (0<=zc .i64 (b'-1));let a':=(↑(zi (getD v0' (toNat c') (0:UInt8))):Int);.ite (decide (b'>0)) (.ite (d'&&decide (zc .i64 (b'-1)<b')) (.ite (decide ((0:yr (ze z6))<=a')&&decide (a'<(↑256:Int))) (.ite (decide (toNat a'<length o1)) (.ite (!getD o1 (toNat a') false) (L7 s t v0 v4 o0 v0' o1 o0' v0' o1 o0') (.ite (d'&&decide (0<=toNat c')&&decide (toNat c'<=length v0')) (L4 s t v0 v4 o0 (take (toNat c') v0') o1 o0') .fail)) .fail) .fail) .fail) (L8 s t v0 v4 o0 v0' o1 o0' v0' o1 o0'):=by kernel_rfl
theorem ES(s t v0:List UInt8)(v4:Int)(o0:List Bool)(v0':List UInt8)(o1:List Bool)(o0':List Bool)(v0'':List UInt8)(o1':List Bool)(o0'':List Bool):stepT YN (L7 s t v0 v4 o0 v0' o1 o0' v0'' o1' o0'')=let a':=(↑(zi (getD v0'' 0 (0:UInt8))):Int);let b':Tr:=.leaf (.dat zj v0'') ([(1,.arr false 281 zh o1'),(0,.arr false 281 zh o0'')]);.ite (decide ((↑(length v0''):Int)>0)) (.ite (decide (0<(↑(length v0''):Int))) (.ite (decide ((0:yr (ze z6))<=a')&&decide (a'<(↑256:Int))) (.ite (decide (toNat a'<length o1')) (.ite (!getD o1' (toNat a') false) b' (.ite (decide (1<=length v0'')&&decide (length v0''<=length v0'')) (L7 s t v0 v4 o0 v0' o1 o0' (take (zt (length v0'') 1) (drop 1 v0'')) o1' o0'') .fail)) .fail) .fail) .fail) b':=by kernel_rfl
theorem HL(s t v0:List UInt8)(v4:Int)(o0:List Bool)(v0':List UInt8)(o1:List Bool)(o0':List Bool)(v0'':List UInt8)(o1':List Bool)(o0'':List Bool):stepT YN (L8 s t v0 v4 o0 v0' o1 o0' v0'' o1' o0'')=let a':=(↑(zi (getD v0'' 0 (0:UInt8))):Int);let b':Tr:=.leaf (.dat zj v0'') ([(1,.arr false 281 zh o1'),(0,.arr false 281 zh o0'')]);.ite (decide ((↑(length v0''):Int)>0)) (.ite (decide (0<(↑(length v0''):Int))) (.ite (decide ((0:yr (ze z6))<=a')&&decide (a'<(↑256:Int))) (.ite (decide (toNat a'<length o1')) (.ite (!getD o1' (toNat a') false) b' (.ite (decide (1<=length v0'')&&decide (length v0''<=length v0'')) (L8 s t v0 v4 o0 v0' o1 o0' (take (zt (length v0'') 1) (drop 1 v0'')) o1' o0'') .fail)) .fail) .fail) .fail) b':=by kernel_rfl
end T211
namespace T151
def T(s:List UInt8):Tr:=tree XH1 false 9 151 (Af ([zj]) s)
theorem Al(s:List UInt8):T s=.ite (!s==[]) (.ite (Sp.pM s [(48:UInt8),(49:UInt8),(50:UInt8),(51:UInt8),(52:UInt8),(53:UInt8),(54:UInt8),(55:UInt8),(56:UInt8),(57:UInt8)]) (.ite (Sp.OV s==[]) (.ite (decide (0<(length s:Int))) (.ite ((↑(zi (getD s 0 (0:UInt8))):Int) !=48) (.leaf (.bl true) []) (.leaf (.dat zh (s==[(48:UInt8)])) [])) .fail) (.leaf (.bl false) [])) .fail) (.leaf (.bl false) []):=by kernel_rfl
end T151
namespace T149
def T(s t:List UInt8):Tr:=tree MS false 9 149 (Af ([zj,zj]) (s,t))
theorem Al(s t:List UInt8):T s t=let a':=(length t:Int);let b':Tr:=.leaf (.tup [.dat zj s,.bl false]) [];let c':=decide (toNat a'<=length s);.ite (decide ((length s:Int)>=a')) (.ite (decide (0<=a')&&decide (0<=toNat a')&&c') (.ite (!take (toNat a') s==t) b' (.ite (decide (0<=a')&&true&&c'&&decide (length s<=length s)) (.leaf (.tup [.dat zj (take (zt (length s) (toNat a')) (drop (toNat a') s)),.bl true]) []) .fail)) .fail) b':=by kernel_rfl
end T149
namespace T150
def T(s t:List UInt8):Tr:=tree XH2 false 9 150 (Af ([zj,zj]) (s,t))
theorem Al(s t:List UInt8):T s t=let b':=(↑(zi (getD t 0 (0:UInt8))):Int);let c':=(length t:Int);let d':Tr:=.leaf (.tup [.dat zj s,.dat zj [],.bl false]) [];let g':=decide (length s<=length s);let i':=BE [ze z6];let e':=zc .i64 (Sp.Pz s b'+c');let f':=zc .i64 ((-1)+c');let h':=zc .i64 (0+c');let j':=Sp.Pz s b';let a':Tr:=.ite true (.ite (decide (0<=length s)) (.ite (decide (0<=zc .i64 (0+c'))&&true&&decide (toNat h'<=length s)&&g') (.leaf (.tup [.dat zj (take 0 s),.dat zj (take (zt (length s) (toNat h')) (drop (toNat h') s)),.bl true]) []) .fail) .fail) d';.ite (c'==0) a' (.ite (t==s) a' (.ite (c'==1) (.ite (decide (0<c')) (.ite (decide ((0:yr i')<=b')&&decide (b'<(256:yr i'))) (.ite (decide (Sp.Pz s b'>=0)) (.ite (decide (0<=Sp.Pz s b')&&decide (0<=toNat j')&&decide (toNat j'<=length s)) (.ite (decide (0<=zc .i64 (Sp.Pz s b'+c'))&&true&&decide (toNat e'<=length s)&&g') (.leaf (.tup [.dat zj (take (toNat j') s),.dat zj (take (zt (length s) (toNat e')) (drop (toNat e') s)),.bl true]) []) .fail) .fail) d') .fail) .fail) (.ite (decide (c'>=(length s:Int))) (.ite false (.ite (false&&decide (0<=length s)) (.ite (decide (0<=zc .i64 ((-1)+c'))&&true&&decide (toNat f'<=length s)&&g') (.leaf (.tup [.dat zj (take 0 s),.dat zj (take (zt (length s) (toNat f')) (drop (toNat f') s)),.bl true]) []) .fail) .fail) d') .fail))):=by kernel_rfl
end T150
namespace T227
def T(w:List Int):Tr:=tree iU false 9 227 (Af ([zf i64]) w)
def L1(v0:List Int):Tr:=re ((T [])) (AA 21 [(0,.dat (zf i64) v0)] [] 0)
theorem Al(w:List Int):T w=L1 w:=by kernel_rfl
theorem An(v0:List Int):stepT iU (L1 v0)=let b':=(length v0:Int);let d':Tr:=.leaf (.dat (zf i64) v0) [];let a':=zc .i64 (b'-1);let c':=decide (0<=zc .i64 (b'-1));.ite (decide (b'>0)) (.ite (c'&&decide (zc .i64 (b'-1)<b')) (.ite (getD v0 (toNat a') 0==0) (.ite (c'&&decide (0<=toNat a')&&decide (toNat a'<=length v0)) (L1 (take (toNat a') v0)) .fail) d') .fail) d':=by kernel_rfl
end T227
namespace T168
def T(n:Bool)(w:List Int):Tr:=tree ZT false 9 168 (Af ([zh,zf i64]) (n,w))
theorem Al(n:Bool)(w:List Int):T n w=let a':=decide ((↑(length (Au w)):Int)>0);.ite (decide (length w<=20000)) (.ite n (.leaf (zq [.dat zh a',.dat (zf i64) (Au w)]) ([(0,.box [.dat zh a',.dat (zf i64) (Au w)])])) (.leaf (zq [.bl false,.dat (zf i64) (Au w)]) ([(0,.box [.bl false,.dat (zf i64) (Au w)])]))) .fail:=by kernel_rfl
end T168
namespace T170
def T(a b:List Int):Tr:=tree iU false 9 170 (Af ([zf i64,zf i64]) (a,b))
def L1(v0 v1:List Int)(v5:Int):Tr:=re ((T [] []).R) (AA 41 [(0,.dat (zf i64) v0),(1,.dat (zf i64) v1),(5,.dat i64 v5)] [] 0)
theorem Al(a b:List Int):T a b=let a':=(length a:Int);.ite (a' !=(length b:Int)) (.ite (decide (a'<(length b:Int))) (.leaf (.dat i64 (-1:Int)) []) (.leaf (.dat i64 (1:Int)) [])) (L1 a b (zc .i64 (a'-1))):=by kernel_rfl
theorem An(v0 v1:List Int)(v5:Int):stepT iU (L1 v0 v1 v5)=let a':=decide (0<=v5)&&decide (v5<(length v0:Int));let b':=decide (0<=v5)&&decide (v5<(length v1:Int));.ite (decide (v5>=0)) (.ite a' (.ite b' (.ite (decide (getD v0 (toNat v5) 0<getD v1 (toNat v5) 0)) (.leaf (.dat i64 (-1:Int)) []) (.ite a' (.ite b' (.ite (decide (getD v0 (toNat v5) 0>getD v1 (toNat v5) 0)) (.leaf (.dat i64 (1:Int)) []) (L1 v0 v1 (zc .i64 (v5-1)))) .fail) .fail)) .fail) .fail) (.leaf (.dat i64 (0:Int)) []):=by kernel_rfl
end T170
namespace T172
def T(a b:List Int):Tr:=tree ZT false 9 172 (Af ([zf i64,zf i64]) (a,b))
def L1(v0 v1:List Int)(v5n:Nat)(v6:Int)(o0:List Int):Tr:=re ((T [] []).L) (AA 72 [(0,.dat (zf i64) v0),(1,.dat (zf i64) v1),(5,.sl 0 1 0 v5n none),(6,.dat i64 v6)] [(0,.arr false 3 i64 o0)] 1)
theorem Al(a b:List Int):T a b=let a':=(length a:Int)+(length b:Int);let b':=zc .i64 a';.ite (decide (0<=zc .i64 a')&&decide (zc .i64 a'=zc .i64 a')&&decide (8*toNat b'<=281474976710656)&&decide (zc .i64 a'<9223372036854775808)) (L1 a b (toNat b') 0 (replicate (toNat b') 0)) .fail:=by kernel_rfl
def L2(v0 v1:List Int)(v5n:Nat)(v6 v7 v8:Int)(o0:List Int):Tr:=re ((stepT ZT (L1 [] [] 0 0 [])).L) (AA 72 [(0,.dat (zf i64) v0),(1,.dat (zf i64) v1),(5,.sl 0 1 0 v5n none),(6,.dat i64 v6),(7,.dat i64 v7),(8,.dat i64 v8)] [(0,.arr false 3 i64 o0)] 1)
theorem An(v0 v1:List Int)(v5n:Nat)(v6:Int)(o0:List Int):stepT ZT (L1 v0 v1 v5n v6 o0)=.ite (decide (v6<(length v0:Int))) (L2 v0 v1 v5n v6 0 0 o0) (.ite (decide (0+v5n<=length o0)&&true&&decide (length (take v5n o0)<=20000)) (.leaf (.dat (zf i64) (Au (take v5n o0))) ([(0,.arr true 3 i64 o0)])) .fail):=by kernel_rfl
theorem AZ(v0 v1:List Int)(v5n:Nat)(v6 v7 v8:Int)(o0:List Int):stepT ZT (L2 v0 v1 v5n v6 v7 v8 o0)=let c':=decide (0<=zc .i64 (v6+v8))&&decide (zc .i64 (v6+v8)<(↑v5n:Int));let d':=zc .i64 (v6+v8);let i':=(length v1:Int);let a':=zc .i64 (zc .i64 (getD o0 (toNat d') 0+zc .i64 (getD v0 (toNat v6) 0*getD v1 (toNat v8) 0))+v7);let b':=v6+i';let g':=decide (toNat d'<length o0);let e':=decide (0<=zc .i64 b')&&decide (zc .i64 b'<(↑v5n:Int));let f':=zc .i64 b';let h':=decide (toNat f'<length o0);.ite (decide (v8<i')) (.ite c' (.ite g' (.ite (decide (0<=v6)&&decide (v6<(length v0:Int))) (.ite (decide (0<=v8)&&decide (v8<i')) (.ite true (.ite c' (.ite g' (.ite true (L2 v0 v1 v5n v6 (zc .i64 (yh a' 1000000000)) (zc .i64 (v8+1)) (set o0 (toNat d') (z7 a' 1000000000))) .fail) .fail) .fail) .fail) .fail) .fail) .fail) .fail) (.ite e' (.ite h' (.ite e' (.ite h' (L1 v0 v1 v5n (zc .i64 (v6+1)) (set o0 (toNat f') (zc .i64 (getD o0 (toNat f') 0+v7)))) .fail) .fail) .fail) .fail):=by kernel_rfl
end T172
namespace T226
def T(a:List Int)(d:Int):Tr:=tree ZT false 9 226 (Af ([zf i64,ze yg]) (a,d))
def L1(v0:List Int)(v1:Int)(v6n:Nat)(v7 v8:Int)(o0:List Int):Tr:=re ((T [] 0).L) (AA 39 [(0,.dat (zf i64) v0),(1,.dat i64 v1),(6,.sl 0 1 0 v6n none),(7,.dat i64 v7),(8,.dat i64 v8)] [(0,.arr false 3 i64 o0)] 1)
theorem Al(a:List Int)(d:Int):T a d=let a':=(length a:Int);.ite (decide (0<=a')&&decide (a'=a')&&decide (8*toNat a'<=281474976710656)&&decide (a'<9223372036854775808)) (L1 a d (toNat a') 0 (zc .i64 (a'-1)) (replicate (toNat a') 0)) .fail:=by kernel_rfl
theorem An(v0:List Int)(v1:Int)(v6n:Nat)(v7 v8:Int)(o0:List Int):stepT ZT (L1 v0 v1 v6n v7 v8 o0)=let a':=zc .i64 (zc .i64 (v7*1000000000)+getD v0 (toNat v8) 0);.ite (decide (v8>=0)) (.ite (decide (0<=v8)&&decide (v8<(length v0:Int))) (.ite (decide (v1≠0)) (.ite (decide (0<=v8)&&decide (v8<(↑v6n:Int))) (.ite (decide (toNat v8<length o0)) (.ite (decide (v1≠0)) (L1 v0 v1 v6n (z7 a' v1) (zc .i64 (v8-1)) (set o0 (toNat v8) (zc .i64 (yh a' v1)))) .fail) .fail) .fail) .fail) .fail) (.ite (decide (0+v6n<=length o0)&&true&&decide (length (take v6n o0)<=20000)) (.leaf (.tup [.dat (zf i64) (Au (take v6n o0)),.dat i64 v7]) ([(0,.arr true 3 i64 o0)])) .fail):=by kernel_rfl
end T226
namespace T164
def T(a b:List Int):Tr:=tree LX false 9 164 (Af ([zf i64,zf i64]) (a,b))
def L1(v0:List Int)(v8n:Nat)(v9:List Int)(v10:Int)(v11n:Nat)(o1 o0:List Int):Tr:=re ((T [] []).L.R.R.L.L.L.L.L) (AA 206 [(0,.dat (zf i64) v0),(8,.sl 0 1 0 v8n none),(9,.dat (zf i64) v9),(10,.dat i64 v10),(11,.sl 1 1 0 v11n none)] [(1,.arr false 3 i64 o1),(0,.arr true 3 i64 o0)] 2)
theorem Al(a b:List Int):T a b=let c':=(length b:Int);let e':=getD b (toNat (zc .i64 (c'-1))) 0+1;let a':=yh 1000000000 (zc .i64 e');let b':=Ar a*Ar [zc .i64 a'];let d':=BM (Ar b*Ar [zc .i64 a']);.ite (A5 a&&A5 b) (.ite (decide (BO (Ar a) (Ar b)<0)) (.leaf (.tup [.nil,.dat (zf i64) a]) []) (.ite (c'==1) (.ite (decide (0<c')) (.ite (Jq a&&decide (0<getD b 0 0)&&decide (getD b 0 0<1000000000)) (.ite (decide (1<=1)&&true&&decide (1<=20000)) (.leaf (.tup [.dat (zf i64) (BM (Ar a/getD b 0 0)),.dat (zf i64) (Au [Ar a % getD b 0 0])]) ([(0,.arr true 3 i64 [Ar a % getD b 0 0])])) .fail) .fail) .fail) (.ite (decide (0<=zc .i64 (c'-1))&&decide (zc .i64 (c'-1)<c')) (.ite (decide (zc .i64 e'≠0)) (.ite (decide (1<=1)&&true&&(Sp.hR b&&Sp.hR [zc .i64 a'])) (.ite (decide (1<=1)&&true&&(Sp.hR a&&Sp.hR [zc .i64 a'])) (.ite (decide ((2*(0+length (BM b'))+1000)*8<=281474976710656)) (L1 a 1 d' ((↑(length d'):Int)) (zk 0 (length (BM b'))) ([]++BM b') ([zc .i64 a'])) .fail) .fail) .fail) .fail) .fail))) .fail:=by kernel_rfl
def L2(v8n:Nat)(v9:List Int)(v10:Int)(v11n v12n:Nat)(v13:Int)(o2 o1 o0:List Int):Tr:=re ((stepT LX (L1 [] 0 [] 0 0 [] [])).R.L) (AA 206 [(8,.sl 0 1 0 v8n none),(9,.dat (zf i64) v9),(10,.dat i64 v10),(11,.sl 1 1 0 v11n none),(12,.sl 2 1 0 v12n none),(13,.dat i64 v13)] [(2,.arr false 3 i64 o2),(1,.arr false 3 i64 o1),(0,.arr true 3 i64 o0)] 3)
theorem An(v0:List Int)(v8n:Nat)(v9:List Int)(v10:Int)(v11n:Nat)(o1 o0:List Int):stepT LX (L1 v0 v8n v9 v10 v11n o1 o0)=let a':=(↑v11n:Int)-v10;let b':=zc .i64 a';.ite (decide ((↑v11n:Int)<zc .i64 ((length v0:Int)+1))) (.ite (decide (v11n=length o1)&&decide ((2*(v11n+1)+1000)*8<=281474976710656)) (L1 v0 v8n v9 v10 (zk v11n 1) (o1++[0]) o0) .fail) (.ite (decide (0<=zc .i64 a')&&decide (zc .i64 a'=zc .i64 a')&&decide (8*toNat b'<=281474976710656)&&decide (zc .i64 a'<9223372036854775808)) (L2 v8n v9 v10 v11n (toNat b') (zc .i64 (zc .i64 a'-1)) (replicate (toNat b') 0) o1 o0) .fail):=by kernel_rfl
def L3(v8n:Nat)(v9:List Int)(v10:Int)(v11n v12n:Nat)(v13:Int)(o2 o1 o0:List Int)(v0n:Nat)(v1:List Int)(v2 v7:Int)(v9':Int)(v10':Int)(o2':List Int)(o1':List Int)(o0':List Int):Tr:=re ((stepT LX (L2 v8n v9 v10 v11n v12n v13 o2 o1 o0)).L.L.L.L.L.L.L.L.L) (AA 77 [(0,.sl 1 1 0 v0n none),(1,.dat (zf i64) v1),(2,.dat i64 v2),(7,.dat i64 v7),(9,.dat i64 v9'),(10,.dat i64 v10')] [(2,.arr false 3 i64 o2'),(1,.arr false 3 i64 o1'),(0,.arr true 3 i64 o0')] 3)
theorem AZ(v8n:Nat)(v9:List Int)(v10:Int)(v11n v12n:Nat)(v13:Int)(o2 o1 o0:List Int):stepT LX (L2 v8n v9 v10 v11n v12n v13 o2 o1 o0)=let a':=(length v9:Int);let f':=take (toNat v10) o1;let c':=toNat (zc .i64 (a'-1));let d':=zc .i64 (v13+a')-1;let e':=decide (0<=zc .i64 (a'-1))&&decide (zc .i64 (a'-1)<a');let g':=zc .i64 (v13+a');let b':=zc .i64 (zc .i64 (getD o1 (toNat g') 0*1000000000)+getD o1 (toNat (zc .i64 d')) 0);let h':=decide (getD v9 c' 0≠0);.ite (decide (v13>=0)) (.ite (decide (0<=zc .i64 (v13+a'))&&decide (zc .i64 (v13+a')<(↑v11n:Int))) (.ite (decide (toNat g'<length o1)) (.ite (decide (0<=zc .i64 d')&&decide (zc .i64 d'<(↑v11n:Int))) (.ite (decide (toNat (zc .i64 d')<length o1)) (.ite e' (.ite h' (.ite e' (.ite h' (L3 v8n v9 v10 v11n v12n v13 o2 o1 o0 v11n v9 v13 (a') (zc .i64 (yh b' (getD v9 c' 0))) (z7 b' (getD v9 c' 0)) o2 o1 o0) .fail) .fail) .fail) .fail) .fail) .fail) .fail) .fail) (.ite (decide (0<=v10)&&true&&decide (0<=toNat v10)&&decide (toNat v10<=zw none v11n)&&decide (zw none v11n<=zw none v11n)&&true) (.ite (decide (0<(↑v8n:Int))) (.ite (decide (0<length o0)) (.ite (decide (0+toNat v10<=length o1)&&true&&decide (length f'<=20000)) (.ite (Jq (Au f')&&decide (0<getD o0 0 0)&&decide (getD o0 0 0<1000000000)) (.ite (decide (0+v12n<=length o2)&&true&&decide (length (take v12n o2)<=20000)) (.leaf (.tup [.dat (zf i64) (Au (take v12n o2)),.dat (zf i64) (BM (Ar (Au f')/getD o0 0 0))]) ([(2,.arr true 3 i64 o2),(1,.arr true 3 i64 o1),(0,.arr true 3 i64 o0)])) .fail) .fail) .fail) .fail) .fail) .fail):=by kernel_rfl
def L4(v8n:Nat)(v9:List Int)(v10:Int)(v11n v12n:Nat)(v13 v14 v15 v16:Int)(o2 o1 o0:List Int):Tr:=re ((stepT LX (L3 0 [] 0 0 0 0 [] [] [] 0 [] 0 0 0 0 [] [] [])).L.L.L) (AA 206 [(8,.sl 0 1 0 v8n none),(9,.dat (zf i64) v9),(10,.dat i64 v10),(11,.sl 1 1 0 v11n none),(12,.sl 2 1 0 v12n none),(13,.dat i64 v13),(14,.dat i64 v14),(15,.dat i64 v15),(16,.dat i64 v16)] [(2,.arr false 3 i64 o2),(1,.arr false 3 i64 o1),(0,.arr true 3 i64 o0)] 3)
theorem CU(v8n:Nat)(v9:List Int)(v10:Int)(v11n v12n:Nat)(v13:Int)(o2 o1 o0:List Int)(v0n:Nat)(v1:List Int)(v2 v7:Int)(v9':Int)(v10':Int)(o2':List Int)(o1':List Int)(o0':List Int):stepT LX (L3 v8n v9 v10 v11n v12n v13 o2 o1 o0 v0n v1 v2 v7 v9' v10' o2' o1' o0')=let b':=zc .i64 (v2+v7)-2;let c':=v10'+getD v1 (toNat (zc .i64 (v7-1))) 0;let d':=zc .i64 (v9'-1);let a':Tr:=.ite (decide (0<=zc .i64 (v7-1))&&decide (zc .i64 (v7-1)<(length v1:Int))) (.ite (decide (zc .i64 c'>=1000000000)) (L4 v8n v9 v10 v11n v12n v13 d' 0 0 o2' o1' o0') (L3 v8n v9 v10 v11n v12n v13 o2 o1 o0 v0n v1 v2 v7 d' (zc .i64 c') o2' o1' o0')) .fail;.ite (decide (v9'>=1000000000)) a' (.ite (decide (0<=zc .i64 (v7-2))&&decide (zc .i64 (v7-2)<(length v1:Int))) (.ite (decide (0<=zc .i64 b')&&decide (zc .i64 b'<(↑v0n:Int))) (.ite (decide (toNat (zc .i64 b')<length o1')) (.ite (decide (zc .i64 (v9'*getD v1 (toNat (zc .i64 (v7-2))) 0)>zc .i64 (zc .i64 (v10'*1000000000)+getD o1' (toNat (zc .i64 b')) 0))) a' (L4 v8n v9 v10 v11n v12n v13 v9' 0 0 o2' o1' o0')) .fail) .fail) .fail):=by kernel_rfl
def L5(v8n:Nat)(v9:List Int)(v10:Int)(v11n v12n:Nat)(v13 v14 v19 v20:Int)(o2 o1 o0:List Int):Tr:=re ((stepT LX (L4 0 [] 0 0 0 0 0 0 0 [] [] [])).R.L.L.L.L.L.L.L) (AA 206 [(8,.sl 0 1 0 v8n none),(9,.dat (zf i64) v9),(10,.dat i64 v10),(11,.sl 1 1 0 v11n none),(12,.sl 2 1 0 v12n none),(13,.dat i64 v13),(14,.dat i64 v14),(19,.dat i64 v19),(20,.dat i64 v20)] [(2,.arr false 3 i64 o2),(1,.arr false 3 i64 o1),(0,.arr true 3 i64 o0)] 3)
theorem Ct(v8n:Nat)(v9:List Int)(v10:Int)(v11n v12n:Nat)(v13 v14 v15 v16:Int)(o2 o1 o0:List Int):stepT LX (L4 v8n v9 v10 v11n v12n v13 v14 v15 v16 o2 o1 o0)=let c':=decide (0<=zc .i64 (v16+v13))&&decide (zc .i64 (v16+v13)<(↑v11n:Int));let d':=decide (0<=zc .i64 (v13+v10))&&decide (zc .i64 (v13+v10)<(↑v11n:Int));let e':=zc .i64 (zc .i64 (v14*getD v9 (toNat v16) 0)+v15);let f':=zc .i64 (v16+v13);let g':=zc .i64 (v13+v10);let j':=zc .i64 (v16+1);let a':=set o1 (toNat g') (zc .i64 (getD o1 (toNat g') 0-v15));let b':=getD o1 (toNat f') 0-z7 e' 1000000000;let h':=decide (toNat f'<length o1);let i':=decide (toNat g'<length o1);let k':=yh e' 1000000000;.ite (decide (v16<v10)) (.ite (decide (0<=v16)&&decide (v16<(length v9:Int))) (.ite c' (.ite h' (.ite true (.ite true (.ite (decide (zc .i64 b'<0)) (.ite c' (.ite h' (L4 v8n v9 v10 v11n v12n v13 v14 (zc .i64 (zc .i64 k'+1)) j' o2 (set o1 (toNat f') (zc .i64 (zc .i64 b'+1000000000))) o0) .fail) .fail) (.ite c' (.ite h' (L4 v8n v9 v10 v11n v12n v13 v14 (zc .i64 k') j' o2 (set o1 (toNat f') (zc .i64 b')) o0) .fail) .fail)) .fail) .fail) .fail) .fail) .fail) (.ite d' (.ite i' (.ite d' (.ite i' (.ite d' (.ite (decide (toNat g'<length a')) (.ite (decide (getD a' (toNat g') 0<0)) (L5 v8n v9 v10 v11n v12n v13 (zc .i64 (v14-1)) 0 0 o2 a' o0) (.ite (decide (0<=v13)&&decide (v13<(↑v12n:Int))) (.ite (decide (toNat v13<length o2)) (L2 v8n v9 v10 v11n v12n (zc .i64 (v13-1)) (set o2 (toNat v13) v14) a' o0) .fail) .fail)) .fail) .fail) .fail) .fail) .fail) .fail):=by kernel_rfl
theorem Ei(v8n:Nat)(v9:List Int)(v10:Int)(v11n v12n:Nat)(v13 v14 v19 v20:Int)(o2 o1 o0:List Int):stepT LX (L5 v8n v9 v10 v11n v12n v13 v14 v19 v20 o2 o1 o0)=let b':=decide (0<=zc .i64 (v20+v13))&&decide (zc .i64 (v20+v13)<(↑v11n:Int));let c':=decide (0<=zc .i64 (v13+v10))&&decide (zc .i64 (v13+v10)<(↑v11n:Int));let d':=zc .i64 (v20+v13);let e':=zc .i64 (v13+v10);let a':=zc .i64 (zc .i64 (getD o1 (toNat d') 0+getD v9 (toNat v20) 0)+v19);let f':=decide (toNat d'<length o1);let g':=decide (toNat e'<length o1);.ite (decide (v20<v10)) (.ite b' (.ite f' (.ite (decide (0<=v20)&&decide (v20<(length v9:Int))) (.ite true (.ite b' (.ite f' (.ite true (L5 v8n v9 v10 v11n v12n v13 v14 (zc .i64 (yh a' 1000000000)) (zc .i64 (v20+1)) o2 (set o1 (toNat d') (z7 a' 1000000000)) o0) .fail) .fail) .fail) .fail) .fail) .fail) .fail) (.ite c' (.ite g' (.ite c' (.ite g' (.ite (decide (0<=v13)&&decide (v13<(↑v12n:Int))) (.ite (decide (toNat v13<length o2)) (L2 v8n v9 v10 v11n v12n (zc .i64 (v13-1)) (set o2 (toNat v13) v14) (set o1 (toNat e') (zc .i64 (getD o1 (toNat e') 0+v19))) o0) .fail) .fail) .fail) .fail) .fail) .fail):=by kernel_rfl
end T164
namespace T92
def T(a b:List Int):Tr:=tree wH false 9 92 (Af ([zf i64,zf i64]) (a,b))
def L1(v0 v1:List Int):Tr:=re ((T [] [])) (AA 19 [(0,.dat (zf i64) v0),(1,.dat (zf i64) v1)] [] 0)
theorem Al(a b:List Int):T a b=L1 a b:=by kernel_rfl
theorem An(v0 v1:List Int):stepT wH (L1 v0 v1)=.ite (decide ((length v1:Int)>0)) (.ite (A5 v0&&A5 v1&&decide (length v0<=9000)&&decide (length v1<=9000)&&decide (0<Ar v1)) (L1 v1 (BM (Ar v0 % Ar v1))) .fail) (.leaf (.dat (zf i64) v0) []):=by kernel_rfl
end T92
namespace T165
def T(s:List UInt8):Tr:=tree iU false 9 165 (Af ([zj]) s)
def L1(v0:List UInt8)(v3 v4:Int):Tr:=re ((T [])) (AA 20 [(0,.dat zj v0),(3,.dat i64 v3),(4,.dat i64 v4)] [] 0)
theorem Al(s:List UInt8):T s=L1 s 0 0:=by kernel_rfl
theorem An(v0:List UInt8)(v3 v4:Int):stepT iU (L1 v0 v3 v4)=let a':=decide (v4<(length v0:Int));.ite (a') (.ite (decide (0<=v4)&&a') (L1 v0 (zc .i64 (zc .i64 (zc .i64 (10*v3)+zc .i64 (↑(zi (getD v0 (toNat v4) (0:UInt8))):Int))-48)) (zc .i64 (v4+1))) .fail) (.leaf (.dat i64 v3) []):=by kernel_rfl
end T165
namespace T163
def T(s:List UInt8):Tr:=tree ZP false 9 163 (Af ([zj]) s)
def L1(v0:List UInt8)(v3:Bool):Tr:=re ((T []).L.L.L.L) (AA 40 [(0,.dat zj v0),(2,.ptr 0 0),(3,.dat zh v3),(4,.nil)] [(0,.box [.bl false,.nil])] 1)
def L2(v0:List UInt8):Tr:=re ((T []).R) (AA 40 [(0,.dat zj v0),(2,.ptr 0 0),(3,.bl false),(4,.nil)] [(0,.box [.bl false,.nil])] 1)
theorem Al(s:List UInt8):T s=let a':=(↑(zi (getD s 0 (0:UInt8))):Int)==45;.ite (decide ((length s:Int)>0)) (.ite (decide (0<(length s:Int))) (.ite a' (.ite (decide (1<=length s)&&decide (length s<=length s)) (L1 (take (zt (length s) 1) (drop 1 s)) a') .fail) (L1 s a')) .fail) (L2 s):=by kernel_rfl
def L3(v0:List UInt8)(v3:Bool)(v4n:Nat)(o1:List Int):Tr:=re ((stepT ZP (L1 [] false)).L.L.L.L.L) (AA 40 [(0,.dat zj v0),(2,.ptr 0 0),(3,.dat zh v3),(4,.sl 1 1 0 v4n none)] [(1,.arr false 3 i64 o1),(0,.box [.bl false,.nil])] 2)
theorem An(v0:List UInt8)(v3:Bool):stepT ZP (L1 v0 v3)=let b':=decide (1<=1)&&decide (0<1)&&decide ((2*1+1000)*8<=281474976710656);let e':=(length v0:Int);let g':=B6 v3 [Bx v0];let h':=Au [Bx v0];let a':=zc .i64 (e'-9);let d':=decide (0<=zc .i64 (e'-9));let c':=take (zt (length v0) (toNat a')) (drop (toNat a') v0);let f':=decide (toNat a'<=length v0);.ite (decide (e'>9)) (.ite (d'&&true&&f'&&decide (length v0<=length v0)) (.ite (DL c') (.ite b' (.ite (d'&&decide (0<=toNat a')&&f') (L3 (take (toNat a') v0) v3 1 ([Bx c'])) .fail) .fail) .fail) .fail) (.ite (DL v0) (.ite b' (.ite (decide (0+1<=1)&&true&&decide (1<=20000)) (.leaf (zq [.dat zh g',.dat (zf i64) h']) ([(zk 1 1,.arr true 3 i64 [Bx v0]),(1,.arr false 3 i64 [Bx v0]),(0,.box [.dat zh g',.dat (zf i64) h'])])) .fail) .fail) .fail):=by kernel_rfl
def L4(v0:List UInt8)(v4n:Nat)(o1:List Int):Tr:=re ((stepT ZP (L2 [])).L.L.L.L.L) (AA 40 [(0,.dat zj v0),(2,.ptr 0 0),(3,.bl false),(4,.sl 1 1 0 v4n none)] [(1,.arr false 3 i64 o1),(0,.box [.bl false,.nil])] 2)
theorem AZ(v0:List UInt8):stepT ZP (L2 v0)=let b':=decide (1<=1)&&decide (0<1)&&decide ((2*1+1000)*8<=281474976710656);let e':=B6 false [Bx v0];let f':=(length v0:Int);let h':=Au [Bx v0];let a':=zc .i64 (f'-9);let d':=decide (0<=zc .i64 (f'-9));let c':=take (zt (length v0) (toNat a')) (drop (toNat a') v0);let g':=decide (toNat a'<=length v0);.ite (decide (f'>9)) (.ite (d'&&true&&g'&&decide (length v0<=length v0)) (.ite (DL c') (.ite b' (.ite (d'&&decide (0<=toNat a')&&g') (L4 (take (toNat a') v0) 1 ([Bx c'])) .fail) .fail) .fail) .fail) (.ite (DL v0) (.ite b' (.ite (decide (0+1<=1)&&true&&decide (1<=20000)) (.leaf (zq [.dat zh e',.dat (zf i64) h']) ([(zk 1 1,.arr true 3 i64 [Bx v0]),(1,.arr false 3 i64 [Bx v0]),(0,.box [.dat zh e',.dat (zf i64) h'])])) .fail) .fail) .fail):=by kernel_rfl
theorem CU(v0:List UInt8)(v3:Bool)(v4n:Nat)(o1:List Int):stepT ZP (L3 v0 v3 v4n o1)=let c':=decide (1<=1)&&true&&decide (v4n=length o1)&&decide ((2*(v4n+1)+1000)*8<=281474976710656);let f':=o1++[Bx v0];let g':=(length v0:Int);let a':=zc .i64 (g'-9);let b':=take (zk v4n 1) f';let e':=decide (0<=zc .i64 (g'-9));let d':=take (zt (length v0) (toNat a')) (drop (toNat a') v0);let h':=decide (toNat a'<=length v0);.ite (decide (g'>9)) (.ite (e'&&true&&h'&&decide (length v0<=length v0)) (.ite (DL d') (.ite c' (.ite (e'&&decide (0<=toNat a')&&h') (L3 (take (toNat a') v0) v3 (zk v4n 1) (o1++[Bx d'])) .fail) .fail) .fail) .fail) (.ite (DL v0) (.ite c' (.ite (decide (0+zk v4n 1<=length f')&&true&&decide (length b'<=20000)) (.leaf (zq [.dat zh (B6 v3 b'),.dat (zf i64) (Au b')]) ([(zk 2 1,.arr true 3 i64 f'),(2,.arr false 3 i64 [Bx v0]),(0,.box [.dat zh (B6 v3 b'),.dat (zf i64) (Au b')])])) .fail) .fail) .fail):=by kernel_rfl
theorem Ct(v0:List UInt8)(v4n:Nat)(o1:List Int):stepT ZP (L4 v0 v4n o1)=let c':=decide (1<=1)&&true&&decide (v4n=length o1)&&decide ((2*(v4n+1)+1000)*8<=281474976710656);let f':=o1++[Bx v0];let g':=(length v0:Int);let a':=zc .i64 (g'-9);let b':=take (zk v4n 1) f';let e':=decide (0<=zc .i64 (g'-9));let d':=take (zt (length v0) (toNat a')) (drop (toNat a') v0);let h':=decide (toNat a'<=length v0);.ite (decide (g'>9)) (.ite (e'&&true&&h'&&decide (length v0<=length v0)) (.ite (DL d') (.ite c' (.ite (e'&&decide (0<=toNat a')&&h') (L4 (take (toNat a') v0) (zk v4n 1) (o1++[Bx d'])) .fail) .fail) .fail) .fail) (.ite (DL v0) (.ite c' (.ite (decide (0+zk v4n 1<=length f')&&true&&decide (length b'<=20000)) (.leaf (zq [.dat zh (B6 false b'),.dat (zf i64) (Au b')]) ([(zk 2 1,.arr true 3 i64 f'),(2,.arr false 3 i64 [Bx v0]),(0,.box [.dat zh (B6 false b'),.dat (zf i64) (Au b')])])) .fail) .fail) .fail):=by kernel_rfl
end T163
namespace T105n
def T(n:Int):Tr:=tree XF0 false 9 105 (Af ([ze yg]) n)
theorem Al(n:Int):T n=.leaf (zq [.dat i64 n,.nil]) ([(0,.box [.dat i64 n,.nil])]):=by kernel_rfl
end T105n
namespace T176
def T(a b:Int×List Int):Tr:=tree vC false 9 176 (Af ([zo i64 (zg (ze zd)),zo i64 (zg (ze zd))]) (a,b))
def L1(v8:Bool)(v12 v13:List Int)(o2 o1 o0:Int)(o0_1:List Int):Tr:=re ((T (0,[]) (0,[])).L.L.R.L.L.L) (AA 84 [(3,.ptr 0 0),(4,.ptr 1 0),(5,.ptr 2 0),(8,.dat zh v8),(12,.dat (zf (ze zd)) v12),(13,.dat (zf (ze zd)) v13)] [(2,.box [.dat i64 o2,.nil]),(1,.box [.dat i64 o1,.nil]),(0,.box [.dat i64 o0,.dat (zg (ze zd)) o0_1])] 3)
theorem Al(a b:Int×List Int):T a b=let b':=zg (ze zd);let c':=Bt (Ae (yu (fst a,snd a)));let d':=Bt (Ae (yu (fst b,snd b)));let e':=yh (fst a) (fst b);let f':=zc .i64 (z7 (fst a) (fst b)+fst b);let h':=z7 (fst a) (fst b);let i':=zk (zk 0 1) 1;let a':Tr:=.ite (Dh (fst a,snd a)) (.ite (Dh (fst b,snd b)) (.ite (R0 c' d') (L1 (decide (yu (fst a,snd a)<0)) (Bt (Ak c'/Ak d')) (Bt (Ak c' % Ak d')) 0 0 (fst b) (snd b)) .fail) .fail) .fail;let g':=zc .i64 (zc .i64 e'-1);.ite (!decide (0<length (snd a))) (.ite (!decide (0<length (snd b))) (.ite (fst a !=(-9223372036854775808)) (.ite (decide (fst b≠0)) (.ite (decide (fst b≠0)) (.ite (decide (z7 (fst a) (fst b)<0)) (.leaf (.tup [zq [.dat i64 g',.nil],zq [.dat i64 f',.nil]]) ([(zk i' 1,.box [.dat i64 f',.nil]),(zk (zk 0 1) 1,.box [.dat i64 g',.nil]),(zk 0 1,.box [.dat i64 (fst b),.dat b' (snd b)]),(0,.box [.dat i64 (fst a),.dat b' (snd a)])])) (.leaf (.tup [zq [.dat i64 (zc .i64 e'),.nil],zq [.dat i64 h',.nil]]) ([(zk i' 1,.box [.dat i64 h',.nil]),(zk (zk 0 1) 1,.box [.dat i64 (zc .i64 e'),.nil]),(zk 0 1,.box [.dat i64 (fst b),.dat b' (snd b)]),(0,.box [.dat i64 (fst a),.dat b' (snd a)])]))) .fail) .fail) a') a') a':=by kernel_rfl
def L2(o4:Int)(o4_1:List Int)(o3:Int)(o3_1:List Int)(o2 o1 o0:Int)(o0_1:List Int):Tr:=re ((stepT vC (L1 false [] [] 0 0 0 [])).L.L) (AA 84 [(3,.ptr 0 0),(4,.ptr 1 0),(5,.ptr 2 0),(14,.ptr 3 0),(15,.ptr 4 0)] [(4,.box [.dat i64 o4,.dat (zg (ze zd)) o4_1]),(3,.box [.dat i64 o3,.dat (zg (ze zd)) o3_1]),(2,.box [.dat i64 o2,.nil]),(1,.box [.dat i64 o1,.nil]),(0,.box [.dat i64 o0,.dat (zg (ze zd)) o0_1])] 5)
theorem An(v8:Bool)(v12 v13:List Int)(o2 o1 o0:Int)(o0_1:List Int):stepT vC (L1 v8 v12 v13 o2 o1 o0 o0_1)=let a':=Sp.sg v8 (Ak v13);let b':=Sp.sg v8 (Ak v12);.ite (B4 v12) (.ite (B4 v13) (L2 (Cx a') (Cv a') (Cx b') (Cv b') o2 o1 o0 o0_1) .fail) .fail:=by kernel_rfl
theorem AZ(o4:Int)(o4_1:List Int)(o3:Int)(o3_1:List Int)(o2 o1 o0:Int)(o0_1:List Int):stepT vC (L2 o4 o4_1 o3 o3_1 o2 o1 o0 o0_1)=let a':=zg (ze zd);let b':=bN (o3,o3_1) (1,BB 1);let c':=eZ (o3,o3_1) (1,BB 1);let d':=Ig (o4,o4_1) (o0,o0_1);let e':=Ik (o4,o4_1) (o0,o0_1);.ite (Dh (o4,o4_1)) (.ite (decide (EI (o4,o4_1)<0)) (.ite true (.ite (A4 (o3,o3_1)&&A4 (1,BB 1)) (.ite (A4 (o4,o4_1)&&A4 (o0,o0_1)) (.leaf (.tup [zq [.dat i64 b',.dat a' c'],zq [.dat i64 d',.dat a' e']]) ([(4,.box [.dat i64 d',.dat a' e']),(3,.box [.dat i64 b',.dat a' c']),(2,.box [.dat i64 d',.dat a' e']),(1,.box [.dat i64 b',.dat a' c']),(0,.box [.dat i64 o0,.dat a' o0_1])])) .fail) .fail) .fail) (.leaf (.tup [zq [.dat i64 o3,.dat a' o3_1],zq [.dat i64 o4,.dat a' o4_1]]) ([(4,.box [.dat i64 o4,.dat a' o4_1]),(3,.box [.dat i64 o3,.dat a' o3_1]),(2,.box [.dat i64 o4,.dat a' o4_1]),(1,.box [.dat i64 o3,.dat a' o3_1]),(0,.box [.dat i64 o0,.dat a' o0_1])]))) .fail:=by kernel_rfl
end T176
namespace T152
def T(a b:Int×List Int):Tr:=tree xP false 9 152 (Af ([zo i64 (zg (ze zd)),zo i64 (zg (ze zd))]) (a,b))
def L1(o2 o1:Int)(o1_1:List Int)(o0:Int)(o0_1:List Int):Tr:=re ((T (0,[]) (0,[])).L.L) (AA 23 [(2,.ptr 0 0),(3,.ptr 1 0),(4,.ptr 2 0)] [(2,.box [.dat i64 o2,.nil]),(1,.box [.dat i64 o1,.dat (zg (ze zd)) o1_1]),(0,.box [.dat i64 o0,.dat (zg (ze zd)) o0_1])] 3)
theorem Al(a b:Int×List Int):T a b=.ite (Dh (fst a,snd a)) (.ite (Dh (fst b,snd b)) (L1 0 (NW (fst b,snd b)) (Oc (fst b,snd b)) (NW (fst a,snd a)) (Oc (fst a,snd a))) .fail) .fail:=by kernel_rfl
theorem An(o2 o1:Int)(o1_1:List Int)(o0:Int)(o0_1:List Int):stepT xP (L1 o2 o1 o1_1 o0 o0_1)=let a':=zg (ze zd);.ite (Dh (o1,o1_1)) (.ite (EI (o1,o1_1) !=0) (.ite (A4 (o0,o0_1)&&A4 (o1,o1_1)&&decide (0<yu (o1,o1_1))) (L1 o2 (Iv (o0,o0_1) (o1,o1_1)) (HS (o0,o0_1) (o1,o1_1)) o1 o1_1) .fail) (.leaf (zq [.dat i64 o0,.dat a' o0_1]) ([(2,.box [.dat i64 o0,.dat a' o0_1]),(1,.box [.dat i64 o1,.dat a' o1_1]),(0,.box [.dat i64 o0,.dat a' o0_1])]))) .fail:=by kernel_rfl
end T152
namespace T216
def T(a:Int×List Int)(k:Int):Tr:=tree vF false 9 216 (Af ([zo i64 (zg (ze zd)),ze yg]) (a,k))
def L1(v1 o2:Int)(o2_1:List Int)(o1 o0:Int)(o0_1:List Int):Tr:=re ((T (0,[]) 0).L) (AA 23 [(1,.dat i64 v1),(2,.ptr 0 0),(4,.ptr 1 0),(5,.ptr 2 0)] [(2,.box [.dat i64 o2,.dat (zg (ze zd)) o2_1]),(1,.box [.dat i64 o1,.nil]),(0,.box [.dat i64 o0,.dat (zg (ze zd)) o0_1])] 3)
theorem Al(a:Int×List Int)(k:Int):T a k=.ite true (L1 k 1 (BB 1) 0 (fst a) (snd a)) .fail:=by kernel_rfl
theorem An(v1 o2:Int)(o2_1:List Int)(o1 o0:Int)(o0_1:List Int):stepT vF (L1 v1 o2 o2_1 o1 o0 o0_1)=let a':=zg (ze zd);let b':=yq v1 (2^1);let c':=A4 (o0,o0_1)&&A4 (o0,o0_1);let d':=EL (o2,o2_1) (o0,o0_1);let e':=EV (o2,o2_1) (o0,o0_1);let f':=EL (o0,o0_1) (o0,o0_1);let g':=EV (o0,o0_1) (o0,o0_1);.ite (decide (v1>0)) (.ite (G8 yg v1 1==1) (.ite (A4 (o2,o2_1)&&A4 (o0,o0_1)) (.ite (decide (v1>1)) (.ite c' (.ite true (L1 b' d' e' o1 f' g') .fail) .fail) (.ite true (L1 b' d' e' o1 o0 o0_1) .fail)) .fail) (.ite (decide (v1>1)) (.ite c' (.ite true (L1 b' o2 o2_1 o1 f' g') .fail) .fail) (.ite true (L1 b' o2 o2_1 o1 o0 o0_1) .fail))) (.leaf (zq [.dat i64 o2,.dat a' o2_1]) ([(2,.box [.dat i64 o2,.dat a' o2_1]),(1,.box [.dat i64 o2,.dat a' o2_1]),(0,.box [.dat i64 o0,.dat a' o0_1])])):=by kernel_rfl
end T216
namespace T230
def T(a b:List Int):Tr:=tree Jm false 9 230 (Af ([zf (ze zd),zf (ze zd)]) (a,b))
def L1(v0 v1:List Int)(v6n:Nat)(v7 v8:Int)(o0:List Int):Tr:=re ((T [] []).L.R.L.L) (AA 137 [(0,.dat (zf (ze zd)) v0),(1,.dat (zf (ze zd)) v1),(6,.sl 0 1 0 v6n none),(7,.dat (ze zd) v7),(8,.dat i64 v8)] [(0,.arr false 130 (ze zd) o0)] 1)
def L2(a b:List Int)(v1:Int)(v5n:Nat)(v12:List Int)(v13 v14:Int)(o0:List Int):Tr:=re ((T a b).L.R.R.L.L.L) (AA 40 [(1,.dat i64 v1),(5,.sl 0 1 0 v5n none),(12,.dat (zf (ze zd)) v12),(13,.dat i64 v13),(14,.dat i64 v14)] [(0,.arr false 130 (ze zd) o0)] 1)
theorem Al(a b:List Int):T a b=let a':=(length b:Int);let b':=(length a:Int);let c':=zc .i64 (a'+1);let d':=getD b (toNat (zc .i64 (a'-1))) 0;.ite (B4 a&&B4 b) (.ite (decide (BO (Ak a) (Ak b)<0)) (.leaf (.tup [.nil,.dat (zf (ze zd)) a]) []) (.ite (a'==1) (.ite (decide (0<=b')&&decide (b'=b')&&decide (8*toNat b'<=281474976710656)&&decide (b'<9223372036854775808)) (L1 a b (toNat b') 0 (zc .i64 (b'-1)) (replicate (toNat b') 0)) .fail) (.ite (decide (0<=zc .i64 (a'-1))&&decide (zc .i64 (a'-1)<a')) (.ite (zu d') (.ite (decide (0<=zc .i64 (a'+1))&&decide (zc .i64 (a'+1)=zc .i64 (a'+1))&&decide (8*toNat c'<=281474976710656)&&decide (zc .i64 (a'+1)<9223372036854775808)) (L2 a b (Sp.lz d') (toNat c') b (a') 0 (replicate (toNat c') 0)) .fail) .fail) .fail))) .fail:=by kernel_rfl
theorem An(v0 v1:List Int)(v6n:Nat)(v7 v8:Int)(o0:List Int):stepT Jm (L1 v0 v1 v6n v7 v8 o0)=let a':=ze zd;let b':=getD v0 (toNat v8) 0;.ite (decide (v8>=0)) (.ite (decide (0<=v8)&&decide (v8<(length v0:Int))) (.ite (decide (0<(length v1:Int))) (.ite (zu v7&&zu b'&&zu (getD v1 0 0)&&decide (v7<getD v1 0 0)) (.ite (decide (0<=v8)&&decide (v8<(↑v6n:Int))) (.ite (decide (toNat v8<length o0)) (L1 v0 v1 v6n (Sp.dr v7 b' (getD v1 0 0)) (zc .i64 (v8-1)) (set o0 (toNat v8) (Sp.dq v7 b' (getD v1 0 0)))) .fail) .fail) .fail) .fail) .fail) (.ite (decide (0+v6n<=length o0)&&true&&CL (take v6n o0)) (.ite (decide (1<=1)&&true&&CL [v7]) (.leaf (.tup [.dat (zf a') (Au (take v6n o0)),.dat (zf a') (Au [v7])]) ([(1,.arr true 130 a' [v7]),(0,.arr true 130 a' o0)])) .fail) .fail):=by kernel_rfl
def L3(a b:List Int)(v1:Int)(v5n:Nat)(v12:List Int)(v13 v14:Int)(o0:List Int)(v1':Int)(v5n':Nat)(v12':List Int)(v13':Int)(v14':Int)(o1:List Int)(o0':List Int):Tr:=re ((stepT Jm (L2 a b v1 v5n v12 v13 v14 o0)).R.L.L) (AA 40 [(1,.dat i64 v1'),(5,.sl 1 1 0 v5n' none),(12,.dat (zf (ze zd)) v12'),(13,.dat i64 v13'),(14,.dat i64 v14')] [(1,.arr false 130 (ze zd) o1),(0,.arr true 130 (ze zd) o0')] 2)
theorem AZ(a b:List Int)(v1:Int)(v5n:Nat)(v12:List Int)(v13 v14:Int)(o0:List Int):stepT Jm (L2 a b v1 v5n v12 v13 v14 o0)=let a':=set o0 (toNat v14) (ZG zd (getD o0 (toNat v14) 0) (zc .u64 (getD v12 (toNat v14) 0*2^yt (toNat v1) 64)));let b':=(length a:Int)+1;let c':=zc .i64 (v14+1);let e':=decide (0<=v14)&&decide (v14<(↑v5n:Int));let f':=decide (toNat v14<length o0);let d':=zc .i64 b';.ite (decide (v14<v13)) (.ite (decide (0<=v14)&&decide (v14<(length v12:Int))) (.ite e' (.ite f' (.ite (decide (0<=v1)) (.ite e' (.ite f' (.ite (decide (v1>0)) (.ite (decide (0<=zc .i64 (64-v1))) (.ite (decide (0<=zc .i64 (v14+1))&&decide (zc .i64 (v14+1)<(↑v5n:Int))) (.ite (decide (toNat c'<length a')) (L2 a b v1 v5n v12 v13 c' (set a' (toNat c') (yq (getD v12 (toNat v14) 0) (2^yt (toNat (zc .i64 (64-v1))) 64)))) .fail) .fail) .fail) (L2 a b v1 v5n v12 v13 c' a')) .fail) .fail) .fail) .fail) .fail) .fail) (.ite (decide (0+v5n<=length o0)&&true&&CL (take v5n o0)) (.ite (decide (0<=zc .i64 b')&&decide (zc .i64 b'=zc .i64 b')&&decide (8*toNat d'<=281474976710656)&&decide (zc .i64 b'<9223372036854775808)) (L3 a b v1 v5n v12 v13 v14 o0 (Sp.lz (getD b (toNat (zc .i64 ((length b:Int)-1))) 0)) (toNat d') a ((length a:Int)) 0 (replicate (toNat d') 0) o0) .fail) .fail):=by kernel_rfl
def L4(v9:Int)(v10:List Int)(v11n:Nat)(v12:Int)(v13n:Nat)(v14:Int)(o1 o0:List Int):Tr:=re ((stepT Jm (L3 [] [] 0 0 [] 0 0 [] 0 0 [] 0 0 [] [])).R.L) (AA 137 [(9,.dat i64 v9),(10,.dat (zf (ze zd)) v10),(11,.sl 0 1 0 v11n none),(12,.dat i64 v12),(13,.sl 1 1 0 v13n none),(14,.dat i64 v14)] [(1,.arr false 130 (ze zd) o1),(0,.arr false 130 (ze zd) o0)] 2)
theorem CU(a b:List Int)(v1:Int)(v5n:Nat)(v12:List Int)(v13 v14:Int)(o0:List Int)(v1':Int)(v5n':Nat)(v12':List Int)(v13':Int)(v14':Int)(o1:List Int)(o0':List Int):stepT Jm (L3 a b v1 v5n v12 v13 v14 o0 v1' v5n' v12' v13' v14' o1 o0')=let b':=set o1 (toNat v14') (ZG zd (getD o1 (toNat v14') 0) (zc .u64 (getD v12' (toNat v14') 0*2^yt (toNat v1') 64)));let c':=zc .i64 (v14'+1);let e':=decide (0<=v14')&&decide (v14'<(↑v5n':Int));let g':=decide (toNat v14'<length o1);let h':=Au (take v5n o0);let d':=(↑(length h'):Int);let a':=zc .i64 ((length a:Int)-d')+1;let f':=zc .i64 a';.ite (decide (v14'<v13')) (.ite (decide (0<=v14')&&decide (v14'<(↑(length v12'):Int))) (.ite e' (.ite g' (.ite (decide (0<=v1')) (.ite e' (.ite g' (.ite (decide (v1'>0)) (.ite (decide (0<=zc .i64 (64-v1'))) (.ite (decide (0<=zc .i64 (v14'+1))&&decide (zc .i64 (v14'+1)<(↑v5n':Int))) (.ite (decide (toNat c'<length b')) (L3 a b v1 v5n v12 v13 v14 o0 v1' v5n' v12' v13' c' (set b' (toNat c') (yq (getD v12' (toNat v14') 0) (2^yt (toNat (zc .i64 (64-v1'))) 64))) o0') .fail) .fail) .fail) (L3 a b v1 v5n v12 v13 v14 o0 v1' v5n' v12' v13' c' b' o0')) .fail) .fail) .fail) .fail) .fail) .fail) (.ite (decide (0<=zc .i64 a')&&decide (zc .i64 a'=zc .i64 a')&&decide (8*toNat f'<=281474976710656)&&decide (zc .i64 a'<9223372036854775808)) (L4 (Sp.lz (getD b (toNat (zc .i64 ((length b:Int)-1))) 0)) h' v5n' (d') (toNat f') (zc .i64 ((length a:Int)-d')) (replicate (toNat f') 0) o1) .fail):=by kernel_rfl
def L5(v9:Int)(v10:List Int)(v11n:Nat)(v12:Int)(v13n:Nat)(v14:Int)(o1 o0:List Int)(v0o v0n v0c:Nat)(v1:List Int)(v5 v6 v7 v8:Int)(o1':List Int)(o0':List Int):Tr:=re ((stepT Jm (L4 v9 v10 v11n v12 v13n v14 o1 o0)).L.L.L.L.L.L.L.L.L.L) (AA 186 [(0,.sl 0 1 v0o v0n (Option.some v0c)),(1,.dat (zf (ze zd)) v1),(5,.dat i64 v5),(6,.dat (ze zd) v6),(7,.dat (ze zd) v7),(8,.dat (ze zd) v8)] [(1,.arr false 130 (ze zd) o1'),(0,.arr false 130 (ze zd) o0')] 2)
def L6(v9:Int)(v11n:Nat)(v12:Int)(v13n:Nat)(v96 v97:Int)(o1 o0:List Int):Tr:=re ((stepT Jm (L4 0 [] 0 0 0 0 [] [])).R) (AA 137 [(9,.dat i64 v9),(11,.sl 0 1 0 v11n none),(12,.dat i64 v12),(13,.sl 1 1 0 v13n none),(96,.dat i64 v96),(97,.dat i64 v97)] [(1,.arr false 130 (ze zd) o1),(0,.arr false 130 (ze zd) o0)] 2)
theorem Ct(v9:Int)(v10:List Int)(v11n:Nat)(v12:Int)(v13n:Nat)(v14:Int)(o1 o0:List Int):stepT Jm (L4 v9 v10 v11n v12 v13n v14 o1 o0)=let c':=(length v10:Int);let d':=zk 0 (toNat v14);let k':=zt (zw none v11n) (toNat v14);let p':=zc .i64 (v14+v12)+1;let a':=toNat (zc .i64 (c'-1));let g':=zc .i64 p';let h':=zk (toNat c') d';let l':=decide (zk (toNat c') d'<length o0);let n':=decide (0<=zc .i64 (c'-1));let b':=zt (toNat g') (toNat v14);let e':=n'&&decide (zc .i64 (c'-1)<c');let f':=getD o0 (zk a' d') 0;let j':=getD v10 a' 0;let o':=decide (zk a' d'<length o0);let q':=getD o0 h' 0;let i':=n'&&decide (zc .i64 (c'-1)<(↑b':Int));let m':=decide (0<=c')&&decide (c'<(↑b':Int));.ite (decide (v14>=0)) (.ite (decide (0<=v14)&&decide (0<=zc .i64 p')&&true&&decide (toNat v14<=toNat g')&&decide (toNat g'<=zw none v11n)&&decide (zw none v11n<=zw none v11n)&&true) (.ite m' (.ite l' (.ite e' (.ite (decide (getD o0 h' 0>=getD v10 a' 0)) (.ite i' (.ite o' (.ite e' (.ite (zu f'&&zu j'&&decide ((0:yr (BE [u64]))<=0)&&decide (0<=(1:yr (BE [u64])))) (L5 v9 v10 v11n v12 v13n v14 o1 o0 d' b' k' v10 (c') 18446744073709551615 (HM f' j' 0) (PJ f' j' 0) o1 o0) .fail) .fail) .fail) .fail) (.ite m' (.ite l' (.ite i' (.ite o' (.ite e' (.ite (zu q'&&zu f'&&zu j'&&decide (getD o0 h' 0<getD v10 a' 0)) (L5 v9 v10 v11n v12 v13n v14 o1 o0 d' b' k' v10 (c') (Sp.dq q' f' j') (Sp.dr q' f' j') 0 o1 o0) .fail) .fail) .fail) .fail) .fail) .fail)) .fail) .fail) .fail) .fail) (L6 v9 v11n v12 v13n v12 0 o1 o0):=by kernel_rfl
def L7(v9:Int)(v10:List Int)(v11n:Nat)(v12:Int)(v13n:Nat)(v14:Int)(o1 o0:List Int)(v0o v0n v0c:Nat)(v1:List Int)(v5 v6 v11:Int)(v12':Int)(v104 v105:Int)(o1':List Int)(o0':List Int):Tr:=re ((stepT Jm (L5 v9 v10 v11n v12 v13n v14 o1 o0 0 0 0 [] 0 0 0 0 [] [])).L.L.L.L) (AA 186 [(0,.sl 0 1 v0o v0n (Option.some v0c)),(1,.dat (zf (ze zd)) v1),(5,.dat i64 v5),(6,.dat (ze zd) v6),(11,.dat (ze zd) v11),(12,.dat (ze zd) v12'),(104,.dat i64 v104),(105,.dat i64 v105)] [(1,.arr false 130 (ze zd) o1'),(0,.arr false 130 (ze zd) o0')] 2)
theorem Ei(v9:Int)(v10:List Int)(v11n:Nat)(v12:Int)(v13n:Nat)(v14:Int)(o1 o0:List Int)(v0o v0n v0c:Nat)(v1:List Int)(v5 v6 v7 v8:Int)(o1':List Int)(o0':List Int):stepT Jm (L5 v9 v10 v11n v12 v13n v14 o1 o0 v0o v0n v0c v1 v5 v6 v7 v8 o1' o0')=let b':=toNat (zc .i64 (v5-2));let c':=L7 v9 v10 v11n v12 v13n v14 o1 o0 v0o v0n v0c v1 v5 v6 0 0 v5 0 o1' o0';let d':=getD v1 (toNat (zc .i64 (v5-1))) 0;let f':=decide (0<=zc .i64 (v5-2));let a':Tr:=.ite (decide (0<=zc .i64 (v5-1))&&decide (zc .i64 (v5-1)<(length v1:Int))) (.ite (zu v7&&zu d'&&decide ((0:yr (BE [u64]))<=0)&&decide (0<=(1:yr (BE [u64])))) (L5 v9 v10 v11n v12 v13n v14 o1 o0 v0o v0n v0c v1 v5 (zc .u64 (v6-1)) (HM v7 d' 0) (PJ v7 d' 0) o1' o0') .fail) .fail;let e':=getD v1 b' 0;.ite (v8==0) (.ite (f'&&decide (zc .i64 (v5-2)<(length v1:Int))) (.ite (zu v6&&zu e') (.ite (decide (Qg v6 e'<v7)) c' (.ite (Qg v6 e'==v7) (.ite (f'&&decide (zc .i64 (v5-2)<(↑v0n:Int))) (.ite (decide (zk b' v0o<length o0')) (.ite (decide (Il v6 e'<=getD o0' (zk b' v0o) 0)) c' a') .fail) .fail) a')) .fail) .fail) c':=by kernel_rfl
theorem Eo(v9:Int)(v11n:Nat)(v12:Int)(v13n:Nat)(v96 v97:Int)(o1 o0:List Int):stepT Jm (L6 v9 v11n v12 v13n v96 v97 o1 o0)=let a':=set o0 (toNat v97) (yq (getD o0 (toNat v97) 0) (2^yt (toNat v9) 64));let b':=decide (0<=v97)&&decide (v97<(↑v11n:Int));let c':=zc .i64 (v97+1);let d':=ze zd;let e':=decide (zc .i64 (v97+1)<(↑v11n:Int));let g':=decide (toNat v97<length o0);let f':=L6 v9 v11n v12 v13n v96 c' o1 a';let h':=decide (toNat v97<length a');.ite (decide (v97<v96)) (.ite b' (.ite g' (.ite (decide (0<=v9)) (.ite b' (.ite g' (.ite (decide (v9>0)) (.ite (e') (.ite b' (.ite h' (.ite (decide (0<=zc .i64 (v97+1))&&e') (.ite (decide (toNat c'<length a')) (.ite (decide (0<=zc .i64 (64-v9))) (.ite b' (.ite h' (L6 v9 v11n v12 v13n v96 c' o1 (set a' (toNat v97) (ZG zd (getD a' (toNat v97) 0) (zc .u64 (getD a' (toNat c') 0*2^yt (toNat (zc .i64 (64-v9))) 64))))) .fail) .fail) .fail) .fail) .fail) .fail) .fail) f') f') .fail) .fail) .fail) .fail) .fail) (.ite (decide (0<=v12)&&true&&decide (0<=toNat v12)&&decide (toNat v12<=zw none v11n)&&decide (zw none v11n<=zw none v11n)&&true) (.ite (decide (0+v13n<=length o1)&&true&&CL (take v13n o1)) (.ite (decide (0+toNat v12<=length o0)&&true&&CL (take (toNat v12) o0)) (.leaf (.tup [.dat (zf d') (Au (take v13n o1)),.dat (zf d') (Au (take (toNat v12) o0))]) ([(1,.arr true 130 d' o1),(0,.arr true 130 d' o0)])) .fail) .fail) .fail):=by kernel_rfl
def L8(v9:Int)(v10:List Int)(v11n:Nat)(v12:Int)(v13n:Nat)(v14:Int)(o1 o0:List Int)(v0o v0n v0c:Nat)(v1:List Int)(v5 v6 v17 v156 v157:Int)(o1':List Int)(o0':List Int):Tr:=re ((stepT Jm (L7 v9 v10 v11n v12 v13n v14 o1 o0 0 0 0 [] 0 0 0 0 0 0 [] [])).R.L.L.L.L.L.R) (AA 186 [(0,.sl 0 1 v0o v0n (Option.some v0c)),(1,.dat (zf (ze zd)) v1),(5,.dat i64 v5),(6,.dat (ze zd) v6),(17,.dat (ze zd) v17),(156,.dat i64 v156),(157,.dat i64 v157)] [(1,.arr false 130 (ze zd) o1'),(0,.arr false 130 (ze zd) o0')] 2)
theorem ES(v9:Int)(v10:List Int)(v11n:Nat)(v12:Int)(v13n:Nat)(v14:Int)(o1 o0:List Int)(v0o v0n v0c:Nat)(v1:List Int)(v5 v6 v11:Int)(v12':Int)(v104 v105:Int)(o1':List Int)(o0':List Int):stepT Jm (L7 v9 v10 v11n v12 v13n v14 o1 o0 v0o v0n v0c v1 v5 v6 v11 v12' v104 v105 o1' o0')=let b':=zk (toNat v5) v0o;let d':=getD v1 (toNat v105) 0;let e':=decide (zk (toNat v105) v0o<length o0');let g':=decide (zk (toNat v5) v0o<length o0');let h':=decide (0<=v105)&&decide (v105<(↑v0n:Int));let i':=(0:yr (BE [u64]));let j':=(1:yr (BE [u64]));let k':=decide (0<=v5)&&decide (v5<(↑v0n:Int));let n':=zk (toNat v105) v0o;let a':=Il v6 d';let c':=getD o0' n' 0;let m':=getD o0' b' 0;let f':=set o0' b' (SU m' v12' v11);let l':=HM a' v12' 0;.ite (decide (v105<v104)) (.ite (decide (0<=v105)&&decide (v105<(length v1:Int))) (.ite (zu v6&&zu d') (.ite (zu a'&&zu v12'&&decide (i'<=0)&&decide (0<=j')) (.ite h' (.ite e' (.ite (zu c'&&zu l'&&decide (i'<=v11)&&decide (v11<=j')) (.ite h' (.ite e' (L7 v9 v10 v11n v12 v13n v14 o1 o0 v0o v0n v0c v1 v5 v6 (PL c' l' v11) (zc .u64 (Qg v6 d'+PJ a' v12' 0)) v104 (zc .i64 (v105+1)) o1' (set o0' n' (SU c' l' v11))) .fail) .fail) .fail) .fail) .fail) .fail) .fail) .fail) (.ite k' (.ite g' (.ite (zu m'&&zu v12'&&decide (i'<=v11)&&decide (v11<=j')) (.ite k' (.ite g' (.ite (PL m' v12' v11==0) (.ite (decide (0<=v14)&&decide (v14<(↑v13n:Int))) (.ite (decide (toNat v14<length o1')) (L4 v9 v10 v11n v12 v13n (zc .i64 (v14-1)) (set o1' (toNat v14) v6) f') .fail) .fail) (L8 v9 v10 v11n v12 v13n v14 o1 o0 v0o v0n v0c v1 v5 v6 0 v5 0 o1' f')) .fail) .fail) .fail) .fail) .fail):=by kernel_rfl
theorem HL(v9:Int)(v10:List Int)(v11n:Nat)(v12:Int)(v13n:Nat)(v14:Int)(o1 o0:List Int)(v0o v0n v0c:Nat)(v1:List Int)(v5 v6 v17 v156 v157:Int)(o1':List Int)(o0':List Int):stepT Jm (L8 v9 v10 v11n v12 v13n v14 o1 o0 v0o v0n v0c v1 v5 v6 v17 v156 v157 o1' o0')=let b':=decide (zk (toNat v157) v0o<length o0');let c':=getD v1 (toNat v157) 0;let d':=decide (zk (toNat v5) v0o<length o0');let e':=decide (0<=v157)&&decide (v157<(↑v0n:Int));let f':=decide (0<=v5)&&decide (v5<(↑v0n:Int));let g':=zk (toNat v157) v0o;let h':=zk (toNat v5) v0o;let a':=getD o0' g' 0;.ite (decide (v157<v156)) (.ite e' (.ite b' (.ite (decide (0<=v157)&&decide (v157<(length v1:Int))) (.ite (zu a'&&zu c'&&decide ((0:yr (BE [u64]))<=v17)&&decide (v17<=(1:yr (BE [u64])))) (.ite e' (.ite b' (L8 v9 v10 v11n v12 v13n v14 o1 o0 v0o v0n v0c v1 v5 v6 (PJ a' c' v17) v156 (zc .i64 (v157+1)) o1' (set o0' g' (HM a' c' v17))) .fail) .fail) .fail) .fail) .fail) .fail) (.ite f' (.ite d' (.ite f' (.ite d' (.ite (decide (0<=v14)&&decide (v14<(↑v13n:Int))) (.ite (decide (toNat v14<length o1')) (L4 v9 v10 v11n v12 v13n (zc .i64 (v14-1)) (set o1' (toNat v14) (zc .u64 (v6-1))) (set o0' h' (zc .u64 (getD o0' h' 0+v17)))) .fail) .fail) .fail) .fail) .fail) .fail):=by kernel_rfl
end T230
end
namespace T230
variable {Q:PV->Ob->Prop}
theorem dqr{r x d:Int}(hd:0<d)(hr:0<=r/\r<d)(hx:0<=x/\x<18446744073709551616):Sp.dq r x d*d+Sp.dr r x d=r*18446744073709551616+x/\0<=Sp.dq r x d/\Sp.dq r x d<18446744073709551616/\0<=Sp.dr r x d/\Sp.dr r x d<d:=by
 unfold Sp.dq Sp.dr;have h:=Int.mul_ediv_add_emod (r*18446744073709551616+x) d;rw[yn]at h;refine⟨h,Int.ediv_nonneg (by omega) (by omega),Int.ediv_lt_of_lt_mul hd (by omega),Int.emod_nonneg _ (by omega),Int.emod_lt_of_pos _ hd⟩
theorem Ap(a:List Int)(d:Int)(ha:Av Ai a)(hd:0<d/\d<18446744073709551616)(hm:a.length<=20000)(hq:∀q r ob,Av Ai q->(0<=r/\r<d)->Ak a=Ak q*d+r->Q (.tup [.dat Dc (Au q),.dat Dc (Au [r])]) ob):∀(i:Nat) (q:List Int) (r:Int),i+q.length=a.length->Av Ai q->(0<=r/\r<d)->Sp.val Ai (a.drop i)=Sp.val Ai q*d+r->
  Ends Jm (L1 a [d] a.length r ((i:Int)-1) (z8 i 0++q)) Q
 |0,q,r,hl,hdq,hr,he=>by
  have ht:((z8 0 0++q).take a.length)=q:=by
   rw[List.replicate_zero,List.nil_append];exact List.take_of_length_le (by omega)
  refine Ends.Am (An ..) (Ends.ff (by simp) ?_);rw[ht];refine zr (Ab (by simp;omega) (Eg (by omega) hdq)) (zr (Ab rfl (Eg (by simp) (fun x hx=>by rw[List.mem_singleton]at hx;subst hx;exact⟨hr.1,by show x<18446744073709551616;omega⟩))) (ya (hq q r _ hdq hr he)))
 |i+1,q,r,hl,hdq,hr,he=>by
  have e1:(((i+1:Nat):Int)-1)=(i:Int):=by omega
  have gx:=AT ha i;obtain⟨d1,d2,d3,d4,d5⟩:=dqr hd.1 hr (Sp.AY gx);have da:a.drop i=a.getD i 0::a.drop (i+1):=by
   rw[List.getD_eq_getElem?_getD,List.getElem?_eq_getElem (by omega)];exact List.drop_eq_getElem_cons (by omega)
  have es:∀x,(z8 (i+1) (0:Int)++q).set i x=z8 i 0++(x::q):=by
   intro x;rw[List.replicate_succ',ye];exact Dj _ _ _ _ (by simp)
  rw[e1];refine Ends.Am (An ..) (zr (by simp) ?_);rw[yd,es,wr ((i:Int)-1) (by omega) (by omega)];refine zr (by simp;omega) (zr (by simp) (zr ?_ (zr (by simp;omega) (zr (by simp;omega) ?_))))
  ·exact Ab (Ab (Ab (CA hr.1 (by omega)) gx) (CA (by show 0<=d;omega) hd.2)) (w4 hr.2)
  ·refine Ap a d ha hd hm hq i _ _ (by simp;omega) (fun x hx=>?_) ⟨d4,d5⟩ ?_
   ·rcases List.mem_cons.1 hx with rfl|hx
    ·exact⟨d2,d3⟩
    ·exact hdq x hx
   ·rw[da];show a.getD i 0+(18446744073709551616:Int)*Sp.val Ai (a.drop (i+1))=(Sp.dq r (a.getD i 0) d+(18446744073709551616:Int)*Sp.val Ai q)*d+Sp.dr r (a.getD i 0) d;rw[he,yj,yk,yc];omega
end T230
end Go.Pe
namespace Go.Sp
theorem UK{B P u0 u1 u2 u' v1 v2 v' q r:Int}(hP:0<P)(hv:0<=v')(hu:u'<P)(hq:0<=q)(he:q*v1+r=u0*B+u1)(h:r*B+u2<q*v2):
  ((u0*B+u1)*B+u2)*P+u'<q*((v1*B+v2)*P+v'):=by
 have e:q*(v1*B+v2)=q*v1*B+q*v2:=by rw[yk,yc]
 have e2:(u0*B+u1)*B=q*v1*B+r*B:=by rw[<-he,yj]
 have h1:(u0*B+u1)*B+u2+1<=q*(v1*B+v2):=by rw[e,e2];omega
 have h2:=zl h1 (yb hP);have h3:0<=q*v':=Int.mul_nonneg hq hv;rw[yk q, <-yc];rw[yj,Int.one_mul]at h2;omega
theorem SY{B P u0 u1 u2 u' v1 v2 v' q r:Int}(hP:0<P)(hv:0<=v'/\v'<P)(hu:0<=u')(hq:0<=q/\q<B)(hv1:1<=v1)(hv2:0<=v2)(he:q*v1+r=u0*B+u1)(h:q*v2<=r*B+u2):
  q*((v1*B+v2)*P+v')<((u0*B+u1)*B+u2)*P+u'+((v1*B+v2)*P+v'):=by
 have e:q*(v1*B+v2)=q*v1*B+q*v2:=by rw[yk,yc]
 have e2:(u0*B+u1)*B=q*v1*B+r*B:=by rw[<-he,yj]
 have h1:q*(v1*B+v2)<=(u0*B+u1)*B+u2:=by rw[e,e2];omega
 have h2:=zl h1 (yb hP);have h3:q*v'<=(B-1)*P:=Int.le_trans (Int.mul_le_mul_of_nonneg_left (yb hv.2) hq.1) (zl (by omega) (yb hP));have h4:B<=v1*B+v2:=by
  have:=zl hv1 (show 0<=B by omega);omega
 have h5:=zl h4 (yb hP);rw[Int.sub_mul,Int.one_mul]at h3;rw[yk q, <-yc];omega
end Go.Sp
