import Derived.Test.YtjbmodoofdpgcaaGreatDoorX12
import Derived.ChangeSame
/- A part of a proof; no law is stated here. -/
noncomputable section
set_option maxRecDepth 10000
open Go.IntKind renaming wrap -> zc, i64 -> ye
open Go.Pe.Ends renaming tt -> zd, leaf -> zf, ite -> zh, Av -> zm, eq -> zn, ff -> zo
open Bool renaming and_eq_true -> ze, true_and -> yn
open Go.Pe.Sh renaming str -> zg, list -> zl, bool -> zq, pair -> yu, int -> qx
open Rat renaming divInt -> zi, num_intCast -> yj, floor_def -> qh, den_intCast -> qn, num_divInt -> qq
open Go.Lib renaming decDigits -> zj, itoa -> yv, decDigits_one -> qd
open Int renaming toNat_natCast -> zk, lt_of_lt_of_le -> zu, tmod -> z7, eq_ofNat_of_zero_le -> z8, mul_le_mul_of_nonneg_left -> yb, tdiv -> yd, le_of_lt -> yi, lt_of_le_of_lt -> yk, natAbs_natCast -> ym, gcd -> yo, mul_ne_zero -> yt, tmod_eq_emod_of_nonneg -> yx, natCast_nonneg -> yy, natAbs_ediv_le_natAbs -> yz, one_mul -> qe, mul_neg -> qg, mul_ediv_cancel_left -> qi, tdiv_eq_ediv_of_dvd -> qk, mul_zero -> ql, add_zero -> qm, ediv_nonneg -> qo, mul_add -> qt, mul_nonneg -> qu, natAbs_mul -> qv, add_assoc -> qw, ofNat_lt -> qy, gcd_comm -> q9
open Go.Sp renaming rW -> zp, rN -> zr, AN -> yg, B9 -> yq, C6 -> qf, gI -> qz
open Go.Pe.Ac renaming of -> zt
open Go.DataW renaming trod -> zw
open List renaming take_of_length_le -> zx, drop_eq_nil_of_le -> zy, length_drop -> zz, length_cons -> z6, length_append -> yc, length_eq_zero_iff -> qj, take -> jc
open Nat renaming pow_le_pow_right -> yf, sub -> yh, add_sub_cancel -> yw, le_refl -> qc, add -> je
open UInt8 renaming ofNat -> yp, toNat_inj -> yr
open Go.Pe.PV renaming agg -> qp
namespace Go.Sp
def vR(a:Bool×List Int):Int:=if a.1=true then -Aj a.2 else Aj a.2
def Cb(a:Bool×List Int):Bool:=AW a.2&&decide (a.2.length<=3000)&&(!a.1||decide (a.2≠[]))
def Ht(l:List Int)(i:Int):Int:=l.getD i.toNat 0
def fC(a b:List Int):Bool:=AW a&&AW b&&decide (a.length<=9000)&&decide (b.length<=9000)
def GH(a b:List Int):List Int:=BA<|Aj a+Aj b
def HN(a b:List Int):List Int:=BA<|Aj a-Aj b
def LA(a b:Bool×List Int):Bool:=rN<|vR a+vR b
def LO(a b:Bool×List Int):List Int:=rW<|vR a+vR b
def G9(a b:Bool×List Int):Bool:=rN<|vR a*vR b
def GU(a b:Bool×List Int):List Int:=rW<|vR a*vR b
def Qz(a:Bool×List Int):Bool:=rN<| -vR a
def QS(a:Bool×List Int):List Int:=rW<| -vR a
def Ic(a b:Bool×List Int):Bool:=rN<|vR a/vR b
def Ih(a b:Bool×List Int):List Int:=rW<|vR a/vR b
def FB(a:Bool×List Int):Rd:=B6<|vR a
def Ia(n d:Bool×List Int):Rd:=B4 (vR n)<|vR d
def dY(a:Rd):Int:=if DN a=true then H2 a else 0
def RO(a:Rd):Int:=if DN a=true then Q7 a else 0
def F7(a b:Rd):Rd:=AX<|AO a+AO b
def Ll(a b:Rd):Rd:=AX<|AO a-AO b
def Ja(a b:Rd):Rd:=AX<|AO a*AO b
def Qq(a:Rd):Rd:=AX (AO a)⁻¹
def HI(a b:Rd):Rd:=AX<|AO a/AO b
def X0(a b:Rd):Int:=if AO a<AO b then -1 else if AO b<AO a then 1 else 0
def Fg(a:Rd):Rd:=B6 (AO a).floor
def GX(a:Rd):Bool:= !Bu a
def FV(a:Rd):Bool:=Br a&&decide (a.length<=3000)
def XS(a:Rd):Bool:=FV a&&decide (AO a≠0)
end Go.Sp
variable {Q:Go.Pe.PV->Go.Pe.Ob->Prop}
namespace Go.Pe
open Sp
open Go.Det
def T2:Aq:=⟨[li,i64],fun i=>decide (0<=(i.2:Int)),[i64],fun i=>Ht i.1 i.2,false⟩
def Vj:Aq:=⟨[li,li],fun i=>fC i.1 i.2,[li],fun i=>GH i.1 i.2,false⟩
def U5:Aq:=⟨[li,li],fun i=>fC i.1 i.2&&decide (Aj i.2<=Aj i.1),[li],fun i=>HN i.1 i.2,false⟩
def dQ:Aq:=⟨[He,He],fun i=>Cb i.1&&Cb i.2,[He],fun i=>(LA i.1 i.2,LO i.1 i.2),false⟩
def VQ:Aq:=⟨[He,He],fun i=>Cb i.1&&Cb i.2,[He],fun i=>(G9 i.1 i.2,GU i.1 i.2),false⟩
def WK:Aq:=⟨[He],fun a=>Cb a,[He],fun a=>(Qz a,QS a),false⟩
def WS:Aq:=⟨[He,He],fun i=>Cb i.1&&Cb i.2&&decide (0<Sp.vR i.2),[He],fun i=>(Ic i.1 i.2,Ih i.1 i.2),false⟩
def Rj:Aq:=⟨[He],fun a=>Cb a,[.str],fun a=>FB a,false⟩
def OB:Aq:=⟨[He,He],fun i=>Cb i.1&&Cb i.2&&decide (Sp.vR i.2≠0),[.str],fun i=>Ia i.1 i.2,false⟩
def WE:Aq:=⟨[i64,i64],fun i=>B5 i.1&&B5 i.2&&decide ((i.2:Int)≠0),[.str],fun i=>B4 i.1 i.2,false⟩
def Mu:Aq:=⟨[.str],fun s=>Br s,[i64,i64,.bool],fun s=>(dY s,RO s,DN s),false⟩
def O9:Aq:=⟨[.str,.str],fun i=>Br i.1&&Br i.2,[.str],fun i=>F7 i.1 i.2,false⟩
def cN:Aq:=⟨[.str,.str],fun i=>Br i.1&&FV i.2,[.str],fun i=>Ll i.1 i.2,false⟩
def PB:Aq:=⟨[.str,.str],fun i=>Br i.1&&Br i.2,[.str],fun i=>Ja i.1 i.2,false⟩
def oT:Aq:=⟨[.str],fun s=>XS s,[.str],fun s=>Qq s,false⟩
def oA:Aq:=⟨[.str,.str],fun i=>Br i.1&&XS i.2,[.str],fun i=>HI i.1 i.2,false⟩
def nE:Aq:=⟨[.str,.str],fun i=>Br i.1&&FV i.2,[i64],fun i=>X0 i.1 i.2,false⟩
def Vx:Aq:=⟨[.str],fun s=>Br s,[.str],fun s=>Fg s,false⟩
def QZ:Aq:=⟨[.str],fun s=>decide (s.length<=1000000),[.bool],fun s=>GX s,false⟩
def XR0[Srt]:A0:=X7 []
def Ty[Srt]:A0:=X7 [(190,T2),(188,QR)]
def wE[Srt]:A0:=X7 [(128,GG),(129,Vj),(130,Wz),(131,U5),(132,V4),(127,Pp)]
def zD[Srt]:A0:=X7 [(111,Nk)]
def gA[Srt]:A0:=fZ [(75,[3,7,9])] [] [(75,[(3,[2,3]),(7,[8,10]),(9,[8,10])])] [(126,WK),(106,JW),(127,Pp),(128,GG),(108,Rj)]
def Yx[Srt]:A0:=fZ [(52,[3,5,7,11])] [] [(52,[(3,[0,1]),(5,[0,1]),(7,[0,1]),(11,[1,6])])] [(109,Iz),(75,OB),(110,oU),(111,Nk)]
def pE[Srt]:A0:=fZ [(26,[5]),(51,[5])] [] [(26,[(5,[0,1])]),(51,[(5,[0,1])])] [(73,Mu),(52,WE),(74,ME),(76,dQ),(77,VQ),(75,OB)]
def zO[Srt]:A0:=X7 [(186,oT),(51,PB),(26,O9),(112,aO)]
def XR8[Srt]:A0:=X7 [(54,cN),(107,RF),(104,OF),(70,dH),(71,nJ),(72,YV)]
def XR9[Srt]:A0:=X7 [(74,ME),(185,WS),(108,Rj),(123,QZ)]
def TY:Aq:=⟨[],fun _=>true,[.bool],fun _=>true,false⟩
theorem ZF[Srt]:Ag Bh 6 TY:=by
 refine .zW ⟨by kernel_rfl,BR ag,fun F h args i c b d a _=>?_⟩;have g:args=[]:=by
  have:=a (fun _=>none) 0;simpa [Af,TY]using this
 subst g;refine⟨[(.bool true,h)],1,fun m k=>?_,fun _=>⟨_,rfl⟩,fun x f=>?_⟩
 ·obtain⟨e,rfl⟩:∃e,m=e+1:=⟨m-1,by omega⟩;have j:Bh.spec 6=some fun args h=>bif Sg h C8 then(match HG A7 6 args with|some v=>some (v,h)|none=>none)else none:=rfl
  rw[A1];simp only[j,tP d,we];rfl
 ·cases List.mem_singleton.1 f;exact⟨qc _,fun _ _=>rfl,b,F,fun _ _ h=>h,fun _ _ h=>.inl h,c,fun ρ N=>Dn _⟩
end Go.Pe
namespace Go.Sp
def jY(a u:Rd):Bool:=Br a&&XS u&&Br (HI a u)&&Br (F7 (HI a u) [49,47,50])&&Br (Fg<|F7 (HI a u) [49,47,50])
def Yc(a u:Rd):Rd:=Ja (Fg<|F7 (HI a u) [49,47,50]) u
end Go.Sp
namespace Go.Pe
open Go.Det
def V5:Aq:=⟨[.str,.str],fun i=>Sp.jY i.1 i.2,[.str],fun i=>Sp.Yc i.1 i.2,false⟩
end Go.Pe
namespace Go.Sp
def Tx(s:Rd):Ai:=((ZY s,cO s),(UZ s,Uj s))
theorem YI(q:Rat):TH (AX q)=zj q.den:=by
 obtain⟨_,a,b⟩:=Fc q;unfold TH;rw[a,b];by_cases h:q.den=1
 ·rw[wc (by simpa using h),h,qd af];rfl
 ·rw[wd<|w4 h,wc h]
theorem PN:AX 0=[48]:=by
 unfold AX;rw[wd<|show Rat.den 0=1 from rfl];show yv 0=[48];unfold yv;rw[wc af,show(0:Int).toNat=0 from rfl,qd af];rfl
theorem Kd{s:Rd}(h:Br s=true):s=[48]↔AO s=0:=by
 obtain⟨a,_⟩:=Fx h;constructor
 ·rintro rfl;rw[<-PN,DD]
 ·intro e;rw[<-a,e,PN]
theorem GM{s:Rd}(h:FV s=true):Br s=true/\s.length<=3000:=by
 unfold FV at h;rwa [ze,w5]at h
theorem qA{s:Rd}(h:FV s=true)(h0:s≠[48]):XS s=true:=by
 unfold XS;rw[h,yn];exact w4 fun e=>h0<|(Kd (GM h).1).2 e
theorem Ug{s:Rd}(h:XS s=true):FV s=true/\AO s≠0:=by
 unfold XS at h;rwa [ze,w5]at h
theorem bU{q:Rat}{k:Nat}(h:FX k q)(a:k<=400000):(AX q).length<=1000000:=by
 have:=J9 (h.mono<|show k<=k+1 by omega) ae;omega
structure Nu(k:Nat)(s:Rd)(q:Rat):Prop where
 t:s=AX q
 z:FX k q
theorem Nu.mono{i j:Nat}{s:Rd}{q:Rat}(h:Nu i s q)(k:i<=j):Nu j s q:=⟨h.t,h.z.mono k⟩
theorem Nu.rat{k:Nat}{s:Rd}{q:Rat}(h:Nu k s q):AO s=q:=by rw[h.t,DD]
theorem Nu.num{k:Nat}{s:Rd}{q:Rat}(h:Nu k s q)(a:k<=1999):Br s=true:=by rw[h.t];exact Pb h.z a
theorem Nu.FV{k:Nat}{s:Rd}{q:Rat}(h:Nu k s q)(a:k<=1400):Sp.FV s=true:=by
 unfold Sp.FV;rw[h.num ae,yn,w5,h.t];have:=J9 (h.z.mono<|show k<=k+1 by omega) ae;omega
theorem Nu.Kd{k:Nat}{s:Rd}{q:Rat}(h:Nu k s q)(a:k<=1999):s=[48]↔q=0:=by
 rw[Sp.Kd<|h.num a,h.rat]
theorem Nu.cmp{i j:Nat}{a b:Rd}{p q:Rat}(d:Nu i a p)(c:Nu j b q):X0 a b=if p<q then -1 else if q<p then 1 else 0:=by
 unfold X0;rw[d.rat,c.rat]
theorem NU{a:Rd}(h:BG a=0):Nu 600 a (AO a):=by
 obtain⟨t,_,_,z⟩:=P3 h;exact⟨t.symm,z⟩
theorem Ps(n:Int):B6 n=AX (n:Rat):=by
 unfold AX B6;rw[wd<|qn ..,yj]
theorem WC:Nu 1 [49,47,50] (1/2):=by
 refine⟨by decide+kernel,?_⟩;unfold FX;decide+kernel
theorem Nu.F7{i j:Nat}{a b:Rd}{p q:Rat}(d:Nu i a p)(c:Nu j b q):Nu (i+j+1) (Sp.F7 a b) (p+q):=⟨by unfold Sp.F7;rw[d.rat,c.rat],d.z.add c.z⟩
theorem Nu.Ll{i j:Nat}{a b:Rd}{p q:Rat}(d:Nu i a p)(c:Nu j b q):Nu (i+j+1) (Sp.Ll a b) (p-q):=⟨by unfold Sp.Ll;rw[d.rat,c.rat],d.z.sub c.z⟩
theorem Nu.Ja{i j:Nat}{a b:Rd}{p q:Rat}(d:Nu i a p)(c:Nu j b q):Nu (i+j) (Sp.Ja a b) (p*q):=⟨by unfold Sp.Ja;rw[d.rat,c.rat],d.z.mul c.z⟩
theorem Nu.HI{i j:Nat}{a b:Rd}{p q:Rat}(c:Nu i a p)(d:Nu j b q)(h0:q≠0):Nu (i+j) (Sp.HI a b) (p/q):=⟨by unfold Sp.HI;rw[c.rat,d.rat],c.z.div d.z h0⟩
theorem OH{q:Rat}{k:Nat}(h:FX k q):FX k (q.floor:Rat):=by
 obtain⟨a,b⟩:=h;have c:=q.den_pos;unfold FX;rw[yj,qn,qh];refine⟨Nat.lt_of_le_of_lt (yz _ _) a,by omega⟩
def XH(w:Rd):Nat:=max (Ba<|AD w).length (TH w).length
def QB(n:Int):Bool:=decide (n.natAbs<9223372036854775808)
def N3(n:Int):Rd:=AX ((n:Int):Rat)
end Go.Sp
namespace Go.Pe
open Go.Det
def TV:Aq:=⟨[i64],fun n=>Sp.QB n,[.str],fun n=>Sp.N3 n,false⟩
section
open List Int Prod
namespace T43
def T[Srt](n:Int):Tr:=tree fY false 9 43<|Af ([qx ye]) n
theorem Al[Srt](n:Int):T n=.ck true (.ck true<|.leaf (qp [.dat i64 n,.dat wU<|Sp.B7 n,.dat i64 (1:Int),.dat wU<|Sp.B7 1]) []):=by kernel_rfl
end T43
end
open Sp
theorem Vd{k:Nat}{n d:Int}(a:d≠0)(c:Ae n<(Am:Int)^k)(b:Ae d<(Am:Int)^k):JQ k (zi n d):=by
 unfold JQ;rw[qq,Rat.den_divInt,wc a];constructor
 ·refine yk TD ?_;rw[IG];have:Ae d.sign=1:=by rw[Ah,Int.natAbs_sign_of_ne_zero a];rfl
  rw[this,qe];exact c
 ·refine yk ?_ b;rw[Ah];exact Int.ofNat_le.mpr<|Nat.div_le_self _ _
theorem lE{f:Ai}(h:qf f=true)(h0:Sp.vI f.1≠0):qf (R8 f)=true:=by
 obtain⟨a1,a2,b,a,a0⟩:=Fj h;exact(Ke a2 a1 h0).C6<|Vd h0 a b
theorem mU{f:Ai}(h:qf f=true):qf (pG f)=true:=by
 obtain⟨a1,a2,a,b,a0⟩:=Fj h;unfold qf Sp.F6 at*;have c:=Va (k:=4000) (BY a1).1 ae ae<|Qp (BY a1).1 a;exact Ad (Ad (FD c.1<|by show Ae (Sp.vI<|CN f.1)<_;rw[HQ,HT];exact a)<|FD (BY a2).1 b)<|w4 a0
theorem WI[Srt]:DU zF:=Aa T103.ok<|Aa T46.ok<|Aa T42.ok<|Aa T98.ok AT
theorem T47.ok[Srt]:Ag Bh 47 nN:=by
 refine BX WI<|fun(i:((Int×List Int)×(Int×List Int))×((Int×List Int)×(Int×List Int))) c=>?_;obtain⟨a,b⟩:=i;have c:(qf a&&qf b)=true:=c;rw[ze]at c;obtain⟨b1,b2,lb1,lb2,b0⟩:=Fj c.2;exact zn (T47.Al a b)<|zd (BY b1).1<|zd (Ad c.1<|mU c.2)<|zf<|zt rfl rfl rfl
theorem T44.ok[Srt]:Ag Bh 44 Wv:=by
 refine BX WI<|fun(i:((Int×List Int)×(Int×List Int))×((Int×List Int)×(Int×List Int))) c=>?_;obtain⟨a,b⟩:=i;have c:(qf a&&qf b&&decide (Sp.vI b.1≠0))=true:=c;rw[ze,ze,w5]at c;exact zn (T44.Al a b)<|zd (Ad c.1.2<|w4 c.2)<|zd (Ad c.1.1<|lE c.1.2 c.2)<|zf<|zt rfl rfl rfl
theorem T165.ok[Srt]:Ag Bh 165 dZ:=by
 refine BX FI<|fun(a:(Int×List Int)×(Int×List Int)) h=>?_;obtain⟨a1,a2,c,b,a0⟩:=Fj h;exact zn (T165.Al a)<|zd (Ad (Ad a1 a2)<|w4 a0)<|zf<|zt rfl rfl rfl
end Go.Pe
namespace Go.Sp
theorem CI{a:Bool×List Int}(h:Cb a=true):AW a.2=true/\a.2.length<=3000/\(a.1=true->a.2≠[]):=by
 unfold Cb at h;rw[ze,ze,w5,Bool.or_eq_true,w5,Bool.not_eq_true']at h;refine⟨h.1.1,h.1.2,fun k=>?_⟩;rcases h.2 with x|x
 ·rw[k]at x;cases x
 ·exact x
theorem D9{a:Bool×List Int}(h:Cb a=true):Ae (vR a)=Aj a.2/\0<=Aj a.2:=by
 obtain⟨c,d,e⟩:=CI h;have h0:=Az (b:=B9) af (Bk c).2.1;have h0:0<=Aj a.2:=h0;refine⟨?_,h0⟩;unfold vR;rw[Ah];split<;>omega
theorem dX{a:Bool×List Int}(h:Cb a=true):a.1=rN (vR a):=by
 obtain⟨c,f,d⟩:=CI h;obtain⟨_,h0⟩:=D9 h;unfold rN vR;cases e:a.1 with
 |false=>rw[wc af];symm;rw[w9];omega
 |true=>
  rw[wd rfl];symm;rw[w5];have:=IM (b:=B9) af (Bk c).2.1 (Bk c).2.2<|d e;have:0<Aj a.2:=this;omega
theorem zG{a:Bool×List Int}(h:Cb a=true):a.2=rW (vR a):=by
 unfold rW;rw[(D9 h).1];exact Ji (b:=B9) af (Bk (CI h).1).2.1 (Bk (CI h).1).2.2
theorem oM{a:Bool×List Int}(h:Cb a=true):a=(rN<|vR a,rW<|vR a):=Prod.ext (dX h)<|zG h
theorem Ue(k:Nat):(B9:Int)^k=10^(9*k):=by
 have:(B9:Int)=10^9:=af
 rw[this, <-Int.pow_mul]
theorem kW{n:Int}{k:Nat}(h:n.natAbs<10^(9*k)):Ae n<(B9:Int)^k:=by
 rw[Ah,Ue];have:((10^(9*k):Nat):Int)=(10:Int)^(9*k):=by simp
 rw[<-this];exact qy.mpr h
theorem MG(n:Int):0<=Ae n:=by rw[Ah];omega
theorem K3(n:Int):Aj (rW n)=Ae n:=CO (b:=B9) af<|MG n
theorem Hn(n:Int):vR (rN n,rW n)=n:=by
 unfold vR;show(if rN n=true then -Aj (rW n)else Aj<|rW n)=n;rw[K3,Ah];unfold rN;by_cases h:n<0
 ·rw[wd<|w4 h];omega
 ·rw[wc<|by simpa using h];omega
theorem Ri{n:Int}(h:n.natAbs<10^27000):Cb (rN n,rW n)=true:=by
 have k:27000=9*3000:=rfl;rw[k]at h;obtain⟨g,_,i,f⟩:=EZ (n:=Ae n) (k:=3000) (MG n) (kW h) af;unfold Cb;have c:AW (rW n)=true:=g;have d:(rW n).length<=3000:=f;rw[c,w4 d];cases b:rN n with
 |false=>rfl
 |true=>
  have:rW n≠[]:=by
   intro e;have a:=K3 n;rw[e]at a;have a:0=Ae n:=a;unfold rN at b;have b:=w6 b;rw[Ah]at a;omega
  rw[w4 this];rfl
theorem YW(k:Nat):((10^k:Nat):Int)=(10:Int)^k:=by rw[Int.natCast_pow];rfl
theorem tJ{x:Nat}(j k:Nat)(h:j<=k)(a:x<10^j):x<10^k:=Nat.lt_of_lt_of_le a (yf af h)
theorem sJ{a:Bool×List Int}(h:Cb a=true):(vR a).natAbs<10^27000:=by
 obtain⟨g,d,i⟩:=CI h;have f:=Bn (b:=B9) af (Bk g).2.1;have e:(B9:Int)^a.2.length<=(B9:Int)^3000:=AJ af d;have c:Ae (vR a)<(B9:Int)^3000:=by rw[(D9 h).1];exact zu f e
 rw[Ah,Ue]at c;have:=YW<|9*3000;rw[<-this]at c;have k:27000=9*3000:=rfl;rw[k];exact qy.mp c
theorem fM{neg:Bool}{w:List Int}{n:Int}(a:Au B9 w)(b:Aj w=Ae n)(c:n≠0->neg=rN n):(Cj neg w,Aw w)=(rN n,rW n):=by
 have h:=Go.Pe.Lb (neg:=neg) a b;rw[h];have:(if neg=true then -Ae n else Ae n)=n:=by
  by_cases h0:n=0
  ·rw[h0];unfold Ae;split<;>simp
  ·rw[c h0];unfold rN;rw[Ah];by_cases h:n<0
   ·rw[wd<|w4 h];omega
   ·rw[wc<|by simpa using h];omega
 rw[this]
theorem DY{s:Rd}(h:Br s=true):Cb (BC s,Bt s)=true/\vR (BC s,Bt s)=Bb s/\Cb (Bi s,Bc s)=true/\vR (Bi s,Bc s)=AM s/\(AO s).num=Bb s/\((AO s).den:Int)=AM s/\HD s=true/\(Bb s).natAbs<10^4000/\(AM s).natAbs<10^4000:=by
 obtain⟨f,k⟩:=Fx h;obtain⟨s1,s2⟩:=Qs h;have e:(AO s).num=Bb s/\((AO s).den:Int)=AM s:=by
  have:=Js<|AO s;rw[f]at this;exact⟨this.1.symm,this.2.symm⟩
 have d:(Bb s).natAbs<10^4000:=by rw[<-e.1];exact s1
 have b:(AM s).natAbs<10^4000:=by rw[<-e.2,ym];exact s2
 have m:∀x:Nat,x<10^4000->x<10^27000:=fun x i=>tJ 4000 27000 af i
 refine⟨Ri<|m _ d,Hn _,Ri<|m _ b,Hn _,e.1,e.2,?_,d,b⟩;obtain⟨g,a,j⟩:=Fc<|AO s;rw[f]at g a j;have n:=Go.Pe.T61.EW s;unfold HD CP;rw[w4 (p:=s.length<=5999) ae,w4 (p:=(AD s).length<=5999) ae,w4 (p:=(AN s).length<=5999) ae,yn,yn,Bool.and_true,ze];refine⟨?_,?_⟩
 ·obtain⟨l,i2,i3,i4⟩:=D7 (AO s).num;rw[g];unfold Ba at i2;split at i2
  ·next c=>rw[wd c,i2];exact CM _
  ·next c=>rw[wc c,i2];exact CM _
 ·rw[a];split
  ·rfl
  ·rw[wc<|Ec<|CM _];exact CM _
end Go.Sp
namespace Go.Pe
open Sp
open Go.Det
theorem Qr{x:Int}{k:Nat}(h:x.natAbs<10^k):Ae x<(Am:Int)^k:=by
 have a:((10^k:Nat):Int)=(10:Int)^k:=Int.natCast_pow ..;rw[Ah];refine zu ?_<|tE k;rw[<-a];exact qy.mpr h
theorem QF{q:Rat}{k:Nat}(h:FX k q)(c:k<=4000):JQ 4000 q:=by
 obtain⟨d,b⟩:=h.mono c;have a:=Qr (k:=4000) (x:=(q.den:Int)) (by rw[ym];exact b);rw[Ah,ym]at a;exact⟨Qr d,a⟩
def frS(s:Rd):Ai:=((ZY s,cO s),(UZ s,Uj s))
theorem Kz{s:Rd}(h:Br s=true):EN (frS s) (AO s):=by
 obtain⟨_,_,_,_,a,e,_,c,b⟩:=DY h;have m:∀x:Int,x.natAbs<10^4000->Ae x<(Am:Int)^9000:=fun x d=>zu (Qr d) (AJ af af)
 exact⟨(BY<|E0<|Dl<|m _ c).1,(BY<|E0<|Dl<|m _ b).1,(Km _).trans a.symm,(Km _).trans e.symm⟩
theorem EN.F6{f:Ai}{q:Rat}(h:EN f q)(a:JQ 4000 q):Sp.F6 f=true:=by
 have:=h.C6 a;unfold qf at this;rw[ze]at this;exact this.1
theorem EN.H9{f:Ai}{q:Rat}(h:EN f q):decide (Sp.vI f.1≠0)=decide (q≠0):=by
 rw[h.vn,decide_eq_decide,vc,Rat.num_eq_zero]
theorem EN.cmp{f g:Ai}{p q:Rat}(b:EN f p)(e:EN g q):Lx f g=if p<q then -1 else if q<p then 1 else 0:=by
 unfold Lx B3;rw[b.vn,b.vd,e.vn,e.vd];have h:p<q↔p.num*(q.den:Int)<q.num*(p.den:Int):=Rat.lt_iff ..;have a:q<p↔q.num*(p.den:Int)<p.num*(q.den:Int):=Rat.lt_iff ..;by_cases c:p<q
 ·rw[wd c,wd<|h.1 c]
 ·rw[wc c,wc<|fun k=>c<|h.2 k];by_cases d:q<p
  ·rw[wd d,wd<|a.1 d]
  ·rw[wc d,wc<|fun k=>d<|a.2 k]
theorem T43.ok[Srt]:Ag Bh 43 cF:=by
 refine BX FI<|fun(n:Int) _=>?_;exact zn (T43.Al n)<|zd rfl (zd rfl (zf<|zt rfl rfl rfl))
theorem EN.div{f g:Ai}{p q:Rat}(d:EN f p)(a:EN g q)(sp:JQ 4000 p)(c:JQ 4000 q)(b:JQ 4000 q⁻¹)(h0:q≠0):EN (I7 f g) (p/q):=by
 rw[Rat.div_def];exact EN.mul d (EN.inv a c h0) sp b
theorem gM(n:Int):B7 n=[]:=by unfold B7;split<;>rfl
theorem Q1{n:Int}(h:B5 n=true):Bd (n,B7 n)=true/\Sp.vI (n,B7 n)=n:=by
 rw[gM];have a:=EP h;refine⟨?_,BF rfl⟩;unfold Bd;rw[show Dd (n,([]:List Int))=true from JL h,yn];rfl
theorem yC(n:Int)(h:B5 n=true):EN ((n,B7 n),(1,B7 1)) (n:Rat):=by
 obtain⟨b,a⟩:=Q1 h;obtain⟨h3,h4⟩:=Q1 (n:=1) rfl;exact⟨(BY b).1,(BY h3).1,a.trans (yj n).symm,h4.trans rfl⟩
section
open List Int Prod
namespace T26
def T[Srt](a b:Rd):Tr:=tree pE false 9 26<|Af ([zg,zg]) (a,b)
def L1[Srt](v0 v1:Rd):Tr:=re ((T [] []).L.L.L.R)<|AI 63 [(0,.dat zg v0),(1,.dat zg v1)] [] 0
theorem Al[Srt](a b:Rd):T a b=let c:=zc .i64<|zc .i64 (dY a*RO b)+zc .i64 (dY b*RO a);let b':=zc .i64<|RO a*RO b;.ck (Br a) (.ck (Br b)<|.ite (DN a) (.ite (DN b) (.ck (B5 c&&B5 b'&&decide (zc .i64 (RO a*RO b)≠0))<|.leaf (.dat zg<|B4 c b') [])<|L1 a b)<|L1 a b):=by kernel_rfl
theorem As[Srt](v0 v1:Rd):stepT pE (L1 v0 v1)=let b':=(G9 (BC v0,Bt v0) (Bi v1,Bc v1),GU (BC v0,Bt v0) (Bi v1,Bc v1));let a:=(G9 (BC v1,Bt v1) (Bi v0,Bc v0),GU (BC v1,Bt v1) (Bi v0,Bc v0));let b:=(G9 (Bi v0,Bc v0) (Bi v1,Bc v1),GU (Bi v0,Bc v0) (Bi v1,Bc v1));let c:=(LA b' a,LO b' a);.ck (HD v0) (.ck (HD v1)<|.ck (Cb (BC v0,Bt v0)&&Cb (Bi v1,Bc v1))<|.ck (Cb (BC v1,Bt v1)&&Cb (Bi v0,Bc v0))<|.ck (Cb b'&&Cb a)<|.ck (Cb (Bi v0,Bc v0)&&Cb (Bi v1,Bc v1))<|.ck (Cb c&&Cb b&&decide (Sp.vR b≠0))<|.leaf (.dat zg<|Ia c b) []):=by kernel_rfl
end T26
namespace T51
def T[Srt](a b:Rd):Tr:=tree pE false 9 51<|Af ([zg,zg]) (a,b)
def L1[Srt](v0 v1:Rd):Tr:=re ((T [] []).L.L.L.R)<|AI 55 [(0,.dat zg v0),(1,.dat zg v1)] [] 0
theorem Al[Srt](a b:Rd):T a b=let c:=zc .i64<|dY a*dY b;let b':=zc .i64<|RO a*RO b;.ck (Br a) (.ck (Br b)<|.ite (DN a) (.ite (DN b) (.ck (B5 c&&B5 b'&&decide (zc .i64 (RO a*RO b)≠0))<|.leaf (.dat zg<|B4 c b') [])<|L1 a b)<|L1 a b):=by kernel_rfl
theorem As[Srt](v0 v1:Rd):stepT pE (L1 v0 v1)=let a:=(G9 (Bi v0,Bc v0) (Bi v1,Bc v1),GU (Bi v0,Bc v0) (Bi v1,Bc v1));let b':=(G9 (BC v0,Bt v0) (BC v1,Bt v1),GU (BC v0,Bt v0) (BC v1,Bt v1));.ck (HD v0) (.ck (HD v1)<|.ck (Cb (BC v0,Bt v0)&&Cb (BC v1,Bt v1))<|.ck (Cb (Bi v0,Bc v0)&&Cb (Bi v1,Bc v1))<|.ck (Cb b'&&Cb a&&decide (Sp.vR a≠0))<|.leaf (.dat zg<|Ia b' a) []):=by kernel_rfl
end T51
namespace T186
def T[Srt](a:Rd):Tr:=tree pE false 9 186<|Af ([zg]) a
theorem Al[Srt](a:Rd):T a=.ck (HD a) (.ck (Cb (Bi a,Bc a)&&Cb (BC a,Bt a)&&decide (Sp.vR (BC a,Bt a)≠0))<|.leaf (.dat zg<|Ia (Bi a,Bc a) (BC a,Bt a)) []):=by kernel_rfl
end T186
namespace T54
def T[Srt](a b:Rd):Tr:=tree zO false 9 54<|Af ([zg,zg]) (a,b)
theorem Al[Srt](a b:Rd):T a b=.cd (length b<=1000000) (.ck (Br a&&Br (Kl b))<|.leaf (.dat zg<|F7 a<|Kl b) []):=by kernel_rfl
end T54
namespace T122
def T[Srt](a b:Rd):Tr:=tree zO false 9 122<|Af ([zg,zg]) (a,b)
theorem Al[Srt](a b:Rd):T a b=.ck (XS b) (.ck (Br a&&Br (Qq b))<|.leaf (.dat zg<|Ja a<|Qq b) []):=by kernel_rfl
end T122
namespace T49
def T[Srt](a b:Rd):Tr:=tree XR8 false 9 49<|Af ([zg,zg]) (a,b)
theorem Al[Srt](a b:Rd):T a b=.ck (Br a&&FV b) (.cd (length (Ll a b)<=1000000)<|.leaf (.dat i64<|Ge<|Ll a b) []):=by kernel_rfl
end T49
namespace T123
def T[Srt](a:Rd):Tr:=tree XR8 false 9 123<|Af ([zg]) a
theorem Al[Srt](a:Rd):T a=.cd (length a<=1000000) (.leaf (.dat zq<|AP a==(length a:Int)) []):=by kernel_rfl
end T123
namespace T121
def T[Srt](a:Rd):Tr:=tree XR9 false 9 121<|Af ([zg]) a
theorem Al[Srt](a:Rd):T a=let b:=(Ic (BC a,Bt a) (Bi a,Bc a),Ih (BC a,Bt a) (Bi a,Bc a));.cd (length a<=1000000) (.ite (GX a) (.leaf (.dat zg a) [])<|.ck (HD a)<|.ck (Cb (BC a,Bt a)&&Cb (Bi a,Bc a)&&decide (0<Sp.vR (Bi a,Bc a)))<|.ck (Cb b)<|.leaf (.dat zg<|FB b) []):=by kernel_rfl
end T121
namespace T190
def T[Srt](a:List Int)(i:Int):Tr:=tree XR0 false 9 190<|Af ([zl i64,qx ye]) (a,i)
theorem Al[Srt](a:List Int)(i:Int):T a i=.di (i<(length a:Int)) (.ck (decide (0<=i)&&decide (i<(length a:Int)))<|.leaf (.dat i64<|getD a (toNat i) 0) []) (.leaf (.dat i64 (0:Int)) []):=by kernel_rfl
end T190
namespace T129
def T[Srt](a b:List Int):Tr:=tree Ty false 9 129<|Af ([zl i64,zl i64]) (a,b)
def L1[Srt](v0 v1:List Int)(b a:Int):Tr:=re ((T [] []))<|AI 42 [(0,.dat (zl i64) v0),(1,.dat (zl i64) v1),(5,.nil),(6,.dat i64 b),(7,.dat i64 a)] [] 0
theorem Al[Srt](a b:List Int):T a b=L1 a b 0 0:=by kernel_rfl
def L2[Srt](v0 v1:List Int)(a:Nat)(c b:Int)(d:List Int):Tr:=re ((stepT Ty<|L1 [] [] 0 0).L.L.L.L.L.L)<|AI 42 [(0,.dat (zl i64) v0),(1,.dat (zl i64) v1),(5,.sl 0 1 0 a none),(6,.dat i64 c),(7,.dat i64 b)] [(0,.arr false 3 i64 d)] 1
theorem As[Srt](v0 v1:List Int)(b a:Int):stepT Ty (L1 v0 v1 b a)=.di (a<(length v0:Int)) (.cd (0<=a)<|.cd (0<=a)<|.ck true<|.ck (aa 8)<|.ck true<|L2 v0 v1 1 (zc .i64<|yd (zc .i64<|zc .i64 (Ht v0 a+Ht v1 a)+b) 1000000000) (zc .i64<|a+1)<|[z7 (zc .i64<|zc .i64 (Ht v0 a+Ht v1 a)+b) 1000000000]) (.di (a<(length v1:Int)) (.cd (0<=a)<|.cd (0<=a)<|.ck true<|.ck (aa 8)<|.ck true<|L2 v0 v1 1 (zc .i64<|yd (zc .i64<|zc .i64 (Ht v0 a+Ht v1 a)+b) 1000000000) (zc .i64<|a+1)<|[z7 (zc .i64<|zc .i64 (Ht v0 a+Ht v1 a)+b) 1000000000])<|.di (b>0) (.cd (0<=a)<|.cd (0<=a)<|.ck true<|.ck (aa 8)<|.ck true<|L2 v0 v1 1 (zc .i64<|yd (zc .i64<|zc .i64 (Ht v0 a+Ht v1 a)+b) 1000000000) (zc .i64<|a+1)<|[z7 (zc .i64<|zc .i64 (Ht v0 a+Ht v1 a)+b) 1000000000])<|.leaf .nil []):=by kernel_rfl
theorem A5[Srt](v0 v1:List Int)(b:Nat)(c a:Int)(d:List Int):stepT Ty (L2 v0 v1 b c a d)=.di (a<(length v0:Int)) (.cd (0<=a)<|.cd (0<=a)<|.ck true<|.ck (ac b (length d) 8)<|.ck true<|L2 v0 v1 (je b 1) (zc .i64<|yd (zc .i64<|zc .i64 (Ht v0 a+Ht v1 a)+c) 1000000000) (zc .i64<|a+1)<|d++[z7 (zc .i64<|zc .i64 (Ht v0 a+Ht v1 a)+c) 1000000000]) (.di (a<(length v1:Int)) (.cd (0<=a)<|.cd (0<=a)<|.ck true<|.ck (ac b (length d) 8)<|.ck true<|L2 v0 v1 (je b 1) (zc .i64<|yd (zc .i64<|zc .i64 (Ht v0 a+Ht v1 a)+c) 1000000000) (zc .i64<|a+1)<|d++[z7 (zc .i64<|zc .i64 (Ht v0 a+Ht v1 a)+c) 1000000000])<|.di (c>0) (.cd (0<=a)<|.cd (0<=a)<|.ck true<|.ck (ac b (length d) 8)<|.ck true<|L2 v0 v1 (je b 1) (zc .i64<|yd (zc .i64<|zc .i64 (Ht v0 a+Ht v1 a)+c) 1000000000) (zc .i64<|a+1)<|d++[z7 (zc .i64<|zc .i64 (Ht v0 a+Ht v1 a)+c) 1000000000])<|.leaf (.sl 0 1 0 b none)<|[(0,.arr false 3 i64 d)]):=by kernel_rfl
end T129
namespace T131
def T[Srt](a b:List Int):Tr:=tree Ty false 9 131<|Af ([zl i64,zl i64]) (a,b)
def L1[Srt](v0 v1:List Int)(b a:Int):Tr:=re ((T [] []))<|AI 35 [(0,.dat (zl i64) v0),(1,.dat (zl i64) v1),(5,.nil),(6,.dat i64 b),(7,.dat i64 a)] [] 0
theorem Al[Srt](a b:List Int):T a b=L1 a b 0 0:=by kernel_rfl
def L2[Srt](v0 v1:List Int)(a:Nat)(c b:Int)(d:List Int):Tr:=re ((stepT Ty<|L1 [] [] 0 0).L.L.L.L.L)<|AI 35 [(0,.dat (zl i64) v0),(1,.dat (zl i64) v1),(5,.sl 0 1 0 a none),(6,.dat i64 c),(7,.dat i64 b)] [(0,.arr false 3 i64 d)] 1
theorem As[Srt](v0 v1:List Int)(b a:Int):stepT Ty (L1 v0 v1 b a)=.di (a<(length v0:Int)) (.ck (decide (0<=a)&&decide (a<(length v0:Int)))<|.cd (0<=a)<|.di (zc .i64 (zc .i64 (getD v0 (toNat a) 0-Ht v1 a)-b)<0) (.ck (aa 8)<|L2 v0 v1 1 1 (zc .i64<|a+1)<|[zc .i64<|zc .i64 (zc .i64 (getD v0 (toNat a) 0-Ht v1 a)-b)+1000000000])<|.ck (aa 8)<|L2 v0 v1 1 0 (zc .i64<|a+1)<|[zc .i64<|zc .i64 (getD v0 (toNat a) 0-Ht v1 a)-b]) (.ck true<|.leaf (.dat (zl i64)<|Aw []) []):=by kernel_rfl
theorem A5[Srt](v0 v1:List Int)(a:Nat)(d b:Int)(c:List Int):stepT Ty (L2 v0 v1 a d b c)=.di (b<(length v0:Int)) (.ck (decide (0<=b)&&decide (b<(length v0:Int)))<|.cd (0<=b)<|.di (zc .i64 (zc .i64 (getD v0 (toNat b) 0-Ht v1 b)-d)<0) (.ck (ac a (length c) 8)<|L2 v0 v1 (je a 1) 1 (zc .i64<|b+1)<|c++[zc .i64<|zc .i64 (zc .i64 (getD v0 (toNat b) 0-Ht v1 b)-d)+1000000000])<|.ck (ac a (length c) 8)<|L2 v0 v1 (je a 1) 0 (zc .i64<|b+1)<|c++[zc .i64<|zc .i64 (getD v0 (toNat b) 0-Ht v1 b)-d]) (.ck (decide (0+a<=length c)&&true&&decide (length (take a c)<=20000))<|.leaf (.dat (zl i64)<|Aw<|take a c) []):=by kernel_rfl
end T131
namespace T76
def T[Srt](a b:Bool×List Int):Tr:=tree wE false 9 76<|Af ([yu zq<|zl i64,yu zq<|zl i64]) (a,b)
theorem Al[Srt](a b:Bool×List Int):T a b=.ite (fst a==fst b) (.ck (fC (snd a)<|snd b)<|.cd (length (GH (snd a)<|snd b)<=20000)<|.leaf (qp [.dat zq<|Cj (fst a)<|GH (snd a)<|snd b,.dat (zl i64)<|Aw<|GH (snd a)<|snd b]) []) (.ck (AW (snd a)&&AW (snd b))<|.di (B3 (Aj<|snd a) (Aj<|snd b)>=0) (.ck (fC (snd a) (snd b)&&decide (Aj (snd b)<=Aj (snd a)))<|.cd (length (HN (snd a)<|snd b)<=20000)<|.leaf (qp [.dat zq<|Cj (fst a)<|HN (snd a)<|snd b,.dat (zl i64)<|Aw<|HN (snd a)<|snd b]) [])<|.ck (fC (snd b) (snd a)&&decide (Aj (snd a)<=Aj (snd b)))<|.cd (length (HN (snd b)<|snd a)<=20000)<|.leaf (qp [.dat zq<|Cj (fst b)<|HN (snd b)<|snd a,.dat (zl i64)<|Aw<|HN (snd b)<|snd a]) []):=by kernel_rfl
end T76
namespace T77
def T[Srt](a b:Bool×List Int):Tr:=tree wE false 9 77<|Af ([yu zq<|zl i64,yu zq<|zl i64]) (a,b)
theorem Al[Srt](a b:Bool×List Int):T a b=.ck (Sp.hR (snd a)&&Sp.hR (snd b)) (.cd (length (BA<|Aj (snd a)*Aj (snd b))<=20000)<|.leaf (qp [.dat zq<|Cj (!fst a==fst b)<|BA<|Aj (snd a)*Aj (snd b),.dat (zl i64)<|Aw<|BA<|Aj (snd a)*Aj (snd b)]) []):=by kernel_rfl
end T77
namespace T126
def T[Srt](a:Bool×List Int):Tr:=tree wE false 9 126<|Af ([yu zq<|zl i64]) a
theorem Al[Srt](a:Bool×List Int):T a=.cd (length (snd a)<=20000) (.leaf (qp [.dat zq<|Cj (!fst a)<|snd a,.dat (zl i64)<|Aw<|snd a]) []):=by kernel_rfl
end T126
namespace T185
def T[Srt](a b:Bool×List Int):Tr:=tree wE false 9 185<|Af ([yu zq<|zl i64,yu zq<|zl i64]) (a,b)
theorem Al[Srt](a b:Bool×List Int):T a b=.ck (AW (snd a)&&AW (snd b)&&decide (length (snd a)<=9000)&&decide (length (snd b)<=9000)&&decide (0<Aj (snd b))) (.ite (fst a) (.di ((↑(length<|BA<|Aj (snd a) % Aj (snd b)):Int)>0) (.ck (fC (BA<|Aj (snd a)/Aj (snd b)) [1])<|.cd (length (GH (BA<|Aj (snd a)/Aj (snd b)) [1])<=20000)<|.leaf (qp [.dat zq<|Cj (fst a)<|GH (BA<|Aj (snd a)/Aj (snd b)) [1],.dat (zl i64)<|Aw<|GH (BA<|Aj (snd a)/Aj (snd b)) [1]]) [])<|.cd (length (BA<|Aj (snd a)/Aj (snd b))<=20000)<|.leaf (qp [.dat zq<|Cj (fst a)<|BA<|Aj (snd a)/Aj (snd b),.dat (zl i64)<|Aw<|BA<|Aj (snd a)/Aj (snd b)]) [])<|.cd (length (BA<|Aj (snd a)/Aj (snd b))<=20000)<|.leaf (qp [.dat zq<|Cj (fst a)<|BA<|Aj (snd a)/Aj (snd b),.dat (zl i64)<|Aw<|BA<|Aj (snd a)/Aj (snd b)]) []):=by kernel_rfl
end T185
namespace T108
def T[Srt](a:Bool×List Int):Tr:=tree zD false 9 108<|Af ([yu zq<|zl i64]) a
def L1[Srt](v3:Rd)(v4:Int)(b:Bool)(a:List Int):Tr:=re ((T (false,[])).R.L.L)<|AI 39 [(1,.ptr 0 0),(3,.dat zg v3),(4,.dat i64 v4)] [(0,.box [.dat zq b,.dat (zl i64) a])] 1
theorem Al[Srt](a:Bool×List Int):T a=.ite ((↑(length<|snd a):Int)==0) (.leaf (.dat zg [(48:UInt8)]) []) (.ck (decide (0<=zc .i64 ((↑(length<|snd a):Int)-1))&&decide (zc .i64 ((↑(length<|snd a):Int)-1)<(↑(length<|snd a):Int)))<|.ck (decide (0<=getD (snd a) (toNat<|zc .i64<|(↑(length<|snd a):Int)-1) 0)&&decide (getD (snd a) (toNat<|zc .i64<|(↑(length<|snd a):Int)-1) 0<9223372036854775808)&&decide (0<=1)&&decide (1<=20))<|L1 (HJ (getD (snd a) (toNat<|zc .i64<|(↑(length<|snd a):Int)-1) 0) 1) (zc .i64<|(↑(length<|snd a):Int)-2) (fst a)<|snd a):=by kernel_rfl
theorem As[Srt](v3:Rd)(v4:Int)(b:Bool)(a:List Int):stepT zD (L1 v3 v4 b a)=.di (v4>=0) (.ck (decide (0<=v4)&&decide (v4<(length a:Int)))<|.ck (decide (0<=getD a (toNat v4) 0)&&decide (getD a (toNat v4) 0<9223372036854775808)&&decide (0<=9)&&decide (9<=20))<|.cd (length v3+length (HJ (getD a (toNat v4) 0) 9)<=4611686018427387904)<|L1 (v3++HJ (getD a (toNat v4) 0) 9) (zc .i64<|v4-1) b a) (.ite b (.cd (1+length v3<=4611686018427387904)<|.leaf (.dat zg<|[(45:UInt8)]++v3) [])<|.leaf (.dat zg v3) []):=by kernel_rfl
end T108
namespace T75
def T[Srt](a b:Bool×List Int):Tr:=tree gA false 9 75<|Af ([yu zq<|zl i64,yu zq<|zl i64]) (a,b)
def L1[Srt](o1:Bool)(a:List Int)(c:Bool)(b:List Int):Tr:=re ((T (false,[]) (false,[])).L.L.L)<|AI 57 [(2,.ptr 0 0),(3,.ptr 1 0)] [(1,.box [.dat zq o1,.dat (zl i64) a]),(0,.box [.dat zq c,.dat (zl i64) b])] 2
theorem Al[Srt](a b:Bool×List Int):T a b=.ite (fst b) (.ck (Cb a)<|.ck (Cb b)<|L1 (Qz b) (QS b) (Qz a)<|QS a) (L1 (fst b) (snd b) (fst a)<|snd a):=by kernel_rfl
def L2[Srt](b:List Int)(a:Rd):Tr:=re ((stepT gA<|L1 false [] false []).L.L.L.L.L)<|AI 57 [(8,.dat (zl i64) b),(10,.dat zg a)] [] 0
theorem As[Srt](o1:Bool)(b:List Int)(c:Bool)(a:List Int):stepT gA (L1 o1 b c a)=.ck (AW a&&AW b&&decide (length a<=9000)&&decide (length b<=9000)) (.ck (AW a&&AW (B8 a b)&&decide (length a<=9000)&&decide (length (B8 a b)<=9000)&&decide (0<Aj (B8 a b)))<|.ck (AW b&&AW (B8 a b)&&decide (length b<=9000)&&decide (length (B8 a b)<=9000)&&decide (0<Aj (B8 a b)))<|.cd (length (BA<|Aj a/Aj (B8 a b))<=20000)<|.ck (Cb (Cj c<|BA<|Aj a/Aj (B8 a b),Aw<|BA<|Aj a/Aj (B8 a b)))<|L2 (BA<|Aj b/Aj (B8 a b))<|FB (Cj c<|BA<|Aj a/Aj (B8 a b),Aw<|BA<|Aj a/Aj (B8 a b))):=by kernel_rfl
def L3[Srt](b:List Int)(a:Rd):Tr:=re ((stepT gA<|L2 [] []).L.L.R)<|AI 57 [(8,.dat (zl i64) b),(10,.dat zg a)] [] 0
theorem A5[Srt](b:List Int)(a:Rd):stepT gA (L2 b a)=.ite ((length b:Int)==1) (.cd (0<(length b:Int))<|.ite (getD b 0 0==1) (.leaf (.dat zg a) [])<|L3 b a) (L3 b a):=by kernel_rfl
theorem C5[Srt](b:List Int)(a:Rd):stepT gA (L3 b a)=.cd (length a+1<=4611686018427387904) (.cd (length b<=20000)<|.ck (Cb (Cj false b,Aw b))<|.cd (length (a++[(47:UInt8)])+length (FB (Cj false b,Aw b))<=4611686018427387904)<|.leaf (.dat zg<|a++[(47:UInt8)]++FB (Cj false b,Aw b)) []):=by kernel_rfl
end T75
namespace T52
def T[Srt](n d:Int):Tr:=tree Yx false 9 52<|Af ([qx ye,qx ye]) (n,d)
def L1[Srt](v0 v1:Int):Tr:=re ((T 0 0).R.R.R.R)<|AI 61 [(0,.dat i64 v0),(1,.dat i64 v1)] [] 0
theorem Al[Srt](n d:Int):T n d=.di (n<(-4000000000000000000)) (.ck (B5 n)<|.ck (B5 d)<|.ck (Cb (zr n,zp n)&&Cb (zr d,zp d)&&decide (Sp.vR (zr d,zp d)≠0))<|.leaf (.dat zg<|Ia (zr n,zp n) (zr d,zp d)) []) (.di (n>4000000000000000000) (.ck (B5 n)<|.ck (B5 d)<|.ck (Cb (zr n,zp n)&&Cb (zr d,zp d)&&decide (Sp.vR (zr d,zp d)≠0))<|.leaf (.dat zg<|Ia (zr n,zp n) (zr d,zp d)) [])<|.di (d<(-4000000000000000000)) (.ck (B5 n)<|.ck (B5 d)<|.ck (Cb (zr n,zp n)&&Cb (zr d,zp d)&&decide (Sp.vR (zr d,zp d)≠0))<|.leaf (.dat zg<|Ia (zr n,zp n) (zr d,zp d)) [])<|.di (d>4000000000000000000) (.ck (B5 n)<|.ck (B5 d)<|.ck (Cb (zr n,zp n)&&Cb (zr d,zp d)&&decide (Sp.vR (zr d,zp d)≠0))<|.leaf (.dat zg<|Ia (zr n,zp n) (zr d,zp d)) [])<|L1 n d):=by kernel_rfl
def L2[Srt](v0 v1:Int):Tr:=re ((stepT Yx<|L1 0 0).L)<|AI 61 [(0,.dat i64 v0),(1,.dat i64 v1)] [] 0
theorem As[Srt](v0 v1:Int):stepT Yx (L1 v0 v1)=.di (v1<0) (L2 (zc .i64<|0-v0)<|zc .i64<|0-v1) (L2 v0 v1):=by kernel_rfl
def L3[Srt](v0 v1:Int):Tr:=re ((stepT Yx<|L2 0 0).L.L.L)<|AI 61 [(0,.dat i64 v0),(1,.dat i64 v1)] [] 0
theorem A5[Srt](v0 v1:Int):stepT Yx (L2 v0 v1)=.ck (uY (imax v0<|zc .i64<|0-v0) v1) (.cd (qz (imax v0<|zc .i64<|0-v0) v1≠0)<|.cd (qz (imax v0<|zc .i64<|0-v0) v1≠0)<|L3 (zc .i64<|yd v0<|qz (imax v0<|zc .i64<|0-v0) v1)<|zc .i64<|yd v1<|qz (imax v0<|zc .i64<|0-v0) v1):=by kernel_rfl
def L4[Srt](v1:Int)(a:Rd):Tr:=re ((stepT Yx<|L3 0 0).L.L.L)<|AI 61 [(1,.dat i64 v1),(6,.dat zg a)] [] 0
theorem C5[Srt](v0 v1:Int):stepT Yx (L3 v0 v1)=.di (v0<0) (.ck (decide (0<=imax v0 (zc .i64<|0-v0))&&decide (imax v0 (zc .i64<|0-v0)<9223372036854775808)&&decide (0<=1)&&decide (1<=20))<|.cd (1+length (HJ (imax v0<|zc .i64<|0-v0) 1)<=4611686018427387904)<|L4 v1<|[(45:UInt8)]++HJ (imax v0<|zc .i64<|0-v0) 1) (.ck (decide (0<=imax v0 (zc .i64<|0-v0))&&decide (imax v0 (zc .i64<|0-v0)<9223372036854775808)&&decide (0<=1)&&decide (1<=20))<|.cd (0+length (HJ (imax v0<|zc .i64<|0-v0) 1)<=4611686018427387904)<|L4 v1<|[]++HJ (imax v0<|zc .i64<|0-v0) 1):=by kernel_rfl
theorem Dh[Srt](v1:Int)(a:Rd):stepT Yx (L4 v1 a)=.di (v1>1) (.cd (length a+1<=4611686018427387904)<|.ck (decide (0<=v1)&&decide (v1<9223372036854775808)&&decide (0<=1)&&decide (1<=20))<|.cd (length (a++[(47:UInt8)])+length (HJ v1 1)<=4611686018427387904)<|.leaf (.dat zg<|a++[(47:UInt8)]++HJ v1 1) []) (.leaf (.dat zg a) []):=by kernel_rfl
end T52
namespace T110
def T[Srt](a b:Int):Tr:=tree Mr false 9 110<|Af ([qx ye,qx ye]) (a,b)
def L1[Srt](v0 v1:Int):Tr:=re ((T 0 0))<|AI 12 [(0,.dat i64 v0),(1,.dat i64 v1)] [] 0
theorem Al[Srt](a b:Int):T a b=L1 a b:=by kernel_rfl
theorem As[Srt](v0 v1:Int):stepT Mr (L1 v0 v1)=.di (v1>0) (.cd (v1≠0)<|L1 v1<|z7 v0 v1) (.leaf (.dat i64 v0) []):=by kernel_rfl
end T110
namespace T107
def T[Srt](s:Rd):Tr:=tree Mr false 9 107<|Af ([zg]) s
theorem Al[Srt](s:Rd):T s=let a:Tr:=.leaf (.dat i64 (1:Int)) [];.ite (s==[(48:UInt8)]) (.leaf (.dat i64 (0:Int)) []) (.di ((length s:Int)>0) (.cd (0<(length s:Int))<|.ite ((↑(UInt8.toNat<|getD s 0 (0:UInt8)):Int)==45) (.leaf (.dat i64 (-1:Int)) []) a) a):=by kernel_rfl
end T107
namespace T112
def T[Srt](s:Rd):Tr:=tree XO2 false 9 112<|Af ([zg]) s
theorem Al[Srt](s:Rd):T s=let a:=decide (length s<=1000000);.ck a (.di (Ge s<0) (.ck (decide (1<=length s)&&decide (length s<=length s))<|.leaf (.dat zg<|take (yh (length s) 1)<|drop 1 s) [])<|.ck a<|.ite (Ge s==0) (.leaf (.dat zg s) [])<|.cd (1+length s<=4611686018427387904)<|.leaf (.dat zg<|[(45:UInt8)]++s) []):=by kernel_rfl
end T112
namespace T111
def T[Srt](n l:Int):Tr:=tree Mr false 9 111<|Af ([qx ye,qx ye]) (n,l)
def L1[Srt](v0 v1:Int)(v5:Rd):Tr:=re ((T 0 0))<|AI 25 [(0,.dat i64 v0),(1,.dat i64 v1),(5,.dat zg v5)] [] 0
theorem Al[Srt](n l:Int):T n l=L1 n l []:=by kernel_rfl
theorem As[Srt](v0 v1:Int)(v5:Rd):stepT Mr (L1 v0 v1 v5)=let a:=zc .i64<|z7 v0 10+1;let b:=toNat<|z7 v0 10;let b':=drop b [(48:UInt8),49,50,51,52,53,54,55,56,57];let c:Tr:=.ck true<|.ck true<|.ck (decide (0<=z7 v0 10)&&decide (0<=zc .i64 (z7 v0 10+1))&&decide (toNat (z7 v0 10)<=toNat a)&&decide (toNat a<=10))<|.cd (length (take (yh (toNat a) b) b')+length v5<=4611686018427387904)<|.ck true<|L1 (zc .i64<|yd v0 10) v1<|take (yh (toNat a) b) b'++v5;.di (v0>0) c (.di ((length v5:Int)<v1) c<|.leaf (.dat zg v5) []):=by kernel_rfl
end T111
namespace T73
def T[Srt](s:Rd):Tr:=tree Mo false 9 73<|Af ([zg]) s
def L1[Srt](v5:Rd)(a:Bool):Tr:=re ((T []).R.L.L)<|AI 54 [(5,.dat zg v5),(6,.dat zq a)] [] 0
def L2[Srt](v5:Rd):Tr:=re ((T []).R.R)<|AI 54 [(5,.dat zg v5),(6,.bl false)] [] 0
theorem Al[Srt](s:Rd):T s=let a:=(length s:Int);.di (a>20) (.leaf (.tup [.dat i64 (0:Int),.dat i64 (0:Int),.bl false]) []) (.di (a>0) (.cd (0<a)<|L1 s<|(↑(UInt8.toNat<|getD s 0 (0:UInt8)):Int)==45)<|L2 s):=by kernel_rfl
def L3[Srt](v5:Rd)(a:Bool):Tr:=re ((stepT Mo<|L1 [] false).L.L)<|AI 54 [(5,.dat zg v5),(6,.dat zq a)] [] 0
theorem As[Srt](v5:Rd)(a:Bool):stepT Mo (L1 v5 a)=.ite a (.ck (decide (1<=length v5)&&decide (length v5<=length v5))<|L3 (take (yh (length v5) 1)<|drop 1 v5) a) (L3 v5 a):=by kernel_rfl
def L4[Srt](v5:Rd):Tr:=re ((stepT Mo<|L2 []))<|AI 54 [(5,.dat zg v5),(6,.bl false)] [] 0
theorem A5[Srt](v5:Rd):stepT Mo (L2 v5)=L4 v5:=by kernel_rfl
def L5[Srt](v5:Rd)(c:Bool)(b a v9:Int):Tr:=re ((stepT Mo<|L3 [] false).L.R.R.L.L)<|AI 54 [(5,.dat zg v5),(6,.dat zq c),(7,.dat i64 b),(8,.dat i64 a),(9,.dat i64 v9)] [] 0
theorem C5[Srt](v5:Rd)(a:Bool):stepT Mo (L3 v5 a)=let b:Tr:=.leaf (.tup [.dat i64 (0:Int),.dat i64 (0:Int),.bl false]) [];let b':=AP v5;.cd (length v5<=1000000) (.di (AP v5>9) b<|.di (zc .i64 ((length v5:Int)-AP v5)>10) b<|.ck (decide (0<=AP v5)&&decide (0<=toNat b')&&decide (toNat b'<=length v5))<|.ck (Dq<|take (toNat b') v5)<|L5 v5 a b' (BE<|take (toNat b') v5) 1):=by kernel_rfl
def L6[Srt](v5:Rd)(b a v9:Int):Tr:=re ((stepT Mo<|L4 []).L.R.R.L.L)<|AI 54 [(5,.dat zg v5),(6,.bl false),(7,.dat i64 b),(8,.dat i64 a),(9,.dat i64 v9)] [] 0
theorem Dh[Srt](v5:Rd):stepT Mo (L4 v5)=let a:Tr:=.leaf (.tup [.dat i64 (0:Int),.dat i64 (0:Int),.bl false]) [];let b':=AP v5;.cd (length v5<=1000000) (.di (AP v5>9) a<|.di (zc .i64 ((length v5:Int)-AP v5)>10) a<|.ck (decide (0<=AP v5)&&decide (0<=toNat b')&&decide (toNat b'<=length v5))<|.ck (Dq<|take (toNat b') v5)<|L6 v5 b' (BE<|take (toNat b') v5) 1):=by kernel_rfl
def L7[Srt](b:Bool)(a v9:Int):Tr:=re ((stepT Mo<|L5 [] false 0 0 0).L.L.L)<|AI 54 [(6,.dat zq b),(8,.dat i64 a),(9,.dat i64 v9)] [] 0
theorem Gb[Srt](v5:Rd)(c:Bool)(a b v9:Int):stepT Mo (L5 v5 c a b v9)=let b':=zc .i64<|a+1;let d:=take (yh (length v5)<|toNat b')<|drop (toNat b') v5;.di (a<(length v5:Int)) (.ck (decide (0<=zc .i64 (a+1))&&true&&decide (toNat b'<=length v5)&&decide (length v5<=length v5))<|.ck (Dq d)<|L7 c b<|BE d) (L7 c b v9):=by kernel_rfl
def L8[Srt](a v9:Int):Tr:=re ((stepT Mo<|L6 [] 0 0 0).L.L.L)<|AI 54 [(6,.bl false),(8,.dat i64 a),(9,.dat i64 v9)] [] 0
theorem JR[Srt](v5:Rd)(a b v9:Int):stepT Mo (L6 v5 a b v9)=let b':=zc .i64<|a+1;let c:=take (yh (length v5)<|toNat b')<|drop (toNat b') v5;.di (a<(length v5:Int)) (.ck (decide (0<=zc .i64 (a+1))&&true&&decide (toNat b'<=length v5)&&decide (length v5<=length v5))<|.ck (Dq c)<|L8 b<|BE c) (L8 b v9):=by kernel_rfl
theorem FA[Srt](b:Bool)(a v9:Int):stepT Mo (L7 b a v9)=.ite b (.leaf (.tup [.dat i64<|zc .i64<|0-a,.dat i64 v9,.bl true]) []) (.leaf (.tup [.dat i64 a,.dat i64 v9,.bl true]) []):=by kernel_rfl
theorem LQ[Srt](a v9:Int):stepT Mo (L8 a v9)=.leaf (.tup [.dat i64 a,.dat i64 v9,.bl true]) []:=by kernel_rfl
end T73
namespace T70
def T[Srt](a:Rd):Tr:=tree Mr false 9 70<|Af ([zg]) a
theorem Al[Srt](a:Rd):T a=let b:Tr:=.ck (decide (1<=length a)&&decide (length a<=length a))<|.leaf (.dat zg<|take (yh (length a) 1)<|drop 1 a) [];let b':Tr:=.ite false b<|.leaf (.dat zg a) [];.ite (a==[(48:UInt8)]) b' (.di ((length a:Int)>0) (.cd (0<(length a:Int))<|.ite ((↑(UInt8.toNat<|getD a 0 (0:UInt8)):Int)==45) (.ite true b<|.leaf (.dat zg a) []) b') b'):=by kernel_rfl
end T70
namespace T71
def T[Srt](a:Rd):Tr:=tree XM5 false 9 71<|Af ([zg]) a
theorem Al[Srt](a:Rd):T a=.cd (length a<=1000000) (.ck (decide (0<=AP a)&&decide (0<=toNat (AP a))&&decide (toNat (AP a)<=length a))<|.leaf (.dat zg<|take (toNat<|AP a) a) []):=by kernel_rfl
end T71
namespace T72
def T[Srt](a:Rd):Tr:=tree XM5 false 9 72<|Af ([zg]) a
theorem Al[Srt](a:Rd):T a=let b:=zc .i64<|AP a+1;.cd (length a<=1000000) (.ite (AP a==(length a:Int)) (.leaf (.dat zg [(49:UInt8)]) [])<|.ck (decide (0<=zc .i64 (AP a+1))&&true&&decide (toNat b<=length a)&&decide (length a<=length a))<|.leaf (.dat zg<|take (yh (length a)<|toNat b)<|drop (toNat b) a) []):=by kernel_rfl
end T72
end
theorem Wf[Srt]:DU XM5:=Aa T104.ok AT
theorem T70.ok[Srt]:Ag Bh 70 dH:=by
 refine BX Ed<|fun(a:Rd) i=>?_;have i:a.length<=1000000:=w6 i;have b:∀s ob,s=Ba a->Ac dH a (.dat .str s) ob:=fun s ob h=>zt rfl rfl h
 refine zn (T70.Al a)<|zh (fun c=>zo rfl (zf<|b _ _ ?_))<|fun c=>?_
 ·have c:a=[48]:=by simpa using c
  subst c;rfl
 ·cases a with
  |nil=>exact zo rfl (zo rfl (zf<|b _ _ rfl))
  |cons x r=>
   have g:(x::r).getD 0 0=x:=rfl;have e:(List.drop 1 (x::r)).take (yh (x::r).length 1)=r:=by show r.take ((r.length+1)-1)=r;rw[yw];exact List.take_length
   rw[g,e];refine zd (by simp) (zd (by simp) (zh (fun d=>zd rfl (zd (by simp)<|zf<|b _ _ ?_))<|fun d=>zo rfl (zf<|b _ _ ?_)))
   ·have f:x=45:=by
     have:(x.toNat:Int)=45:=by simpa using d
     exact yr.1 (by show _=45;omega)
    unfold Ba;rw[g,wd f];rfl
   ·have f:x≠45:=by rintro rfl;exact wh d af
    unfold Ba;rw[g,wc f]
theorem T71.ok[Srt]:Ag Bh 71 nJ:=by
 refine BX Wf<|fun(a:Rd) hl=>?_;have b:=(T61.EW a).1;refine zn (T71.Al a)<|zd hl ?_;rw[show AP a=((AD a).length:Int)from rfl,zk];exact zd (by simp;omega)<|zf<|zt rfl rfl (Bx a).1.symm
theorem T72.ok[Srt]:Ag Bh 72 YV:=by
 refine BX Wf<|fun(a:Rd) hl=>?_;have g:a.length<=1000000:=w6 hl;obtain⟨m,d,j⟩:=Bx a;have c:∀s ob,s=TH a->Ac YV a (.dat .str s) ob:=fun s ob h=>zt rfl rfl h
 have k:=(T61.EW a).1;have es:AP a=((AD a).length:Int):=rfl;refine zn (T72.Al a)<|zd hl ?_;rw[es];cases b:Bu a with
 |false=>
  refine zd (by rw[(j b).1];simp)<|zf<|c _ _ ?_;unfold TH;rw[b];rfl
 |true=>
  obtain⟨l,e⟩:=d b;have f:zc .i64 (((AD a).length:Int)+1)=(((AD a).length+1:Nat):Int):=by rw[wr _ ae ae];omega
  have i:(a.drop<|(AD a).length+1).take (yh a.length<|(AD a).length+1)=a.drop ((AD a).length+1):=zx (by rw[zz];exact qc _);rw[f,zk,i];refine zo (by simp;omega) (zd (by simp;omega)<|zf<|c _ _ ?_);unfold TH;rw[b,e];rfl
namespace T110
theorem Ap[Srt](g:Nat)(b:∀ob,Q (.dat i64 (g:Int)) ob):∀(f x y:Nat),y<f->Nat.gcd x y=g->Ends Mr (L1 (x:Int) (y:Int)) Q
 |0,x,y,h,_=>by omega
 |f+1,x,y,d,a=>by
  refine zm (As ..) ?_;conv=>zeta
  by_cases h0:y=0
  ·subst h0;rw[Nat.gcd_zero_right]at a;subst a;exact zo rfl (zf<|b _)
  ·have e:z7 (x:Int) (y:Int)=((x % y:Nat):Int):=by rw[yx<|yy x];rfl
   rw[e];have c:x % y<y:=Nat.mod_lt _ ae;exact zd (by simp;omega) (zd (by simp;omega)<|Ap g b f y (x % y) ae (by rw[Nat.gcd_comm, <-Nat.gcd_rec,Nat.gcd_comm];exact a))
theorem ok[Srt]:Ag Bh 110 oU:=by
 refine BX Ed<|fun(i:Int×Int) c=>?_;obtain⟨a,b⟩:=i;have c:(decide (0<=a)&&decide (a<9223372036854775808)&&decide (0<=b)&&decide (b<9223372036854775808))=true:=c;rw[ze,ze,ze,w5,w5,w5,w5]at c;obtain⟨⟨⟨a0,_⟩,b0⟩,_⟩:=c;obtain⟨x,rfl⟩:=z8 a0;obtain⟨y,rfl⟩:=z8 b0;refine zn (Al x y)<|Ap (Nat.gcd x y) (fun ob=>zt rfl rfl ?_) (y+1) x y (Nat.lt_succ_self _) rfl;show((Nat.gcd x y:Nat):Int)=qz (x:Int) (y:Int);rw[FT];rfl
end T110
namespace T107
theorem ok[Srt]:Ag Bh 107 RF:=by
 refine BX Ed<|fun(s:Rd) hl=>?_;have a:∀v ob,v=Ge s->Ac RF s (.dat i64 v) ob:=fun v ob f=>zt rfl rfl f
 refine zn (Al s)<|zh (fun c=>zf<|a _ _ ?_)<|fun c=>?_
 ·have c:s=[48]:=by simpa using c
  unfold Ge;rw[wd c]
 ·have c:¬s=[48]:=by simpa using c
  cases s with
  |nil=>exact zo rfl (zf<|a _ _ rfl)
  |cons x r=>
   have e:(x::r).getD 0 0=x:=rfl;rw[e];refine zd (by simp) (zd (by simp)<|zh (fun d=>zf<|a _ _ ?_)<|fun d=>zf<|a _ _ ?_)
   ·have b:x=45:=by
     have:(x.toNat:Int)=45:=by simpa using d
     exact yr.1 (by show _=45;omega)
    unfold Ge;rw[wc c,e,wd b]
   ·have b:x≠45:=by rintro rfl;exact wh d af
    unfold Ge;rw[wc c,e,wc b]
end T107
theorem gZ[Srt]:DU XO2:=Aa T107.ok AT
theorem T112.ok[Srt]:Ag Bh 112 aO:=by
 refine BX gZ<|fun(s:Rd) b=>?_;have b:s.length<=1000000:=w6 b;have a:∀v ob,v=Kl s->Ac aO s (.dat .str v) ob:=fun v ob e=>zt rfl rfl e
 refine zn (T112.Al s)<|zd (w4 b) ?_;unfold Kl at a;unfold Ge;by_cases c:s=[48]
 ·rw[wd c];rw[wd c]at a;exact zo rfl (zd (w4 b)<|zd rfl (zf<|a _ _ rfl))
 ·rw[wc c];rw[wc c]at a;by_cases d:s.getD 0 0=45
  ·rw[wd d];rw[wd d]at a;have f:s≠[]:=by rintro rfl;exact wh d af
   have g:1<=s.length:=List.length_pos_iff.2 f;refine zd rfl (zd (by simp;omega)<|zf<|a _ _ ?_);exact zx (by rw[zz];exact qc _)
  ·rw[wc d];rw[wc d]at a;exact zo rfl (zd (w4 b)<|zo rfl (zd (by simp;omega)<|zf<|a _ _ rfl))
namespace T111
theorem Xv:∀k:Fin 10,jc (yh (k.1+1) k.1) (List.drop k.1 [(48:UInt8),49,50,51,52,53,54,55,56,57])=[yp<|48+k.1]:=af
theorem Ap[Srt]{Q:PV->Ob->Prop}(l:Nat)(s:l<=20):∀(f n:Nat) (a:Rd),n<9223372036854775808->n<10^f->l<=a.length+f->a.length+f<=64->(∀ob,Q (.dat .str<|GR (f+1) n l a) ob)->Ends Mr (L1 (n:Int) (l:Int) a) Q:=by
 intro f;induction f with
 |zero=>
  intro n a o e g d b;have h0:n=0:=by rw[Nat.pow_zero]at e;omega
  subst h0;unfold GR at b;rw[wd ⟨rfl,by omega⟩]at b;exact zm (As ..) (zo rfl (zo (by simp;omega)<|zf<|b _))
 |succ f p=>
  intro n a o e g d b;have m:z7 (n:Int) 10=((n % 10:Nat):Int):=by rw[yx<|yy n];rfl
  have k:zc .i64 (((n % 10:Nat):Int)+1)=((n % 10+1:Nat):Int):=by rw[wr _ ae ae];omega
  have q:zc .i64 (yd (n:Int) 10)=((n/10:Nat):Int):=by rw[Int.tdiv_eq_ediv_of_nonneg<|yy n,wr _ ae ae];rfl
  have i:=Xv ⟨n % 10,Nat.mod_lt _ af⟩;have i:jc (yh (n % 10+1)<|n % 10) (List.drop (n % 10) [(48:UInt8),49,50,51,52,53,54,55,56,57])=[yp<|48+n % 10]:=i;have t:n % 10<10:=Nat.mod_lt _ af;rw[Nat.pow_succ]at e;refine zm (As ..) ?_;conv=>zeta
  rw[m,k,q,zk,zk,i];by_cases j:n=0/\l<=a.length
  ·obtain⟨r,z2⟩:=j;subst r;unfold GR at b;rw[wd ⟨rfl,z2⟩]at b;exact zo rfl (zo (by simp;omega)<|zf<|b _)
  ·have h:∀ob,Q (.dat .str<|GR (f+1) (n/10) l (yp (48+n % 10)::a)) ob:=by
    intro ob;have:=b ob;unfold GR at this;rw[wc j]at this;exact this
   have go:Ends Mr (L1 ((n/10:Nat):Int) (l:Int)<|[yp<|48+n % 10]++a) Q:=p (n/10) (yp (48+n % 10)::a) ae ae (by rw[z6];omega) (by rw[z6];omega) h;refine zh (fun _=>?_)<|fun c=>zd ?_ ?_
   ·exact zd rfl (zd rfl (zd (by simp;omega)<|zd (by simp;omega)<|zd rfl go))
   ·have c:=w7 c;exact w4 ae
   ·exact zd rfl (zd rfl (zd (by simp;omega)<|zd (by simp;omega)<|zd rfl go))
theorem ok[Srt]:Ag Bh 111 Nk:=by
 refine BX Ed<|fun(i:Int×Int) c=>?_;obtain⟨a,b⟩:=i;have c:(decide (0<=a)&&decide (a<9223372036854775808)&&decide (0<=b)&&decide (b<=20))=true:=c;rw[ze,ze,ze,w5,w5,w5,w5]at c;obtain⟨⟨⟨a0,a1⟩,b0⟩,b1⟩:=c;obtain⟨x,rfl⟩:=z8 a0;obtain⟨y,rfl⟩:=z8 b0;refine zn (Al x y) (Ap y ae 63 x [] ae ae (by show y<=0+63;omega) af<|fun ob=>zt rfl rfl ?_);show GR 64 x y []=GR 64 (x:Int).toNat (y:Int).toNat [];rw[zk,zk]
end T111
theorem iB[Srt]:DU Mo:=Aa T125.ok<|Aa T104.ok AT
namespace T73
theorem Ca[Srt](neg:Bool)(n d:Int)(h0:0<=n)(b:n<1000000000)(a:∀ob,Q (.tup [.dat i64<|if neg=true then -n else n,.dat i64 d,.bl true]) ob):Ends Mo (L7 neg n d) Q:=by
 refine zm (FA ..) ?_;conv=>zeta
 cases neg with
 |true=>
  refine zd rfl (zf ?_);rw[wr _ ae ae,Int.zero_sub];exact a _
 |false=>exact zo rfl (zf<|a _)
theorem Ck[Srt](s:Rd)(neg:Bool)(n:Int)(h0:0<=n)(e:n<1000000000)(l:s.length<=20)(o:(yg s).length<=9)(db:Ak (yg s)=true)(a:∀ob,Q (.tup [.dat i64<|if neg=true then -n else n,.dat i64<|if Bu s=true then AA 0 (yg s)else 1,.bl true]) ob):Ends Mo (L5 s neg (AP s) n 1) Q:=by
 obtain⟨m,j,h⟩:=Bx s;refine zm (Gb ..) ?_;conv=>zeta
 have es:AP s=((AD s).length:Int):=rfl;have i:=(T61.EW s).1;cases b:Bu s with
 |true=>
  rw[b]at a;obtain⟨d,c⟩:=j b;have k:zc .i64 (AP s+1)=(((AD s).length+1:Nat):Int):=by rw[es,wr _ ae ae];omega
  have g:(yg s).length=s.length-((AD s).length+1):=by rw[c,zz]
  have f:(yg s).take (yh s.length<|(AD s).length+1)=yg s:=zx (by show _<=s.length-_;omega);rw[k,zk, <-c,f];exact zd (by simp[es];omega) (zd (by simp;omega) (zd (T124.BT db ae)<|Ca neg n _ h0 e a))
 |false=>
  obtain⟨d,c⟩:=h b;rw[b]at a;exact zo (by simp[es,d])<|Ca neg n 1 h0 e a
theorem CL[Srt](s:Rd)(neg:Bool)(e:s.length<=20)(i:(AD s).length<=9)(l:(yg s).length<=9)(a:Ak (AD s)=true)(db:Ak (yg s)=true)(m:∀n ob,n=AA 0 (AD s)->Q (.tup [.dat i64<|if neg=true then -n else n,.dat i64<|if Bu s=true then AA 0 (yg s)else 1,.bl true]) ob):Ends Mo (L3 s neg ) Q:=by
 obtain⟨j,k,f⟩:=Bx s;have es:AP s=((AD s).length:Int):=rfl;have g:=(T61.EW s).1;have c:s.length-(AD s).length<=10:=by
  cases b:Bu s with
  |true=>
   obtain⟨o,h⟩:=k b;have:(yg s).length=s.length-((AD s).length+1):=by rw[h,zz]
   omega
  |false=>rw[(f b).1];omega
 have d:jc (Int.toNat<|AP s) s=AD s:=by rw[es,zk];exact j.symm
 obtain⟨v0,v1⟩:=T124.Cf a i;refine zm (C5 ..) ?_;conv=>zeta
 rw[d];refine zd (by simp;omega) (zo (by simp[es];omega)<|zo ?_<|zd (by simp[es];omega)<|zd (T124.BT a ae) ?_)
 ·rw[es,wr _ ae ae];exact w8 ae
 ·exact Ck s neg (AA 0<|AD s) v0 v1 e l db<|fun ob=>m _ ob rfl
theorem Ha[Srt](n d:Int)(a:∀ob,Q (.tup [.dat i64 n,.dat i64 d,.bl true]) ob):Ends Mo (L8 n d) Q:=by
 refine zm (LQ ..) ?_;conv=>zeta
 exact zf<|a _
theorem IW[Srt](s:Rd)(n:Int)(l:s.length<=20)(k:(yg s).length<=9)(db:Ak (yg s)=true)(a:∀ob,Q (.tup [.dat i64 n,.dat i64<|if Bu s=true then AA 0 (yg s)else 1,.bl true]) ob):Ends Mo (L6 s (AP s) n 1) Q:=by
 obtain⟨m,e,i⟩:=Bx s;refine zm (JR ..) ?_;conv=>zeta
 have es:AP s=((AD s).length:Int):=rfl;have j:=(T61.EW s).1;cases b:Bu s with
 |true=>
  rw[b]at a;obtain⟨d,c⟩:=e b;have h:zc .i64 (AP s+1)=(((AD s).length+1:Nat):Int):=by rw[es,wr _ ae ae];omega
  have g:(yg s).length=s.length-((AD s).length+1):=by rw[c,zz]
  have f:(yg s).take (yh s.length<|(AD s).length+1)=yg s:=zx (by show _<=s.length-_;omega);rw[h,zk, <-c,f];exact zd (by simp[es];omega) (zd (by simp;omega)<|zd (T124.BT db ae)<|Ha n _ a)
 |false=>
  obtain⟨d,c⟩:=i b;rw[b]at a;exact zo (by simp[es,d])<|Ha n 1 a
theorem BK[Srt](s:Rd)(e:s.length<=20)(i:(AD s).length<=9)(l:(yg s).length<=9)(a:Ak (AD s)=true)(db:Ak (yg s)=true)(m:∀n ob,n=AA 0 (AD s)->Q (.tup [.dat i64 n,.dat i64<|if Bu s=true then AA 0 (yg s)else 1,.bl true]) ob):Ends Mo (L4 s ) Q:=by
 obtain⟨j,k,f⟩:=Bx s;have es:AP s=((AD s).length:Int):=rfl;have g:=(T61.EW s).1;have c:s.length-(AD s).length<=10:=by
  cases b:Bu s with
  |true=>
   obtain⟨o,h⟩:=k b;have:(yg s).length=s.length-((AD s).length+1):=by rw[h,zz]
   omega
  |false=>rw[(f b).1];omega
 have d:jc (Int.toNat<|AP s) s=AD s:=by rw[es,zk];exact j.symm
 obtain⟨v0,v1⟩:=T124.Cf a i;refine zm (Dh ..) ?_;conv=>zeta
 rw[d];refine zd (by simp;omega) (zo (by simp[es];omega)<|zo ?_<|zd (by simp[es];omega)<|zd (T124.BT a ae) ?_)
 ·rw[es,wr _ ae ae];exact w8 ae
 ·exact IW s (AA 0<|AD s) e l db<|fun ob=>m _ ob rfl
end T73
end Go.Pe
namespace Go.Sp
theorem GB(a:List Int)(i:Nat):val B9 (a.drop i)=a.getD i 0+1000000000*val B9 (a.drop<|i+1):=by
 by_cases h:i<a.length
 ·rw[Ch h];rfl
 ·rw[zy ae,zy ae,show a.getD i 0=0 by rw[List.getD_eq_getElem?_getD,List.getElem?_eq_none ae];rfl];rfl
structure Fl(a b:List Int)(i:Nat)(o:List Int)(c:Int):Prop where
 len:o.length=i
 d:Au B9 o
 c01:0<=c/\c<=1
 v:val B9 o+(B9:Int)^i*(c+val B9 (a.drop i)+val B9 (b.drop i))=Aj a+Aj b
 top:a.length<=i->b.length<=i->i=0\/(B9:Int)^(i-1)<=val B9 o+(B9:Int)^i*c
theorem Fl.start(a b:List Int):Fl a b 0 [] 0:=⟨rfl,(fun x c=>by cases c),by decide,by
 show 0+(B9:Int)^0*(0+val B9 a+val B9 b)=val B9 a+val B9 b;rw[Int.pow_zero,qe];omega,fun _ _=>.inl rfl⟩
theorem Bp{a:List Int}(h:AW a=true)(i:Nat):0<=a.getD i 0/\a.getD i 0<1000000000:=FZ (Bk h).2.1 i
theorem Qg{a:List Int}(h:AW a=true){i:Nat}(c:i<a.length)(b:a.length<=i+1):1<=a.getD i 0:=by
 have:=(Go.Pe.FC (Bk h).2.1 (Bk h).2.2 (k:=i) ae).1;omega
theorem Fl.step{a b:List Int}{i:Nat}{o:List Int}{c:Int}(h:Fl a b i o c)(m:AW a=true)(n:AW b=true)(g:i<a.length\/i<b.length\/0<c):
  Fl a b (i+1) (o++[(a.getD i 0+b.getD i 0+c) % 1000000000]) ((a.getD i 0+b.getD i 0+c)/1000000000):=by
 obtain⟨t,u⟩:=Bp m i;obtain⟨y0,y1⟩:=Bp n i;obtain⟨c0,c1⟩:=h.c01;have l:=h.v;rw[GB a i,GB b i]at l;have j:1<=a.getD i 0+b.getD i 0+c\/¬(a.length<=i+1/\b.length<=i+1):=by
  by_cases k:a.length<=i+1/\b.length<=i+1
  ·refine .inl ?_;rcases g with g|g|g
   ·have:=Qg m g k.1;omega
   ·have:=Qg n g k.2;omega
   ·omega
  ·exact .inr k
 have s:=Az (b:=B9) af h.d;have r:=A6 (b:=B9) af i;generalize a.getD i 0=x at*;generalize b.getD i 0=y at*;have f:val B9 (o++[(x+y+c) % 1000000000])=val B9 o+(B9:Int)^i*((x+y+c) % 1000000000):=by rw[B1,h.len]
 refine⟨by rw[yc,h.len];rfl,EM h.d ae,by omega,?_,fun q p=>.inr ?_⟩
 ·rw[f,Kf,qw, <-qt, <-l];congr 2;omega
 ·rw[f,Kf,qw, <-qt,yw];have e:(x+y+c) % 1000000000+1000000000*((x+y+c)/1000000000)=x+y+c:=ae
  rw[e];rcases j with j|j
  ·have:=yb j<|yi r;rw[Int.mul_one]at this;omega
  ·exact wh ⟨q,p⟩ j
theorem vG{o:List Int}(g:Au B9 o)(h:o=[]\/(B9:Int)^(o.length-1)<=val B9 o):nz o:=by
 rcases h with rfl|h
 ·unfold nz;simp
 ·intro e;have c:o≠[]:=by rintro rfl;simp at e
  have d:o=o.dropLast++[0]:=by
   have f:=(List.dropLast_concat_getLast c).symm;rw[List.getLast?_eq_some_getLast c]at e;rw[Option.some.inj e]at f;exact f
  have i:o.length=o.dropLast.length+1:=by rw[List.length_dropLast];have:=List.length_pos_iff.2 c;omega
  have k:val B9 o=val B9 o.dropLast:=by
   conv=>lhs;rw[d]
   rw[B1,ql,qm]
  have a:Au B9 o.dropLast:=fun x j=>g x (by rw[d];exact List.mem_append_left _ j)
  have:=Bn (b:=B9) af a;rw[k,i,yw]at h;omega
theorem Fl.fin{a b:List Int}{i:Nat}{o:List Int}(h:Fl a b i o 0)(g:a.length<=i)(e:b.length<=i):o=GH a b:=by
 have c:=h.v;rw[zy g,zy e]at c;have c:val B9 o+(B9:Int)^i*(0+0+0)=Aj a+Aj b:=c;rw[show(0+0+0:Int)=0 from rfl,ql,qm]at c;have f:=h.top g e;rw[ql,qm, <-h.len]at f;have j:nz o:=vG h.d (by
  rcases f with k|k
  ·exact .inl<|qj.1 k
  ·exact .inr k)
 unfold GH;rw[<-c];exact Ji (b:=B9) af h.d j
structure FY(a b:List Int)(i:Nat)(o:List Int)(c:Int):Prop where
 len:o.length=i
 d:Au B9 o
 c01:0<=c/\c<=1
 v:val B9 o+(B9:Int)^i*(val B9 (a.drop i)-val B9 (b.drop i)-c)=Aj a-Aj b
theorem FY.start(a b:List Int):FY a b 0 [] 0:=⟨rfl,(fun x c=>by cases c),by decide,by
 show 0+(B9:Int)^0*(val B9 a-val B9 b-0)=val B9 a-val B9 b;rw[Int.pow_zero,qe];omega⟩
theorem FY.step{a b:List Int}{i:Nat}{o:List Int}{c:Int}(h:FY a b i o c)(g:AW a=true)(j:AW b=true)(d e:Int)(k:(a.getD i 0-b.getD i 0-c<0/\d=a.getD i 0-b.getD i 0-c+1000000000/\e=1)\/(¬a.getD i 0-b.getD i 0-c<0/\d=a.getD i 0-b.getD i 0-c/\e=0)):
  FY a b (i+1) (o++[d]) e:=by
 obtain⟨m,l⟩:=Bp g i;obtain⟨y0,y1⟩:=Bp j i;obtain⟨c0,c1⟩:=h.c01;have f:=h.v;rw[GB a i,GB b i]at f;generalize a.getD i 0=x at*;generalize b.getD i 0=y at*;refine⟨by rw[yc,h.len];rfl,EM h.d ae,by omega,?_⟩;rw[B1,h.len,Kf,qw, <-qt, <-f];congr 2;omega
theorem FY.fin{a b:List Int}{o:List Int}{c:Int}(h:FY a b a.length o c)(j:AW b=true)(l:Aj b<=Aj a):Aw o=HN a b:=by
 have e:=h.v;rw[List.drop_length]at e;have h0:=Az (b:=B9) af<|Eb (Bk j).2.1 a.length;have f:=Bn (b:=B9) af h.d;rw[h.len]at f;obtain⟨m,n⟩:=h.c01;have g:=A6 (b:=B9) af a.length;have e:val B9 o+(B9:Int)^a.length*(0-val B9 (b.drop a.length)-c)=Aj a-Aj b:=e;generalize val B9 (b.drop a.length)=z at*;have i:0-z-c=0:=by
  rcases Int.lt_or_le (0-z-c) 0 with k|k
  ·have:=yb (show 0-z-c<= -1 by omega)<|yi g;rw[qg,Int.mul_one]at this;omega
  ·omega
 rw[i,ql,qm]at e;unfold HN;rw[En h.d, <-e];rfl
open Go.Lib
theorem Ur(n:Int):rN n=decide (n<0):=rfl
theorem HP(a:Bool×List Int):(a.1=true->vR a= -Aj a.2)/\(a.1=false->vR a=Aj a.2):=by
 unfold vR;exact⟨fun h=>by rw[wd h],fun h=>by rw[wc<|by rw[h];decide]⟩
theorem JD{neg:Bool}{w:List Int}{n:Int}(c:Au B9 w)(h0:0<=Aj w)(b:neg=true->n= -Aj w)(a:neg=false->n=Aj w):(Cj neg w,Aw w)=(rN n,rW n):=by
 refine fM c ?_<|fun d=>?_
 ·rw[Ah];cases neg with
  |true=>have:=b rfl;omega
  |false=>have:=a rfl;omega
 ·rw[Ur];cases neg with
  |true=>have:=b rfl;symm;rw[w5];omega
  |false=>have:=a rfl;symm;rw[w9];omega
theorem DQ{n:Int}(h:0<=n):Aj (BA n)=n/\Au B9 (BA n):=⟨CO (b:=B9) af h,GJ (b:=B9) af n⟩
theorem X3{a b:Bool×List Int}(c:Cb a=true)(f:Cb b=true)(h:a.1=b.1):(Cj a.1<|GH a.2 b.2,Aw<|GH a.2 b.2)=(LA a b,LO a b):=by
 have a0:=(D9 c).2;have g:=(D9 f).2;obtain⟨e,d⟩:=HP a;obtain⟨f1,f2⟩:=HP b;obtain⟨hv,hd⟩:=DQ (n:=Aj a.2+Aj b.2) ae;refine JD hd (by show 0<=Aj (BA _);omega) (fun k=>?_)<|fun k=>?_
 ·rw[e k,f1<|by rw[<-h];exact k];show _= -Aj (BA _);omega
 ·rw[d k,f2<|by rw[<-h];exact k];show _=Aj (BA _);omega
theorem VT{a b:Bool×List Int}(c:Cb b=true)(h:a.1≠b.1)(f:Aj b.2<=Aj a.2):(Cj a.1<|HN a.2 b.2,Aw<|HN a.2 b.2)=(LA a b,LO a b):=by
 have g:=(D9 c).2;obtain⟨d,e⟩:=HP a;obtain⟨f1,f2⟩:=HP b;obtain⟨hv,hd⟩:=DQ (n:=Aj a.2-Aj b.2) ae;refine JD hd (by show 0<=Aj (BA _);omega) (fun k=>?_)<|fun k=>?_
 ·rw[d k,f2 (by rw[k]at h;cases c:b.1 with|true=>exact wh c.symm h|false=>rfl)];show _= -Aj (BA _);omega
 ·rw[e k,f1 (by rw[k]at h;cases c:b.1 with|true=>rfl|false=>exact wh c.symm h)];show _=Aj (BA _);omega
theorem jF{a b:Bool×List Int}(d:Cb a=true)(h:a.1≠b.1)(c:Aj a.2<=Aj b.2):(Cj b.1<|HN b.2 a.2,Aw<|HN b.2 a.2)=(LA a b,LO a b):=by
 have:=VT d (fun k=>h k.symm) c;rw[this];unfold LA LO;rw[Int.add_comm]
theorem dJ{a b:Bool×List Int}(g:Cb a=true)(i:Cb b=true):(Cj (a.1 !=b.1)<|BA<|Aj a.2*Aj b.2,Aw<|BA<|Aj a.2*Aj b.2)=(G9 a b,GU a b):=by
 have a0:=(D9 g).2;have h:=(D9 i).2;obtain⟨f,e⟩:=HP a;obtain⟨f1,f2⟩:=HP b;have p0:=qu a0 h;obtain⟨hv,hd⟩:=DQ p0;refine JD hd ae (fun k=>?_)<|fun k=>?_
 ·rw[hv];cases d:a.1<;>cases c:b.1<;>rw[d,c]at k
  ·exact wh k af
  ·rw[e d,f1 c,qg]
  ·rw[f d,f2 c,Int.neg_mul]
  ·exact wh k af
 ·rw[hv];cases d:a.1<;>cases c:b.1<;>rw[d,c]at k
  ·rw[e d,f2 c]
  ·exact wh k af
  ·exact wh k af
  ·rw[f d,f1 c,Int.neg_mul,qg,Int.neg_neg]
theorem YD{a:Bool×List Int}(b:Cb a=true):(Cj (!a.1) a.2,Aw a.2)=(Qz a,QS a):=by
 have a0:=(D9 b).2;obtain⟨c,d⟩:=HP a;refine JD (Bk (CI b).1).2.1 a0 (fun k=>?_)<|fun k=>?_
 ·rw[d<|by simpa using k]
 ·rw[c (by simpa using k),Int.neg_neg]
theorem KU{b:Bool×List Int}(c:Cb b=true)(h0:0<vR b):b.1=false/\vR b=Aj b.2:=by
 have e:=(D9 c).2;obtain⟨a,d⟩:=HP b;cases h:b.1 with
 |true=>have:=a h;omega
 |false=>exact⟨rfl,d h⟩
theorem aT{A b:Int}(c:0<b)(d:A % b≠0): -A/b= -(A/b+1):=by
 have g:=Int.mul_ediv_add_emod A b;have e:=Int.emod_nonneg A (show b≠0 by omega);have f:=Int.emod_lt_of_pos A c;refine((Int.ediv_emod_unique (a:= -A) (b:=b) (r:=b-A % b) (q:= -(A/b+1)) c).2 ⟨?_,by omega,by omega⟩).1;rw[qg,qt,Int.mul_one];omega
theorem UO{A b:Int}(c:0<b)(d:A % b=0): -A/b= -(A/b):=by
 have e:=Int.mul_ediv_add_emod A b;refine((Int.ediv_emod_unique (a:= -A) (b:=b) (r:=0) (q:= -(A/b)) c).2 ⟨?_,by omega,c⟩).1;rw[qg];omega
theorem Ng{a b:Bool×List Int}(d:Cb a=true)(e:Cb b=true)(h0:0<vR b)(h:a.1=false\/Aj a.2 % Aj b.2=0):(Cj a.1<|BA<|Aj a.2/Aj b.2,Aw<|BA<|Aj a.2/Aj b.2)=(Ic a b,Ih a b):=by
 have a0:=(D9 d).2;obtain⟨c,g⟩:=HP a;obtain⟨_,f⟩:=KU e h0;rw[f]at h0;have i:=qo a0<|yi h0;obtain⟨hv,hd⟩:=DQ i;refine JD hd ae (fun k=>?_)<|fun k=>?_
 ·rw[hv,c k,f];rcases h with h|h
  ·rw[k]at h;cases h
  ·exact UO h0 h
 ·rw[hv,g k,f]
theorem Ux{a b:Bool×List Int}(i:Cb a=true)(j:Cb b=true)(h0:0<vR b)(h:a.1=true)(c:Aj a.2 % Aj b.2≠0):(Cj a.1<|GH (BA<|Aj a.2/Aj b.2) [1],Aw<|GH (BA<|Aj a.2/Aj b.2) [1])=(Ic a b,Ih a b):=by
 have a0:=(D9 i).2;obtain⟨d,o⟩:=HP a;obtain⟨_,f⟩:=KU j h0;rw[f]at h0;have m:=qo a0<|yi h0;have e:GH (BA<|Aj a.2/Aj b.2) [1]=BA (Aj a.2/Aj b.2+1):=by
  unfold GH;rw[(DQ m).1];rfl
 rw[e];obtain⟨l,g⟩:=DQ (n:=Aj a.2/Aj b.2+1) ae;refine JD g ae (fun k=>?_)<|fun k=>?_
 ·rw[l,d k,f];exact aT h0 c
 ·rw[h]at k;cases k
theorem lF{w:List Int}{i:Nat}(a:w.length=i+1):val B9 (w.drop i)=w.getD i 0:=by
 rw[GB,zy ae];show _+1000000000*0=_;omega
theorem U3{w:List Int}(a:AW w=true){i:Nat}(b:w.length=i+1):HJ (w.getD i 0) 1=decDigits (val B9<|w.drop i).toNat/\0<val B9 (w.drop i):=by
 have g:=Bp a i;have t:=Qg a (i:=i) ae ae;rw[lF b];exact⟨NV g.1 ae,by omega⟩
theorem W8{w:List Int}(a:AW w=true)(i:Nat)(h0:0<val B9 (w.drop<|i+1)):decDigits (val B9<|w.drop<|i+1).toNat++HJ (w.getD i 0) 9=decDigits (val B9<|w.drop i).toNat/\0<val B9 (w.drop i):=by
 have g:=Bp a i;rw[GB w i,Xz g.1 g.2];generalize val B9 (w.drop<|i+1)=V at*;generalize w.getD i 0=x at*;have h:=Wx 9 V.toNat x.toNat af ae ae;refine⟨?_,by omega⟩;rw[<-h];congr 1;omega
theorem fL{a:Bool×List Int}(d:Cb a=true)(c:a.2≠[]):(if a.1=true then 45::decDigits (Aj a.2).toNat else decDigits (Aj a.2).toNat)=FB a:=by
 obtain⟨e,f⟩:=HP a;have h0:0<Aj a.2:=IM (b:=B9) af (Bk (CI d).1).2.1 (Bk (CI d).1).2.2 c;unfold FB B6 itoa;by_cases h:a.1=true
 ·rw[wd h,e h,wd ae,show(-Aj a.2).natAbs=(Aj a.2).toNat by omega]
 ·have h:a.1=false:=by simpa using h
  rw[wc (by rw[h];decide),f h,wc ae]
theorem Zw{a:Bool×List Int}(h:a.2=[]):[48]=FB a:=by
 have:vR a=0:=by
  unfold vR;rw[h];split<;>rfl
 unfold FB B6 itoa;rw[this,wc af,show(0:Int).toNat=0 from rfl,decDigits_one af];rfl
theorem Jw{N D:Int}(b:0<D):0<gI (Ae N) D/\Ae N/gI (Ae N) D=Ae (zi N D).num/\D/gI (Ae N) D=((zi N D).den:Int)/\(N<0↔(zi N D).num<0):=by
 have i:D.sign=1:=Int.sign_eq_one_of_pos b;have e:(zi N D).num=N/(yo N D:Int):=by rw[qq,i,qe,q9]
 have j:((zi N D).den:Int)=D/(yo N D:Int):=by
  rw[Rat.den_divInt,wc<|Int.ne_of_gt b,q9,Int.natCast_ediv];rw[Int.natAbs_of_nonneg<|yi b]
 have l:gI (Ae N) D=(yo N D:Int):=by rw[FT,Ah];rfl
 have a:0<yo N D:=Int.gcd_pos_of_ne_zero_right _ ae;obtain⟨k,c⟩:(yo N D:Int)∣N:=Int.gcd_dvd_left ..;rw[l,e,j];have a:(0:Int)<(yo N D:Int):=ae
 generalize (yo N D:Int)=g at*;have d:N/g=k:=by rw[c,qi _ ae]
 have f:Ae N/g=Ae k:=by
  rw[Ah,Ah,c,qv,Int.natCast_mul,show((g.natAbs:Nat):Int)=g by omega,qi _ ae]
 refine⟨a,by rw[d,f],rfl,?_⟩;rw[d];constructor
 ·intro h;rcases Int.lt_or_le k 0 with x|x
  ·exact x
  ·have:=qu (yi a) x;omega
 ·intro h;have:=Int.mul_neg_of_pos_of_neg a h;omega
theorem YP{N D:Int}(a:0<D){neg:Bool}(c:neg=rN N):(Cj neg<|BA<|Ae N/gI (Ae N) D,Aw<|BA<|Ae N/gI (Ae N) D)=(rN (zi N D).num,rW (zi N D).num):=by
 obtain⟨_,d,_,b⟩:=Jw (N:=N) a;rw[d];have a0:=MG (zi N D).num;obtain⟨hv,hd⟩:=DQ a0;refine fM hd hv<|fun _=>?_;rw[c,Ur,Ur,decide_eq_decide];exact b
theorem jN{n:Int}(h0:0<=n):BA n=[1]↔n=1:=by
 constructor
 ·intro h;have:=(DQ h0).1;rw[h]at this;exact this.symm
 ·rintro rfl;rfl
theorem P1{N D:Int}:B4 N D=if (zi N D).den=1 then B6 (zi N D).num else B6 (zi N D).num++47::B6 ((zi N D).den:Int):=by
 unfold B4 AX;split
 ·rfl
 ·rw[show B6 ((zi N D).den:Int)=decDigits (zi N D).den from Lib.itoa_nonneg _];rfl
theorem Ts(N D:Int):B4 (-N) (-D)=B4 N D:=by
 unfold B4;rw[Rat.neg_divInt_neg]
theorem NH{s:Rd}(h:Br s=true):Bb s=H2 s/\AM s=Q7 s/\Ak (AD<|Ba s)=true/\Ak (AN<|Ba s)=true:=by
 obtain⟨t,_⟩:=Fx h;obtain⟨c1,c2,c3⟩:=Fc<|AO s;obtain⟨p1,p2,p3,p4⟩:=V6 s;obtain⟨i1,i2,i3,i4⟩:=D7 (AO s).num;rw[t]at c1 c2 c3;have b:Ak (AN s)=true:=by
  rw[c2];split
  ·rfl
  ·exact CM _
 refine⟨?_,?_,?_,?_⟩
 ·unfold Bb H2 Bg;rw[p1, <-p4];unfold Ba preB;by_cases a:(AD s).getD 0 0=45
  ·rw[wd a,wd a,wd<|w4 a]
  ·rw[wc a,wc a,wc<|by rw[w8 a];decide]
 ·unfold AM Q7 Bg;rw[p2,p3,wc<|Ec b]
 ·rw[p1,c1,i2];exact CM _
 ·rw[p2];exact b
theorem FH{s:Rd}(h:Br s=true)(a:DN s=true):dY s=Bb s/\RO s=AM s/\ -1000000000<Bb s/\Bb s<1000000000/\0<AM s/\AM s<1000000000:=by
 obtain⟨b,c,i,g⟩:=NH h;have d:0<AM s:=by
  have:=(DY h).2.2.2.2.2.1;have:=(AO s).den_pos;omega
 unfold dY RO;rw[wd a,wd a];unfold DN at a;rw[ze,ze,w5,w5,w5]at a;obtain⟨⟨_,f⟩,e⟩:=a;have j:=A9 i;have k:=A9 g;have l:(10:Int)^(AD<|Ba s).length<=10^9:=AJ af f;have m:(10:Int)^(AN<|Ba s).length<=10^9:=AJ af e;refine⟨b.symm,c.symm,?_,?_,d,?_⟩
 ·rw[b];unfold H2;split<;>omega
 ·rw[b];unfold H2;split<;>omega
 ·rw[c];unfold Q7;split<;>omega
theorem X6{a b:Rd}(d:Br a=true)(f:Br b=true):F7 a b=B4 (Bb a*AM b+AM a*Bb b) (AM a*AM b)/\F7 a b=B4 (Bb a*AM b+Bb b*AM a) (AM a*AM b):=by
 have c:AM a≠0:=by
  have:=(DY d).2.2.2.2.2.1;have:=(AO a).den_pos;omega
 have g:AM b≠0:=by
  have:=(DY f).2.2.2.2.2.1;have:=(AO b).den_pos;omega
 have e:F7 a b=B4 (Bb a*AM b+Bb b*AM a) (AM a*AM b):=by
  unfold F7 B4 AO;rw[Rat.divInt_add_divInt _ _ c g]
 exact⟨by rw[e,Int.mul_comm (AM a)<|Bb b],e⟩
theorem Xe{a b:Rd}:Ja a b=B4 (Bb a*Bb b) (AM a*AM b):=by
 unfold Ja B4 AO;rw[Rat.divInt_mul_divInt]
theorem Yv{a:Rd}:Qq a=B4 (AM a) (Bb a):=by
 unfold Qq B4 AO;rw[Rat.inv_divInt]
theorem Se:∀(f n l:Nat) (a:Rd),(GR f n l a).length<=a.length+f
 |0,_,_,a=>qc _
 |f+1,n,l,a=>by
  unfold GR;split
  ·omega
  ·have:=Se f (n/10) l (yp (48+n % 10)::a);grind
theorem Th(n l:Int):(HJ n l).length<=64:=by
 have:=Se 64 n.toNat l.toNat [];exact this
theorem S2{v:Int}{k:Nat}(h:v<(B9:Int)^k)(a:1<=k):(zj v.toNat).length<=9*k:=by
 rw[Ue]at h;refine G8 (k:=9*k) ?_ ae;grind
end Go.Sp
namespace Go.Pe
open Sp
open Go.Det
theorem rK{s:Sh}(a:s.sz=1){id n:Nat}{tail:Ob}{fz:Bool}{t:TypeId}{o:List s.T}(b:n=o.length):HF ⟨0,.leaf,(id,.arr fz t s o)::tail,0⟩ (.list s) (.sl id 1 0 n none)=some (true,o):=by
 have c:AK ((id,Obj.arr fz t s o)::tail) id=some (.arr fz t s o):=by grind [AK,Nat.beq_refl]
 unfold HF;simp_all [DT,PV.cells,Cq,AF.obj,Oh,Sh.MF,DJ,Co,oJ,Ex]
theorem lT{s:Sh}(a:s.sz=1){id n:Nat}{tail:Ob}{fz:Bool}{t:TypeId}{o:List s.T}(b:n=o.length):NB [.list s] (.sl id 1 0 n none) ((id,.arr fz t s o)::tail)=some (true,o):=rK a b
theorem Ml(a:List Int)(i:Nat):Ht a (i:Int)=a.getD i 0:=by rfl
theorem mR[Srt]:DU XR0:=fun g sp h=>by cases h
theorem T190.ok[Srt]:Ag Bh 190 T2:=by
 refine BX mR<|fun(i:List Int×Int) hi=>?_;obtain⟨a,i⟩:=i;have h0:0<=i:=w6 hi;have b:∀v ob,v=Ht a i->Ac T2 (a,i) (.dat i64 v) ob:=fun v ob h=>zt rfl rfl h
 refine zn (T190.Al a i) (zh (fun c=>zd ah<|zf<|b _ _ rfl)<|fun c=>zf<|b _ _ ?_);grind [Ht]
theorem WJ[Srt]:DU Ty:=Aa T190.ok<|Aa T188.ok AT
theorem O7{x y c:Int}(b:0<=x/\x<1000000000)(d:0<=y/\y<1000000000)(a:0<=c/\c<=1):
  zc .i64 (zc .i64 (x+y)+c)=x+y+c/\z7 (x+y+c) 1000000000=(x+y+c) % 1000000000/\zc .i64 (yd (x+y+c) 1000000000)=(x+y+c)/1000000000:=by
 grind [wr]
theorem aU{a b:List Int}(h:fC a b=true):AW a=true/\AW b=true/\a.length<=9000/\b.length<=9000:=by
 simp_all [fC]
theorem Uo{a b:List Int}(e:AW a=true)(c:AW b=true)(d:a.length<=9000)(f:b.length<=9000):fC a b=true:=by
 grind [fC]
namespace T129
theorem done[Srt](a b o:List Int)(i:Nat)(e:a.length<=i)(c:b.length<=i)(d:Q (.sl 0 1 0 o.length none) [(0,.arr false 3 (.int .i64) o)]):Ends Ty (L2 a b o.length 0 i o) Q:=
 (by simp_all [zm,A5,w8])
set_option maxHeartbeats 1000000 in
theorem A2[Srt](a b:List Int)(d:AW a=true)(f:AW b=true)(t:a.length<=9000)(w:b.length<=9000)(x:Q (.sl 0 1 0 (GH a b).length none) [(0,.arr false 3 (.int .i64)<|GH a b)]):∀(k i:Nat) (o:List Int) (c:Int),i+k=max a.length b.length->Fl a b i o c->Ends Ty (L2 a b o.length c i o) Q:=by
 have g:∀(i:Nat) (o:List Int),a.length<=i->b.length<=i->Fl a b i o 0->Ends Ty (L2 a b o.length 0 i o) Q:=fun i o p j h=>by
  have:=h.fin p j;grind [done]
 have next:∀(i:Nat) (o:List Int) (c:Int),i<=9000->Fl a b i o c->(i<a.length\/i<b.length\/0<c->Ends Ty (L2 a b (o++[(a.getD i 0+b.getD i 0+c) % 1000000000]).length ((a.getD i 0+b.getD i 0+c)/1000000000) ((i+1:Nat):Int)<|o++[(a.getD i 0+b.getD i 0+c) % 1000000000]) Q)->Ends Ty (L2 a b o.length c i o) Q:=fun i o c l h go=>by
  obtain⟨s1,s2,s3⟩:=O7 (Bp d i) (Bp f i) h.c01;have s:zc .i64 ((i:Int)+1)=((i+1:Nat):Int):=by grind [wr]
  have q:=h.len;have cap:(decide ((1:Nat)<=(1:Nat))&&true&&decide (o.length=o.length)&&decide ((3*(o.length+1)+2000)*8<=562949953421312))=true:=by
   grind
  have h0:decide ((0:Int)<=(i:Int))=true:=(by rfl);rw[yc]at go;by_cases u:(i:Int)<(a.length:Int)
  ·refine zm (A5 ..) ?_;conv=>zeta
   simp_all [Ml]
  ·by_cases v:(i:Int)<(b.length:Int)
   ·refine zm (A5 ..) ?_;conv=>zeta
    simp_all [Ml]
   ·by_cases r:c>0
    ·refine zm (A5 ..) ?_;conv=>zeta
     simp_all [Ml]
    ·obtain rfl:c=0:=by have:=h.c01;omega
     grind
 intro k;induction k with
 |zero=>
  intro i o c l h;refine next i o c ae h (fun e=>?_);have j:=h.step d f e;have y:a.getD i 0=0:=ah
  have z2:b.getD i 0=0:=ah
  have m:=h.c01;have z3:(a.getD i 0+b.getD i 0+c)/1000000000=0:=ae
  grind
 |succ k n=>
  intro i o c l h;exact next i o c ae h (fun e=>n (i+1) _ _ ae<|h.step d f e)
set_option maxHeartbeats 1000000 in
theorem ok[Srt]:Ag Bh 129 Vj:=by
 refine BX WJ<|fun(i:List Int×List Int) hi=>?_;obtain⟨a,b⟩:=i;obtain⟨ha,hb,la,lb⟩:=aU hi;obtain⟨s1,s2,s3⟩:=O7 (Bp ha 0) (Bp hb 0) (c:=0) af;have h0:=Fl.start a b;have go:(0<a.length\/0<b.length)->Ends Ty (L2 a b 1 ((a.getD 0 0+b.getD 0 0+0)/1000000000) ((1:Nat):Int) [(a.getD 0 0+b.getD 0 0+0) % 1000000000]) (Ac Vj (a,b)):=fun h=>
  A2 a b ha hb la lb (zt (lT rfl rfl) rfl rfl) (max a.length b.length-1) 1 _ _ ae (h0.step ha hb ae)
 refine zn (Al a b)<|zm (As ..) ?_;have g:Ht a 0=a.getD 0 0:=rfl;have j:Ht b 0=b.getD 0 0:=rfl;have f:zc .i64 ((0:Int)+1)=((1:Nat):Int):=rfl;refine zh (fun c=>?_)<|fun e=>zh (fun c=>?_)<|fun d=>zo rfl (zf<|zt (y:=[]) rfl rfl ?_)
 ·exact zd rfl (zd rfl (zd rfl (zd rfl (zd rfl ah))))
 ·exact zd rfl (zd rfl (zd rfl (zd rfl (zd rfl ah))))
 ·have e:=w7 e;have d:=w7 d;exact h0.fin ae ae
end T129
namespace T131
theorem Gr{x y c:Int}(b:0<=x/\x<1000000000)(d:0<=y/\y<1000000000)(a:0<=c/\c<=1):
  zc .i64 (zc .i64 (x-y)-c)=x-y-c/\zc .i64 (x-y-c+1000000000)=x-y-c+1000000000:=by
 grind [wr]
set_option maxHeartbeats 1000000 in
theorem A2[Srt](a b:List Int)(g:AW a=true)(f:AW b=true)(l:a.length<=9000)(e:Aj b<=Aj a)(m:∀ob,Q (.dat li<|HN a b) ob):∀(k i:Nat) (o:List Int) (c:Int),i+k=a.length->FY a b i o c->Ends Ty (L2 a b o.length c i o) Q
 |0,i,o,c,j,h=>by
  have j:i=a.length:=ae
  subst j;have n:=h.len;refine zm (A5 ..) (zo (by simp) ?_);rw[zx ae];refine zd ah<|zf ?_;rw[h.fin f e];grind
 |k+1,i,o,c,j,h=>by
  obtain⟨s1,s2⟩:=Gr (Bp g i) (Bp f i) h.c01;have p:zc .i64 ((i:Int)+1)=((i+1:Nat):Int):=by grind [wr]
  have n:=h.len;have cap:(decide ((1:Nat)<=(1:Nat))&&true&&decide (o.length=o.length)&&decide ((3*(o.length+1)+2000)*8<=562949953421312))=true:=by
   grind
  refine zm (A5 ..) ?_;conv=>zeta
  rw[Ml,zk,s1,s2,p];refine zd ah (zd ah<|zd (by rfl)<|zh (fun d=>zd cap ?_)<|fun d=>zd cap ?_)
  ·have:=A2 a b g f l e m k (i+1) _ _ ae (h.step g f _ 1 (.inl ⟨ah,rfl,rfl⟩));grind
  ·have:=A2 a b g f l e m k (i+1) _ _ ae (h.step g f _ 0 (.inr ⟨ah,rfl,rfl⟩));grind
set_option maxHeartbeats 1000000 in
theorem ok[Srt]:Ag Bh 131 U5:=by
 refine BX WJ<|fun(i:List Int×List Int) e=>?_;obtain⟨a,b⟩:=i;have e:(fC a b&&decide (Aj b<=Aj a))=true:=e;rw[ze,w5]at e;obtain⟨e,hle⟩:=e;obtain⟨ha,hb,la,lb⟩:=aU e;have h0:=FY.start a b;have f:∀ob,Ac U5 (a,b) (.dat li<|HN a b) ob:=fun ob=>zt rfl rfl rfl
 refine zn (Al a b)<|zm (As ..) ?_;obtain⟨s1,s2⟩:=Gr (Bp ha 0) (Bp hb 0) (c:=0) af;have g:Ht b 0=b.getD 0 0:=rfl;refine zh (fun c=>?_)<|fun c=>?_
 ·have h:=w6 c;refine zd (Ad rfl c)<|zd rfl (zh (fun d=>zd rfl ?_)<|fun d=>zd rfl ?_)
  ·exact A2 a b ha hb la hle f (a.length-1) 1 _ _ ae (h0.step ha hb _ 1 ah)
  ·exact A2 a b ha hb la hle f (a.length-1) 1 _ _ ae (h0.step ha hb _ 0 ah)
 ·refine zd rfl (zf ?_);grind [FY.fin]
end T131
theorem Mj[Srt]:DU wE:=Aa T128.ok (by grind [Aa,T129.ok,T130.ok,T131.ok,T132.ok,T127.ok,Mf])
theorem G2{n:Int}{k:Nat}(h0:0<=n)(h:n<(yq:Int)^k):(BA n).length<=k:=Mn h0 h
theorem IQ{a:Bool×List Int}(h:Cb a=true):0<=Aj a.2/\Aj a.2<(yq:Int)^3000:=by
 obtain⟨d,c,_⟩:=CI h;refine⟨(D9 h).2,zu (Bn (b:=yq) af (Bk d).2.1)<|AJ af c⟩
theorem T4{x y:Int}{k:Nat}(b:x<(yq:Int)^k)(a:y<(yq:Int)^k):x+y<(yq:Int)^(k+1):=by
 grind
theorem T76.ok[Srt]:Ag Bh 76 dQ:=by
 refine BX Mj<|fun(i:(Bool×List Int)×(Bool×List Int)) f=>?_;obtain⟨a,b⟩:=i;have f:(Cb a&&Cb b)=true:=f;rw[ze]at f;obtain⟨ha,hb⟩:=f;obtain⟨a1,a2,_⟩:=CI ha;obtain⟨b1,b2,_⟩:=CI hb;obtain⟨va,wa⟩:=IQ ha;obtain⟨vb,wb⟩:=IQ hb;have pl:=Uo a1 b1 ae ae;have h:=Uo b1 a1 ae ae;refine zn (T76.Al a b)<|zh (fun c=>?_)<|fun c=>zd (Ad a1 b1)<|zh (fun d=>?_)<|fun d=>?_
 ·have g:(GH a.2 b.2).length<=3001:=G2 ae ah;exact zd pl (zd ah<|zf<|zt rfl rfl (X3 ha hb ah))
 ·have e:Aj b.2<=Aj a.2:=by
   grind [B3]
  have g:(HN a.2 b.2).length<=3000:=G2 ae ae;exact zd ah (zd ah<|zf<|zt rfl rfl (VT hb ah e))
 ·have e:Aj a.2<=Aj b.2:=by
   grind [B3]
  have g:(HN b.2 a.2).length<=3000:=G2 ae ae;exact zd ah (zd ah<|zf (zt rfl rfl (jF ha ah e)))
theorem T77.ok[Srt]:Ag Bh 77 VQ:=by
 refine BX Mj<|fun(i:(Bool×List Int)×(Bool×List Int)) c=>?_;obtain⟨a,b⟩:=i;have c:(Cb a&&Cb b)=true:=c;rw[ze]at c;obtain⟨ha,hb⟩:=c;obtain⟨a1,a2,_⟩:=CI ha;obtain⟨b1,b2,_⟩:=CI hb;obtain⟨va,wa⟩:=IQ ha;obtain⟨vb,wb⟩:=IQ hb;have d:Aj a.2*Aj b.2<(yq:Int)^(3000+3000):=by
  rw[Int.pow_add];have e:(0:Int)<(yq:Int)^3000:=ae;exact yk (yb ae va)<|Int.mul_lt_mul_of_pos_right wa e
 have f:=G2 (qu va vb) d;exact zn (T77.Al a b) (zd (by grind [VP,Bk]) (zd ah<|zf<|zt rfl rfl (dJ ha hb)))
theorem T126.ok[Srt]:Ag Bh 126 WK:=by
 refine BX Mj<|fun(a:Bool×List Int) ha=>?_;have:=(CI ha).2.1;exact zn (T126.Al a) (zd ah<|zf<|zt rfl rfl (YD ha))
theorem T185.ok[Srt]:Ag Bh 185 WS:=by
 refine BX Mj<|fun(i:(Bool×List Int)×(Bool×List Int)) f=>?_;obtain⟨a,b⟩:=i;have f:(Cb a&&Cb b&&decide (0<Sp.vR b))=true:=f;rw[ze,ze,w5]at f;obtain⟨⟨ha,hb⟩,h0⟩:=f;obtain⟨a1,a2,_⟩:=CI ha;obtain⟨b1,b2,_⟩:=CI hb;obtain⟨va,wa⟩:=IQ ha;have n:=(KU hb h0).2;have j:0<Aj b.2:=ae
 have e:=qo va<|yi j;have q1:Aj a.2/Aj b.2<(yq:Int)^3000:=yk (Int.ediv_le_self _ va) wa;have g:=Int.emod_nonneg (Aj a.2) (show Aj b.2≠0 by omega);have m:=G2 e q1;have l:=(EZ e q1 af).1;have o:(BA<|Aj a.2 % Aj b.2).length=0↔Aj a.2 % Aj b.2=0:=by
  rw[qj];exact ZA (b:=yq) af g
 refine zn (T185.Al a b) (zd ah<|zh (fun c=>zh (fun d=>?_)<|fun d=>?_)<|fun c=>?_)
 ·have d:=w6 d;have k:Aj a.2 % Aj b.2≠0:=ae;have h:(GH (BA<|Aj a.2/Aj b.2) [1]).length<=3001:=by
   refine G2 ?_ ?_
   ·rw[(DQ e).1];show 0<=_+(1:Int);omega
   ·rw[(DQ e).1];exact T4 q1 (zu (show(1:Int)<(yq:Int)^1 by decide) ah)
  exact zd (Uo l rfl ae af) (zd ah<|zf<|zt rfl rfl (Ux ha hb h0 c k))
 ·have d:=w7 d;exact zd ah (zf<|zt rfl rfl (Ng ha hb h0 ae))
 ·exact zd ah<|zf<|zt rfl rfl (Ng ha hb h0<|.inl c)
theorem iY[Srt]:DU zD:=Aa T111.ok AT
namespace T108
theorem Ap[Srt](neg:Bool)(w:List Int)(d:AW w=true)(h:w.length<=3000)(a:∀ob,Q (.dat .str (if neg=true then 45::zj (Aj w).toNat else zj (Aj w).toNat)) ob):∀(i:Nat),i<=w.length->0<Sp.val yq (w.drop i)->Ends zD (L1 (zj (Sp.val yq<|w.drop i).toNat) ((i:Int)-1) neg w) Q:=by
 have e:∀i,(zj (Sp.val yq<|w.drop i).toNat).length<=27000:=fun i=>by
  have n:=Bn (b:=yq) af<|Eb (Bk d).2.1 i;have j:(yq:Int)^(w.drop i).length<=(yq:Int)^3000:=AJ af ah;exact S2 (k:=3000) ae af
 intro i;induction i with
 |zero=>
  intro _ _;refine zm (As ..) (zo af<|zh (fun c=>zd ah<|zf ?_)<|fun c=>zf ?_)
  ·rw[wd c]at a;exact a _
  ·rw[wc ah]at a;exact a _
 |succ i l=>
  intro m h0;have g:=Bp d i;have f:(((i+1:Nat):Int)-1)=(i:Int):=ae
  obtain⟨s1,s2⟩:=W8 d i h0;rw[f];refine zm (As ..) ?_;conv=>zeta
  rw[zk,s1,wr ((i:Int)-1) ae ae];exact zd (by rfl) (zd ah<|zd ah<|by grind [zd])
theorem ok[Srt]:Ag Bh 108 Rj:=by
 refine BX iY<|fun(a:Bool×List Int) ha=>?_;obtain⟨a1,a2,_⟩:=CI ha;refine zn (Al a)<|zh (fun c=>zf<|zt rfl rfl (Zw ?_))<|fun c=>?_
 ·simp_all
 ·have c:(a.2.length:Int)≠0:=ah
  obtain⟨i,d⟩:∃i,a.2.length=i+1:=⟨a.2.length-1,by omega⟩;have g:=Bp a1 i;obtain⟨s1,s2⟩:=U3 a1 d;have b:zc .i64 ((a.2.length:Int)-1)=(i:Int):=by grind [wr]
  have e:zc .i64 ((a.2.length:Int)-2)=(i:Int)-1:=by grind [wr]
  rw[b,e,zk,s1];refine zd ah (zd ah<|Ap a.1 a.2 a1 a2 (fun ob=>zt rfl rfl ?_) i ae s2);exact fL ha ah
end T108
end Go.Pe
namespace Go.Sp
theorem ZX{a k m:Nat}(h:a<10^k)(b:k<=m):a<10^m:=(by grind [Nat.lt_of_lt_of_le,yf])
theorem Zj{a b k:Nat}(d:a<10^k)(c:b<10^k):a+b<10^(k+1):=ae
theorem KJ{n:Int}{k:Nat}(h:n.natAbs<10^k)(a:k<=27000):Cb (rN n,rW n)=true:=(by grind [Ri,ZX])
theorem F8{m n:Int}(h:Cb (rN n,rW n)=true)(a:m.natAbs<=n.natAbs):Cb (rN m,rW m)=true:=by
 grind [sJ,Hn,Ri]
theorem Wm{n:Int}(h:B5 n=true):Cb (rN n,rW n)=true:=by
 have h:=Go.Pe.EP h;exact KJ (k:=20) ae af
theorem S0{n:Int}(h:Cb (rN n,rW n)=true):AW (rW n)=true/\(rW n).length<=3000/\Ae n<(B9:Int)^3000:=by
 obtain⟨b,a,_⟩:=CI h;have:=(Go.Pe.IQ h).2;grind [K3]
theorem Sb{n:Int}(h:Cb (rN n,rW n)=true):(B6 n).length<=27001:=by
 have a:=(S0 h).2.2;have b:=S2 a af;grind [Ah,B6,yv]
theorem JP(n:Int):FB (rN n,rW n)=B6 n:=by unfold FB;rw[Hn]
theorem T6{N D:Int}(e:0<D):yd N (gI (Ae N) D)=(zi N D).num/\yd D (gI (Ae N) D)=((zi N D).den:Int):=by
 have c:D.sign=1:=ah;have d:gI (Ae N) D=(yo N D:Int):=by rw[FT,Ah];rfl
 have b:(yo N D:Int)∣N:=Int.gcd_dvd_left ..;have a:(yo N D:Int)∣D:=Int.gcd_dvd_right ..;rw[d,qk b,qk a];refine⟨?_,(Jw (N:=N) e).2.2.1▸?_⟩
 ·rw[qq,c,qe,q9]
 grind
theorem P2(x y:Int):G9 (rN x,rW x) (rN y,rW y)=rN (x*y):=by grind [G9,Hn]
theorem PD(x y:Int):GU (rN x,rW x) (rN y,rW y)=rW (x*y):=by grind [GU,Hn]
theorem ZN(x y:Int):LA (rN x,rW x) (rN y,rW y)=rN (x+y):=by grind [LA,Hn]
theorem eJ(x y:Int):LO (rN x,rW x) (rN y,rW y)=rW (x+y):=by grind [LO,Hn]
theorem OI(x y:Int):Ia (rN x,rW x) (rN y,rW y)=B4 x y:=by grind [Ia,Hn]
theorem RJ{a b:Nat}(h:a<=b):(zj a).length<=(zj b).length:=by
 have d:=Lib.lt_pow_nDigits b;have c:1<=(zj b).length:=(by grind [dV]);rw[<-Lib.decDigits_length]at d;exact G8 ae c
theorem neg_num(x:Rat):(x.num<0↔x<0)/\(x.num>0↔0<x):=by
 simp_all [Rat.lt_iff]
theorem eK(p q:Rat):SP (p-q).num=if p<q then -1 else if q<p then 1 else 0:=by
 grind [neg_num,SP]
end Go.Sp
namespace Go.Pe
open Sp
open Go.Det
theorem gC[Srt]:DU gA:=Aa T126.ok (by grind [Aa,T106.ok,T127.ok,T128.ok,T108.ok,Mf])
namespace T75
theorem CL[Srt](n d:Int)(c:Cb (zr n,zp n)=true)(a:Cb (zr d,zp d)=true)(b:0<=d)(f:∀ob,Q (.dat .str (B6 n++47::B6 d)) ob):Ends gA (L3 (BA d)<|B6 n) Q:=by
 have g:=Sb c;have h:=Sb a;have e:zp d=BA d:=by grind [zp,Ah]
 have l:=(S0 a).2.1;obtain⟨k,i⟩:=DQ b;have j:(Cj false<|BA d,Aw<|BA d)=(zr d,zp d):=(by grind [JD]);refine zm (C5 ..) ?_;conv=>zeta
 grind [JP,zd,zf]
theorem A2[Srt](n d:Int)(i:Cb (zr n,zp n)=true)(g:Cb (zr d,zp d)=true)(k:0<d)(b:d=1->∀ob,Q (.dat .str<|B6 n) ob)(f:d≠1->∀ob,Q (.dat .str (B6 n++47::B6 d)) ob):Ends gA (L2 (BA d)<|B6 n) Q:=by
 have l:=jN (n:=d) ae;by_cases h:d=1
 ·simp_all [zm,A5]
 ·have a:=CL n d i g ae<|f h;refine zm (A5 ..)<|zh (fun c=>zd ?_<|zh (fun e=>?_)<|fun _=>a)<|fun _=>a
  ·grind
  ·cases j:BA d with
   |nil=>grind
   |cons x r=>
    grind
theorem Ap[Srt](N D:Int)(c:Cb (zr N,zp N)=true)(b:Cb (zr D,zp D)=true)(h0:0<D)(s:∀ob,Q (.dat .str<|B4 N D) ob):Ends gA (L1 (zr D) (zp D) (zr N)<|zp N) Q:=by
 obtain⟨n1,t,p⟩:=S0 c;obtain⟨d1,d2,d3⟩:=S0 b;obtain⟨g0,f1,f2,f3⟩:=Jw (N:=N) h0;have e:Ae D=D:=by grind [Ah]
 have f:B8 (zp N) (zp D)=BA (qz (Ae N) D):=by
  grind [B8,K3]
 have q:qz (Ae N) D<=D:=by
  have l:qz (Ae N) D=(yo N D:Int):=by rw[FT,Ah];rfl
  rw[l];exact Int.le_of_dvd h0<|Int.gcd_dvd_right ..
 have fn:=YP h0 (neg:=zr N) rfl;have j:(zi N D).num.natAbs<=N.natAbs:=(by grind [EY]);have o:(zi N D).den<=D.natAbs:=(by grind [EY]);have C6:=F8 (m:=(zi N D).num) c j;have a:=F8 (m:=((zi N D).den:Int)) b ae;have d:Ae (zi N D).num<(yq:Int)^3000:=(S0 C6).2.2;have r:=P1 (N:=N) (D:=D);have u:=(zi N D).den_pos;have a0:=MG (zi N D).num;refine zm (As ..) ?_;conv=>zeta
 rw[f,K3,K3,e];generalize qz (Ae N) D=g at*;have i:=EZ (n:=g) (k:=3000) ae ae af;rw[i.2.2.1,fn,f1,f2,JP];have v:=G2 a0 d;refine zd ah (zd ah (zd ah<|zd ah<|zd C6<|A2 _ _ C6 a ae (fun h ob=>?_)<|fun h ob=>?_))
 ·grind
 grind
theorem ok[Srt]:Ag Bh 75 OB:=by
 refine BX gC<|fun(i:(Bool×List Int)×(Bool×List Int)) f=>?_;obtain⟨a,b⟩:=i;have f:(Cb a&&Cb b&&decide (Sp.vR b≠0))=true:=f;rw[ze,ze,w5]at f;obtain⟨⟨ha,hb⟩,h0⟩:=f;have j:=oM ha;have h:=oM hb;have k:∀ob,Ac OB (a,b) (.dat .str<|B4 (Sp.vR a)<|Sp.vR b) ob:=fun ob=>zt rfl rfl rfl
 have d:=ha;have e:=hb;rw[j]at d;rw[h]at e;refine zn (Al a b)<|zh (fun c=>zd ha<|zd hb ?_)<|fun c=>?_
 ·have g:Sp.vR b<0:=by
   have:=dX hb;rw[c]at this;exact w6 this.symm
  have:=Ap (Q:=Ac OB (a,b)) (-Sp.vR a) (-Sp.vR b) (F8 d ae) (F8 e ae) ae (by grind [Ts]);exact this
 grind [Ap,zr]
end T75
theorem lK[Srt]:DU Yx:=Aa T109.ok (by grind [Aa,T75.ok,T110.ok,T111.ok,Mf])
namespace T52
theorem Tj{n:Int}(b: -9000000000000000000<=n)(a:n<=9000000000000000000):imax n (zc .i64<|0-n)=Ae n:=by
 grind [wr,imax,Ae]
theorem BK[Srt](n d:Int)(v:Rd)(j:v=B6 n)(h:v.length<=27001)(i:0<d)(f:d<9000000000000000000)(a:d=1->∀ob,Q (.dat .str<|B6 n) ob)(b:d≠1->∀ob,Q (.dat .str (B6 n++47::B6 d)) ob):Ends Yx (L4 d v) Q:=by
 have g:=Th d 1;have e:HJ d 1=B6 d:=by
  rw[NV ae ae];unfold B6 yv;grind
 refine zm (Dh ..) (zh (fun c=>zd ah<|zd ah<|zd ah<|zf ?_)<|fun c=>zf ?_)
 ·grind
 grind
theorem CL[Srt](n d:Int)(n1: -9000000000000000000<n)(k:n<9000000000000000000)(i:0<d)(g:d<9000000000000000000)(a:d=1->∀ob,Q (.dat .str<|B6 n) ob)(f:d≠1->∀ob,Q (.dat .str (B6 n++47::B6 d)) ob):Ends Yx (L3 n d) Q:=by
 have j:=Th (Ae n) 1;have l:=Ah n;have e:HJ (Ae n) 1=zj n.natAbs:=by
  grind [NV]
 have b:=XW n;refine zm (C5 ..) ?_;conv=>zeta
 rw[Tj ae ae];have h:(decide (0<=Ae n)&&decide (Ae n<9223372036854775808)&&decide ((0:Int)<=1)&&decide ((1:Int)<=20))=true:=Ad (Ad (by grind [Ad]) rfl) rfl;refine zh (fun c=>zd h<|zd ah<|BK n d _ ?_ ?_ i g a f) (fun c=>zd h (zd ah<|BK n d _ ?_ ?_ i g a f))
 ·have c:=w6 c;rw[wd c]at b;rw[e];exact b.symm
 ·grind
 ·have c:=w7 c;rw[wc c]at b;rw[e];exact b.symm
 grind
theorem A2[Srt](n d:Int)(n1: -9000000000000000000<n)(g:n<9000000000000000000)(b:0<d)(f:d<9000000000000000000)(e:∀ob,Q (.dat .str<|B4 n d) ob):Ends Yx (L2 n d) Q:=by
 obtain⟨q1,c⟩:=T6 (N:=n) b;obtain⟨l1,l2⟩:=EY (n:=n) (d:=d) ae;have i:=Ah n;have k:=(zi n d).den_pos;have j:=P1 (N:=n) (D:=d);refine zm (A5 ..) ?_;conv=>zeta
 rw[Tj ae ae,q1,c,wr _ ae ae,wr _ ae ae];have a:decide (qz (Ae n) d≠0)=true:=ah;refine zd (Ad (by grind [Ad]) ah) (zd a<|zd a<|CL _ _ ae ae ae ae (fun h ob=>?_)<|fun h ob=>?_)
 ·grind
 grind
theorem ok[Srt]:Ag Bh 52 WE:=by
 refine BX lK<|fun(i:Int×Int) b=>?_;obtain⟨n,d⟩:=i;have b:(B5 n&&B5 d&&decide (d≠0))=true:=b;have f:∀ob,Ac WE (n,d) (.dat .str<|B4 n d) ob:=fun ob=>zt rfl rfl rfl
 have a:(Cb (zr n,zp n)&&Cb (zr d,zp d)&&decide (Sp.vR (zr d,zp d)≠0))=true:=(by grind [Wm,Hn]);refine zn (Al n d) ?_;conv=>zeta
 rw[OI];refine zh (by simp_all) (fun g=>zh (by simp_all) (fun e=>zh (by simp_all)<|fun j=>zh (by simp_all)<|fun h=>?_));refine zm (As ..)<|zh (fun c=>?_)<|fun c=>?_
 ·grind [wr,A2,Ts]
 grind [A2]
end T52
namespace T73
theorem no3[Srt]{Q:PV->Ob->Prop}(s:Rd)(neg:Bool)(d:s.length<=20)(h:9<(AD s).length\/9<(yg s).length)(a:∀ob,Q (.tup [.dat i64 0,.dat i64 0,.bl false]) ob):Ends Mo (L3 s neg) Q/\Ends Mo (L4 s) Q:=by
 obtain⟨i,b,g⟩:=Bx s;have es:AP s=((AD s).length:Int):=rfl;have e:9<(yg s).length->(s.length:Int)-(AD s).length>10:=fun h=>by
  cases f:Bu s with
  |true=>
   grind
  |false=>grind
 refine⟨zm (C5 ..) (zd ah<|zh (fun _=>zf<|a _)<|fun c=>?_),zm (Dh ..)<|zd ah<|zh (fun _=>zf<|a _)<|fun c=>?_⟩
 ·grind [zd,zf,wr]
 grind [zd,zf,wr]
theorem okG[Srt]:Ag Bh 73 Mu:=by
 refine BX iB<|fun(a:Rd) ha=>?_;obtain⟨_,_,o,db⟩:=NH ha;by_cases b:DN a=true
 ·have g:∀n ob,n=H2 a->Ac Mu a (.tup [.dat i64 n,.dat i64<|if Bu (Ba a)=true then AA 0 (yg<|Ba a)else 1,.bl true]) ob:=fun n ob h=>zt rfl rfl (by
   show(n,_,true)=(dY a,RO a,DN a);unfold dY RO;rw[wd b,wd b,b,h];rfl)
  unfold DN at b;rw[ze,ze,w5,w5,w5]at b;obtain⟨⟨e,k⟩,m⟩:=b;refine zn (Al a) (zo ah ?_);cases a with
  |nil=>exact zo rfl (zm (A5 ..)<|BK [] e k m o db<|fun n ob h=>g n ob<|by rw[h];rfl)
  |cons c r=>
   have f:(c::r).getD 0 0=c:=rfl;rw[f];refine zd (by simp) (zd (by simp) (zm (As ..)<|zh (fun d=>zd (by simp) ?_)<|fun d=>?_))
   ·have i:c=45:=by
     exact yr.1 ah
    have l:Ba (c::r)=r:=by simp_all [Ba]
    have p:Sp.preB (c::r)=true:=by grind [Sp.preB]
    grind [H2,CL]
   ·have i:c≠45:=by rintro rfl;grind
    simp_all [Ba,Sp.preB,H2,CL]
 ·have g:∀ob,Ac Mu a (.tup [.dat i64 0,.dat i64 0,.bl false]) ob:=fun ob=>zt rfl rfl (by
   show((0:Int),(0:Int),false)=(dY a,RO a,DN a);simp_all [dY,RO])
  refine zn (Al a) (zh (by simp_all)<|fun e=>?_);have e:a.length<=20:=ah
  have j:9<(AD<|Ba a).length\/9<(yg<|Ba a).length:=by
   grind [DN]
  cases a with
  |nil=>exact zo rfl (zm (A5 ..) (no3 [] false e j g).2)
  |cons c r=>
   have f:(c::r).getD 0 0=c:=rfl;rw[f];refine zd (by simp) (zd (by simp)<|zm (As ..)<|zh (fun d=>zd (by simp) ?_)<|fun d=>?_)
   ·have i:c=45:=by
     exact yr.1 ah
    have l:Ba (c::r)=r:=by simp_all [Ba]
    grind [no3]
   ·have i:c≠45:=by rintro rfl;grind
    simp_all [Ba,no3]
end T73
theorem Rf[Srt]:DU pE:=Aa T73.okG (by grind [Aa,T52.ok,T74.ok,T76.ok,T77.ok,T75.ok,Mf])
theorem SS{x y:Int}(c: -1000000000<x)(a:x<1000000000)(b: -1000000000<y)(d:y<1000000000): -1000000000000000000<=x*y/\x*y<=1000000000000000000:=by
 have h:(x*y).natAbs<=1000000000*1000000000:=by
  rw[qv];exact Nat.mul_le_mul ae ae
 omega
theorem T26.ok[Srt]:Ag Bh 26 O9:=by
 refine BX Rf<|fun(i:Rd×Rd) c=>?_;obtain⟨a,b⟩:=i;have c:(Br a&&Br b)=true:=c;rw[ze]at c;obtain⟨ha,hb⟩:=c;obtain⟨a1,a2,a3,a4,a5,a6,a7,a8,a9⟩:=DY ha;obtain⟨b1,b2,b3,b4,b5,b6,b7,b8,b9⟩:=DY hb;have ad:=(AO a).den_pos;have D:=(AO b).den_pos;have eq:=(X6 ha hb).2;have B:∀ob,Ac O9 (a,b) (.dat .str<|B4 (Bb a*AM b+Bb b*AM a)<|AM a*AM b) ob:=fun ob=>zt rfl rfl eq.symm
 have g:Ends pE (T26.L1 a b) (Ac O9 (a,b)):=by
  have t:BC a=zr (Bb a):=rfl;have o:Bt a=zp (Bb a):=rfl;have y:Bi a=zr (AM a):=rfl;have z:Bc a=zp (AM a):=rfl;have n:BC b=zr (Bb b):=rfl;have A:Bt b=zp (Bb b):=rfl;have v:Bi b=zr (AM b):=rfl;have w:Bc b=zp (AM b):=rfl;refine zm (T26.As ..) ?_;conv=>zeta
  simp only[t,o,y,z,n,A,v,w,P2,PD,ZN,eJ,OI,Hn];have d:=Dg a8 b9;have e:=Dg b8 a9;have h:=Dg a9 b9;rw[<-qv]at d e h;have l:=Nat.lt_of_le_of_lt (Int.natAbs_add_le (Bb a*AM b)<|Bb b*AM a)<|Zj (k:=4000+4000) d e;have u:=KJ d af;have s:=KJ e af;have C:=KJ h af;have r:=KJ l af;have m:AM a*AM b≠0:=(by grind [yt]);exact zd a7<|zd b7<|zd (Ad a1 b3)<|zd (Ad b1 a3)<|zd (Ad u s)<|zd (Ad a3 b3)<|zd (Ad (Ad r C)<|w4 m)<|zf<|B _
 refine zn (T26.Al a b) (zd ha<|zd hb<|zh (fun j=>zh (fun p=>?_) ah) ah);obtain⟨K,G,q,x,I,f⟩:=FH ha j;obtain⟨y1,y2,y3,y4,y5,y6⟩:=FH hb p;have F:=SS q x ae y6;have J:=SS y3 y4 ae f;have E:=SS ae f ae y6;grind [yt,wr,zd,EV,zf]
theorem T51.ok[Srt]:Ag Bh 51 PB:=by
 refine BX Rf<|fun(i:Rd×Rd) c=>?_;obtain⟨a,b⟩:=i;have c:(Br a&&Br b)=true:=c;rw[ze]at c;obtain⟨ha,hb⟩:=c;obtain⟨a1,a2,a3,a4,a5,a6,a7,a8,a9⟩:=DY ha;obtain⟨b1,b2,b3,b4,b5,b6,b7,b8,b9⟩:=DY hb;have ad:=(AO a).den_pos;have t:=(AO b).den_pos;have z:∀ob,Ac PB (a,b) (.dat .str<|B4 (Bb a*Bb b)<|AM a*AM b) ob:=fun ob=>zt rfl rfl (Xe).symm
 have d:Ends pE (T51.L1 a b) (Ac PB (a,b)):=by
  have l:BC a=zr (Bb a):=rfl;have h:Bt a=zp (Bb a):=rfl;have p:Bi a=zr (AM a):=rfl;have q:Bc a=zp (AM a):=rfl;have f:BC b=zr (Bb b):=rfl;have r:Bt b=zp (Bb b):=rfl;have m:Bi b=zr (AM b):=rfl;have n:Bc b=zp (AM b):=rfl;refine zm (T51.As ..) ?_;conv=>zeta
  simp only[l,h,p,q,f,r,m,n,P2,PD,OI,Hn];have s:=Dg a8 b8;have w:=Dg a9 b9;grind [KJ,yt,zd,zf]
 refine zn (T51.Al a b) (zd ha<|zd hb<|zh (fun e=>zh (fun j=>?_) ah) ah);obtain⟨A,x,k,o,y,g⟩:=FH ha e;obtain⟨y1,y2,y3,y4,y5,y6⟩:=FH hb j;have v:=SS k o y3 y4;have u:=SS ae g ae y6;grind [yt,wr,zd,EV,zf]
theorem T186.ok[Srt]:Ag Bh 186 oT:=by
 refine BX Rf<|fun(a:Rd) hi=>?_;obtain⟨b,h0⟩:=Ug hi;obtain⟨a1,a2,a3,a4,a5,a6,a7,a8,a9⟩:=DY (GM b).1;refine zn (T186.Al a)<|zd a7<|zd (Ad (Ad a3 a1) ?_)<|zf<|zt rfl rfl ?_
 ·rw[a2];exact w4 fun e=>(by simp_all)
 ·unfold Ia;rw[a2,a4];exact Yv.symm
theorem VD[Srt]:DU zO:=Aa T186.ok<|Aa T51.ok<|Aa T26.ok<|Aa T112.ok AT
theorem aF{s:Rd}(h:FV s=true):Br (Kl s)=true/\AO (Kl s)= -AO s:=by
 obtain⟨b,c⟩:=GM h;obtain⟨t,_⟩:=Fx b;have e:Kl s=AX (-AO s):=by
  have:=YU<|AO s;rwa [t]at this
 have r:AO (Kl s)= -AO s:=by rw[e,DD]
 refine⟨?_,r⟩;have a:(Kl s).length<=4000:=by
  unfold Kl;split
  ·omega
  ·split
   ·rw[zz];omega
   ·rw[z6];omega
 unfold Br;rw[r, <-e,w4 rfl,w4 a];rfl
theorem T54.ok[Srt]:Ag Bh 54 cN:=by
 refine BX VD<|fun(i:Rd×Rd) c=>?_;obtain⟨a,b⟩:=i;have c:(Br a&&FV b)=true:=c;rw[ze]at c;obtain⟨ha,hb⟩:=c;obtain⟨n1,n2⟩:=aF hb;have d:=(GM hb).2;refine zn (T54.Al a b) (zd (w4 ae)<|zd (Ad ha n1)<|zf<|zt rfl rfl ?_);show F7 a (Kl b)=Ll a b;unfold F7 Ll;rw[n2,Rat.sub_eq_add_neg]
theorem aD{s:Rd}(h:XS s=true):Br (Qq s)=true:=by
 obtain⟨b,h0⟩:=Ug h;obtain⟨b,h2⟩:=GM b;obtain⟨t,_⟩:=Fx b;have a:(AX<|AO s).length<=3000:=by rw[t];exact h2
 unfold Qq;generalize AO s=q at*;have l:(zj q.num.natAbs).length<=(yv q.num).length:=by
  unfold yv;split
  ·rw[z6];omega
  ·rw[show q.num.toNat=q.num.natAbs by omega];exact qc _
 have key:(AX q⁻¹).length<=(zj q.num.natAbs).length+(zj q.den).length+2:=by
  have f:=Rat.inv_def q;have g:q.num≠0:=fun e=>h0<|Rat.num_eq_zero.mp e
  have k:=q.den_pos;have m:=EY (n:=(q.den:Int)) (d:=q.num) g;rw[<-f,ym]at m;have o:=RJ m.1;have j:=RJ m.2;have i:(yv q⁻¹.num).length<=(zj q⁻¹.num.natAbs).length+1:=by
   unfold yv;split
   ·rw[z6];omega
   ·rw[show q⁻¹.num.toNat=q⁻¹.num.natAbs by omega];omega
  unfold AX;split
  ·omega
  ·rw[yc,z6];omega
 have p:(zj q.num.natAbs).length+(zj q.den).length<=3001:=by
  unfold AX at a;split at a
  ·next c=>rw[c,qd (show 1<10 by decide),List.length_singleton];omega
  ·rw[yc,z6]at a;omega
 unfold Br;rw[DD,w4 rfl,w4 ae];rfl
theorem T122.ok[Srt]:Ag Bh 122 oA:=by
 refine BX VD<|fun(i:Rd×Rd) c=>?_;obtain⟨a,b⟩:=i;have c:(Br a&&XS b)=true:=c;rw[ze]at c;obtain⟨ha,hb⟩:=c;refine zn (T122.Al a b)<|zd hb<|zd (Ad ha<|aD hb)<|zf<|zt rfl rfl ?_;show Ja a (Qq b)=HI a b;unfold Ja HI Qq;rw[DD,Rat.div_def]
theorem WM[Srt]:DU XR8:=Aa T54.ok<|Aa T107.ok<|Aa T104.ok<|Aa T70.ok<|Aa T71.ok<|Aa T72.ok AT
theorem T49.ok[Srt]:Ag Bh 49 nE:=by
 refine BX WM<|fun(i:Rd×Rd) d=>?_;obtain⟨a,b⟩:=i;have d:(Br a&&FV b)=true:=d;have c:=d;rw[ze]at c;obtain⟨ha,hb⟩:=c;have z:=(Qs ha).sub<|Qs (GM hb).1;refine zn (T49.Al a b) (zd d<|zd (w4<|bU z af)<|zf<|zt rfl rfl ?_);show Ge (Ll a b)=X0 a b;unfold Ll;rw[Pz,eK];rfl
theorem T123.ok[Srt]:Ag Bh 123 QZ:=by
 refine BX WM<|fun(a:Rd) ha=>?_;refine zn (T123.Al a)<|zd ha<|zf<|zt rfl rfl ?_;show(AP a==(a.length:Int))=GX a;obtain⟨g,c,d⟩:=Bx a;have es:AP a=((AD a).length:Int):=rfl;unfold GX;cases b:Bu a with
 |false=>rw[es,(d b).1];simp
 |true=>
  obtain⟨f,e⟩:=c b;rw[es];simp;omega
theorem jG[Srt]:DU XR9:=Aa T74.ok<|Aa T185.ok<|Aa T108.ok<|Aa T123.ok AT
theorem T121.ok[Srt]:Ag Bh 121 Vx:=by
 refine BX jG<|fun(a:Rd) ha=>?_;obtain⟨a1,a2,a3,a4,a5,e,f,g,a9⟩:=DY ha;obtain⟨t,hl⟩:=Fx ha;have h:=(AO a).den_pos;refine zn (T121.Al a) (zd (w4 ae)<|zh (fun c=>zf<|zt rfl rfl ?_)<|fun c=>zd f<|zd (Ad (Ad a1 a3)<|by rw[a4];exact w4 ae)<|zd ?_<|zf<|zt rfl rfl ?_)
 ·show a=B6 (AO a).floor;have b:(AO a).den=1:=by
   have d:=(Fc<|AO a).2.2;rw[t]at d;unfold GX at c;rw[d]at c;simpa using c
  rw[qh,b];have:(AO a).num/((1:Nat):Int)=(AO a).num:=Int.ediv_one _;rw[this];conv=>lhs;rw[<-t]
  unfold AX;rw[wd b];rfl
 ·show Cb (Ic _ _,Ih _ _)=true;unfold Ic Ih;rw[a2,a4];exact F8 a1<|yz _ _
 ·show FB (Ic _ _,Ih _ _)=B6 (AO a).floor;unfold Ic Ih;rw[a2,a4,JP,qh,a5,e]
theorem Xs{f:Ai}{q:Rat}(h:EN f q){k:Nat}(z:FX k q)(d:k<=4000):Bd (E5 f.1 f.2)=true/\Sp.vI (E5 f.1 f.2)=q.floor:=by
 have s:=QF z d;have b:=h.den_pos;have c:=WR h.n (by rw[h.vn];exact zu s.1<|AJ af af);have a:Sp.vI (E5 f.1 f.2)=q.floor:=by rw[aM b,h.vn,h.vd,qh]
 refine⟨WR (WQ c b) ?_,a⟩;have e:=(OH z).1;rw[yj]at e;rw[a];exact zu (Qr e) (AJ af ae)
end Go.Pe
namespace Go.Sp
theorem ZQ(q:Rat):XH (AX q)=max (zj q.num.natAbs).length (zj q.den).length:=by
 unfold XH;rw[(Fc q).1,(D7 q.num).2.1,YI]
theorem tH{s:Rd}(h:BG s=0):Nu (XH s) s (AO s):=by
 obtain⟨n,_⟩:=Ds h;have e:=(Fx n).1;have a:=ZQ<|AO s;rw[e]at a;exact⟨e.symm,Dr _ (by rw[a];exact Nat.le_max_left ..),Dr _<|by rw[a];exact Nat.le_max_right ..⟩
end Go.Sp
namespace Go.Pe
open Go.Det
theorem Up{a:Rd}(b:Sp.BG a=0):Sp.F6 (frS a)=true/\Sp.HD a=true:=by
 obtain⟨n,z⟩:=Sp.Ds b;exact⟨(Kz n).F6 (QF z af),(Sp.DY n).2.2.2.2.2.2.1⟩
open Sp
structure RS(k:Nat)(f:Ai)(q:Rat):Prop where
 r:EN f q
 z:FX k q
theorem RS.mono{i j:Nat}{f:Ai}{q:Rat}(h:RS i f q)(k:i<=j):RS j f q:=⟨h.r,h.z.mono k⟩
theorem RS.s{k:Nat}{f:Ai}{q:Rat}(h:RS k f q)(a:k<=4000):JQ 4000 q:=QF h.z a
theorem RS.C6{k:Nat}{f:Ai}{q:Rat}(h:RS k f q)(a:k<=4000):qf f=true:=h.r.C6<|h.s a
theorem RS.F6{k:Nat}{f:Ai}{q:Rat}(h:RS k f q)(a:k<=4000):Sp.F6 f=true:=h.r.F6<|h.s a
theorem RS.uI{i j:Nat}{f g:Ai}{p q:Rat}(c:RS i f p)(b:RS j g q)(a:i<=4000)(d:j<=4000):(qf f&&qf g)=true:=Ad (c.C6 a)<|b.C6 d
theorem RS.add{i j:Nat}{f g:Ai}{p q:Rat}(b:RS i f p)(a:RS j g q)(c:i<=4000)(d:j<=4000):RS (i+j+1) (G1 f g) (p+q):=⟨EN.add b.r a.r (b.s c)<|a.s d,b.z.add a.z⟩
theorem RS.sub{i j:Nat}{f g:Ai}{p q:Rat}(b:RS i f p)(a:RS j g q)(c:i<=4000)(d:j<=4000):RS (i+j+1) (RU f g) (p-q):=⟨EN.sub b.r a.r (b.s c)<|a.s d,b.z.sub a.z⟩
theorem RS.mul{i j:Nat}{f g:Ai}{p q:Rat}(b:RS i f p)(a:RS j g q)(c:i<=4000)(d:j<=4000):RS (i+j) (I8 f g) (p*q):=⟨EN.mul b.r a.r (b.s c)<|a.s d,b.z.mul a.z⟩
theorem RS.div{i j:Nat}{f g:Ai}{p q:Rat}(b:RS i f p)(a:RS j g q)(d:i<=4000)(c:j<=4000)(h0:q≠0):RS (i+j) (I7 f g) (p/q):=⟨EN.div b.r a.r (b.s d) (a.s c) (QF (a.z.inv h0) c) h0,b.z.div a.z h0⟩
theorem RS.ok3{i j:Nat}{f g:Ai}{p q:Rat}(c:RS i f p)(a:RS j g q)(b:i<=4000)(d:j<=4000)(h0:q≠0):(qf f&&qf g&&decide (Sp.vI g.1≠0))=true:=Ad (c.uI a b d)<|a.r.H9.trans<|w4 h0
theorem RS.cmp{i j:Nat}{f g:Ai}{p q:Rat}(a:RS i f p)(b:RS j g q):Lx f g=if p<q then -1 else if q<p then 1 else 0:=EN.cmp a.r b.r
theorem RS.rS{i j:Nat}{f g:Ai}{p q:Rat}(b:RS i f p)(a:RS j g q):Lx f g<=0↔p<=q:=by
 rw[b.cmp a];by_cases h:p<q
 ·rw[wd h];exact⟨fun _=>Rat.le_of_lt h,fun _=>by decide⟩
 ·rw[wc h];by_cases k:q<p
  ·rw[wd k];exact⟨fun x=>wh x af,fun x=>wh k<|Rat.not_lt.2 x⟩
  ·rw[wc k];exact⟨fun _=>Rat.not_lt.1 k,fun _=>by decide⟩
theorem RS.UC{i j:Nat}{f g:Ai}{p q:Rat}(b:RS i f p)(a:RS j g q):Lx f g<0↔p<q:=by
 rw[b.cmp a];by_cases h:p<q
 ·rw[wd h];exact⟨fun _=>h,fun _=>by decide⟩
 ·rw[wc h];by_cases k:q<p
  ·rw[wd k];exact⟨fun x=>wh x af,fun x=>wh x h⟩
  ·rw[wc k];exact⟨fun x=>wh x af,fun x=>wh x h⟩
theorem RS.fJ{i j:Nat}{f g:Ai}{p q:Rat}(b:RS i f p)(a:RS j g q):Lx f g>0↔q<p:=by
 have h:=b.rS a;constructor
 ·intro k;exact Rat.not_le.1 fun x=>by have:=h.2 x;omega
 ·intro k;have:¬Lx f g<=0:=fun x=>Rat.not_le.2 k<|h.1 x
  omega
theorem Y8{s:Rd}(h:BG s=0):RS (Sp.XH s) (Tx s) (AO s):=⟨Kz (Ds h).1,(tH h).z⟩
theorem EC{n:Int}{k:Nat}(h:n.natAbs<10^k)(c:1<=k)(a:k<=18):RS k ((n,B7 n),(1,B7 1)) (n:Rat):=by
 have d:10^k<=10^18:=yf af a;have e:10^1<=10^k:=yf af c;have b:B5 n=true:=by
  unfold B5;exact ad ae ae
 refine⟨yC n b,?_,?_⟩
 ·rw[yj];exact h
 ·rw[qn];omega
end Go.Pe
namespace Go.Det
open Go.ChangeShapes Go.WideShapes Go.RowKit
theorem BW{α e:Type}{f g:α->Option e}:∀ {l:List α} {b:List e},l.mapM f=some b->(∀a∈l,∀y∈b,f a=some y->g a=some y)->l.mapM g=some b
 |[],b,h,_=>by grind
 |a::l,b,h,i=>by
  rw[List.mapM_cons]at h ⊢;cases d:f a with
  |none=>grind
  |some y=>
   rw[d]at h;cases c:l.mapM f with
   |none=>grind
   |some j=>
    rw[c]at h;cases h;rw[i a (by simp) y (by simp) d,BW c ah];rfl
def cC(P:Program)(L:List TypeId)(t:TypeId):Bool:=match P.underlying t with
 |some (.pointer e)|some (.array _ e)|some (.map _ e)=>L.contains e
 |some (.slice e)=>L.contains e&&Nat.ble 1 (P.cellsOf e)
 |some (.struct fs)=>fs.toList.all fun f=>L.contains f.type
 |_=>true
def JZ(P:Program)(L:List TypeId):Bool:=L.all<|cC P L
section
variable {H:Type}{enc:TypeId×Value->H}{P:Program}{W W':World}
theorem jR{L:List TypeId}(h:JZ P L=true){t:TypeId}(a:t∈L):cC P L t=true:=List.all_eq_true.1 h t a
theorem US(c:Below W.heap.size W W'){a:Addr}{v:Value}(h:W.cell? a=some v):W'.cell? a=some v:=by
 have b:a.block<W.heap.size:=by
  grind [World.cell?]
 unfold World.cell? at h ⊢;rw[c.block _ b];exact h
theorem RT(b:Below W.heap.size W W'){a:Addr}{n:Nat}{cs:List Value}(h:W.cells? 0 a n=some cs):W'.cells? 0 a n=some cs:=by
 unfold World.cells? at h ⊢;grind [BW,US]
theorem Gj(e:Below W.heap.size W W'){b:Type}{a:Addr}{n:Nat}{f g:List Value->Option b}{y:b}(h:(W.cells? 0 a n).bind f=some y)(c:∀cs,f cs=some y->g cs=some y):(W'.cells? 0 a n).bind g=some y:=by
 cases d:W.cells? 0 a n with
 |none=>grind
 |some cs=>
  grind [RT]
theorem MQ(v:Below W.heap.size W W'){L:List TypeId}(C:JZ P L=true){sp:Nat->Bool}:∀(fuel:Nat) (t:TypeId) (cs:List Value) (x:DataW H×List MemPlace),t∈L->
  zw enc P W 0 (fun _=>true) true fuel t cs=some x->(∀p∈x.2,sp p.block=true)->zw enc P W' 0 sp true fuel t cs=some x
 |0,_,_,_,_,h,_=>by cases h
 |fuel+1,t,cs,x,J,h,K=>by
  have N:=MQ v C (sp:=sp) fuel;have l:=jR C J;unfold cC at l;unfold zw at h ⊢;split at h<;>try simp only[reduceCtorEq]at h
  all_goals try exact h
  case h_6 e a o=>
   have c:e∈L:=ah
   cases A:(W.cells? 0 a<|P.cellsOf e).bind (zw enc P W 0 (fun _=>true) true fuel e)with
   |none=>grind
   |some y=>
    rw[A]at h;cases h;rw[Gj v A (g:=zw enc P W' 0 sp true fuel e) ah];rfl
  case h_8 e a len cap o=>
   have c:e∈L/\P.cellsOf e≠0:=by
    rw[o]at l;simp only[ze,List.contains_iff_mem]at l;have:=Nat.le_of_ble_eq_true l.2;grind
   by_cases q:0<=a.block/\len<=cap/\cap<=maxLen
   ·rw[wd q]at h ⊢;have step:∀(i:Nat) (y:DataW H×List MemPlace),(W.cells? 0 (a.add<|i*P.cellsOf e)<|P.cellsOf e).bind (zw enc P W 0 (fun _=>true) true fuel e)=some y->(∀p∈y.2,sp p.block=true)->
      (W'.cells? 0 (a.add<|i*P.cellsOf e)<|P.cellsOf e).bind (zw enc P W' 0 sp true fuel e)=some y:=(by grind [Gj])
    cases d:(List.range len).mapM (fun i=>(W.cells? 0 (a.add<|i*P.cellsOf e)<|P.cellsOf e).bind<|zw enc P W 0 (fun _=>true) true fuel e)with
    |none=>grind
    |some m=>
     rw[d]at h;simp only[wm,Option.bind_some]at h;cases z:(List.range<|cap-len).mapM (fun j=>(W.cells? 0 (a.add<|(len+j)*P.cellsOf e)<|P.cellsOf e).bind<|zw enc P W 0 (fun _=>true) true fuel e)with
     |none=>grind
     |some B=>
      rw[z]at h;cases h;rw[BW d ah];have G:=BW z fun j _ y I M=>step (len+j) y M ah
      by_cases s:sp a.block=true
      ·grind
      ·have O:(m.length+B.length)*P.cellsOf e=0:=by
        rcases Nat.eq_zero_or_pos ((m.length+B.length)*P.cellsOf e)with h0|h0
        ·exact h0
        ·refine wh (K (.cell a.block<|a.off+0)<|List.mem_append_left _ ?_) s;simp only[MemPlace.row,List.mem_map,List.mem_range];exact⟨0,h0,rfl⟩
       grind [Nat.mul_eq_zero]
   grind
  case h_9 cs _ _ fs o=>
   have c:∀f∈fs.toList,f.type∈L:=by
    grind
   by_cases q:cs.length=P.cellsOf t
   ·rw[wd q]at h ⊢;cases d:fs.toList.mapM (fun f=>zw enc P W 0 (fun _=>true) true fuel f.type<|(cs.drop f.offset).take<|P.cellsOf f.type)with
    |none=>grind
    |some m=>
     grind [BW]
   grind
  case h_10 cs _ _ n e o=>
   have c:e∈L:=ah
   by_cases q:cs.length=P.cellsOf t
   ·rw[wd q]at h ⊢;cases d:(List.range n).mapM (fun i=>zw enc P W 0 (fun _=>true) true fuel e<|(cs.drop<|i*P.cellsOf e).take<|P.cellsOf e)with
    |none=>grind
    |some m=>
     grind [BW]
   grind
  case h_14 k e b o=>
   have D:b<W.heap.size:=by
    grind
   rw[v.block _ D];split at h
   case h_2=>cases h
   rename_i es clock F;split at h
   case isFalse=>cases h
   cases d:(es.toList.mapM fun x=>(keyOf P k x.key).bind fun key=>if x.val.formed P e then(zw enc P W 0 (fun _=>true) true fuel e x.val.cells.toList).map fun y=>((key,y.1),y.2)else none)with
   |none=>grind
   |some m=>
    rw[d]at h;simp only[Option.bind_some]at h;split at h
    case isFalse=>cases h
    rw[BW d fun w _ y I r=>?_]
    ·grind
    ·cases l:keyOf P k w.key with
     |none=>grind
     |some key=>
      rw[l]at r;split at r
      case isFalse=>cases r
      cases E:zw enc P W 0 (fun _=>true) true fuel e w.val.cells.toList with
      |none=>grind
      |some u=>
       grind
theorem Um(f:Below W.heap.size W W'){L:List TypeId}(e:JZ P L=true){sp:Nat->Bool}{t:TypeId}{v:Value}{d:DataW H}{p:List MemPlace}
  (b:t∈L) (h:DataW.Trod enc P W 0 (fun _=>true) true t v d p) (c:∀q∈p,sp q.block=true):DataW.Trod enc P W' 0 sp true t v d p:=by
 obtain⟨a,g⟩:=h;exact⟨a,(by grind [MQ])⟩
theorem FQ(i:Below W.heap.size W W'){L:List TypeId}(g:JZ P L=true){sp:Nat->Bool}:∀ {ts:List TypeId} {vs:List Value} {ds:List (DataW H)} {p:List MemPlace},(∀t∈ts,t∈L)->
  DataW.TrodAll enc P W 0 (fun _=>true) true ts vs ds p->(∀q∈p,sp q.block=true)->DataW.TrodAll enc P W' 0 sp true ts vs ds p
 |[],vs,ds,p,_,h,_=>by
  obtain⟨rfl,rfl,rfl⟩:=trodAll_nil h;rfl
 |t::ts,vs,ds,p,k,h,j=>by
  obtain⟨v,f,d,e,a,b,rfl,rfl,rfl,l,c⟩:=trodAll_cons h;exact⟨a,b,(by grind [Um]),FQ i g ah c ah,rfl⟩
theorem Xl{f:Func}{s:ChangeSpec}{apart fresh a d:Bool}{args:Array Value}{ds D:List (DataW H)}{c:List MemPlace}{tb:TypeId}
  (hW:DataW.Whole enc P f.params.toList s.vars apart W args.toList ds D c) (x:s.vars=[]) (z:f.resultTypes= #[tb]) (y:P.underlying tb=some .bool)
  (C:s.fn H ds={ results:=[.lit<|.bool true],args:=ds }) (m:Below W.heap.size W W') {L:List TypeId} (E:JZ P L=true) (v:f.params.toList.all L.contains=true):
  s.post enc P f apart fresh a d W args (.bool true) W':=by
 have l:=hW.lt;have v:∀t∈f.params.toList,t∈L:=ah;obtain⟨p,q,B,w,rfl,e,i⟩:=hW;have h:=w;rw[x]at h;obtain⟨rfl,rfl⟩:=trodVars_none h;simp only[List.append_nil]at l e i ⊢;have u:DataW.Whole enc P f.params.toList s.vars apart W args.toList ds [] p:=⟨p,[],B,w,by simp,e,i⟩;have k:∀(b:Nat) (sp:Nat->Bool) (A:Bool),DataW.TrodAll enc P W' b sp A f.resultTypes.toList ((Value.bool true).resultList f.resultTypes.size) [.lit<|.bool true] []:=by
  intro b sp A;rw[z];exact⟨[],[],shut_bool y true,rfl,rfl⟩
 have n:∀(j:Nat) (t:TypeId) (r:Value),f.resultTypes[j]?=some t->((Value.bool true).resultList f.resultTypes.size)[j]?=some r->Value.okWide P W' .any 0 t r:=by
  exact ok_one z rfl (okWide_bool_mk y true)
 have g:∀sp:Nat->Bool,DataW.TrodVars enc P W' sp s.vars [] []:=fun sp=>by rw[x];rfl
 refine⟨ds,[],p,[],p,[],u,?_,?_,?_,World.keptBut_mono (by simp) (m.frame (· ∈p)),fun _=>?_⟩
 ·grind
 ·grind [FQ]
 ·grind
 ·refine⟨n,_,_,([]++p)++[],⟨[]++p,[],trodAll_append (FQ m E v B<|by simp)<|k _ _ _,g _,rfl,?_,?_⟩,?_⟩
  ·intro b off o;have o:MemPlace.cell b off∈p:=ah
   rw[m.frozen<|show b<W.heap.size from l _ o];exact e b off o
  ·grind
  grind
end
end Go.Det
