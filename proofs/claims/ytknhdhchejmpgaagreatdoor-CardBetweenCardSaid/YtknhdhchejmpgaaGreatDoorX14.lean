import Derived.Test.YtknhdhchejmpgaaGreatDoorX13
import Derived.Test.YtknhdhchejmpgaaGreatDoorX11
import Derived.Test.YtknhdhchejmpgaaGreatDoorX09
import Derived.Test.YtknhdhchejmpgaaGreatDoorX12
import Derived.Test.YtknhdhchejmpgaaGreatDoorX10
/- A part of a proof (no law is stated here). Made by program out of texts by AI agents. -/
noncomputable section
open Go.IntKind renaming wrap -> zc, u64 -> zo, i64 -> yb
open Go.Pe.Ends renaming tt -> ze, leaf -> zl, ff -> zt, ite -> zy, eq -> z7, Av -> ym
open Go.Pe.Sh renaming list -> zg, str -> zj, bool -> zk, int -> zq, nlist -> zr, pair -> zx
open Bool renaming and_eq_true -> zh, true_and -> yp
open Go.Lib renaming decDigits -> zm, decDigits_length -> y7, decDigits_one -> qg, itoa -> q9
open Nat renaming add -> zn, sub -> yi, add_sub_cancel -> yt, le_refl -> yz, mod_lt -> qx, pow_succ -> qy
open Int renaming toNat_natCast -> zp, eq_ofNat_of_zero_le -> yc, tmod -> yf, mul_le_mul_of_nonneg_left -> yh, lt_of_lt_of_le -> yj, natCast_pow -> yk, le_of_lt -> yn, natCast_nonneg -> yq, natAbs_natCast -> yr, tdiv -> yu, ofNat_lt -> qc, tmod_eq_emod_of_nonneg -> qe, mul_add -> qh, mul_neg -> qi, mul_ediv_cancel_left -> qj, mul_zero -> qm, add_zero -> qn, one_mul -> qt, mul_one -> qu, gcd -> qv, add_assoc -> qw
open Rat renaming divInt -> zu, num_intCast -> qo
open Go.Sp renaming vI -> zw, rN -> yv, rW -> yw, AM -> yx, CF -> y8, first -> qd, Dm -> qz
open List renaming drop_eq_nil_of_le -> zz, length_cons -> z8, length_append -> ya, take_of_length_le -> yd, length_drop -> yg, length_flatten -> yo, length_pos_iff -> y9, append_assoc -> qf, take -> qk, length_eq_zero_iff -> ql, length -> qp, drop -> jc
open Go.Pe.Ad renaming of -> ye
open UInt8 renaming ofNat -> yy
open Go.Pe.PV renaming agg -> qq
namespace Go.Sp
open Go.Lib
theorem LC:∀(f n l:Nat) (acc:List UInt8),l<=acc.length->n<10^f->HF f n l acc=if n=0 then acc else decDigits n++acc
 |0,n,l,acc,_,hn=>by rw[Nat.pow_zero]at hn;rw[wd (by omega)];rfl
 |f+1,n,l,acc,hl,hn=>by
  rw[qy]at hn;unfold HF;by_cases h:n=0
  ·rw[wd ⟨h,hl⟩,wd h]
  ·rw[wc (fun k=>h k.1),wc h,LC f (n/10) l _ (by rw[z8];omega) (by omega)];by_cases h2:n/10=0
   ·rw[wd h2,decDigits_one (by omega),show n % 10=n by omega];rfl
   ·have e:=FF (n/10) (n % 10) (by omega) (by omega);rw[show 10*(n/10)+n % 10=n by omega]at e;rw[wc h2,e,qf];rfl
theorem eT{d:Nat}(h:d<10):FX 1 d=[yy (48+d)]:=by
 unfold FX;rw[nDigits_small h,decDigits_one h];rfl
theorem Tl:∀(k f n l:Nat) (acc:List UInt8),acc.length+(k+1)=l->n<10^(k+1)->k+1<=f->HF f n l acc=FX (k+1) n++acc
 |k,0,n,l,acc,_,_,h=>by omega
 |0,f+1,n,l,acc,hl,hn,_=>by
  unfold HF;rw[wc (by omega),eT (by omega),LC f (n/10) l _ (by rw[z8];omega) (by rw[show n/10=0 by omega];exact Nat.pow_pos (by decide)),wd (by omega),show n % 10=n by omega];rfl
 |k+1,f+1,n,l,acc,hl,hn,hf=>by
  rw[qy]at hn;have e:=QJ (k+1) (n/10) (n % 10) (by omega) (by omega);rw[show 10*(n/10)+n % 10=n by omega]at e;unfold HF;rw[wc (by omega),Tl k f (n/10) l _ (by rw[z8];omega) (by omega) (by omega),e,qf];rfl
theorem NW{n:Int}(h0:0<=n)(h1:n<9223372036854775808):HU n 1=decDigits n.toNat:=by
 show HF 64 n.toNat 1 []=_;unfold HF;rw[wc (by simp)];rw[LC 63 (n.toNat/10) 1 _ (by simp) (by omega)];by_cases h:n.toNat<10
 ·rw[wd (by omega),decDigits_one h,show n.toNat % 10=n.toNat by omega]
 ·have e:=FF (n.toNat/10) (n.toNat % 10) (by omega) (by omega);rw[show 10*(n.toNat/10)+n.toNat % 10=n.toNat by omega]at e;rw[wc (by omega),e]
theorem ZM{n:Int}(h0:0<=n)(h1:n<1000000000):HU n 9=FX 9 n.toNat:=by
 show HF 64 n.toNat 9 []=_;rw[Tl 8 64 n.toNat 9 [] rfl (by omega) (by decide),List.append_nil]
def CM(n d:Int):List UInt8:=AW (zu n d)
theorem Y4(n:Int):itoa n=(if n<0 then[45]else[])++decDigits n.natAbs:=by
 unfold itoa;split
 ·rfl
 ·rw[show n.toNat=n.natAbs by omega];rfl
end Go.Sp
namespace Go.Sp
def vR(a:Bool×List Int):Int:=if a.1=true then -Ai a.2 else Ai a.2
def Ci(a:Bool×List Int):Bool:=A4 a.2&&decide (a.2.length<=3000)&&(!a.1||decide (a.2≠[]))
def HR(l:List Int)(i:Int):Int:=l.getD i.toNat 0
def iI(a b:List Int):Bool:=A4 a&&A4 b&&decide (a.length<=9000)&&decide (b.length<=9000)
def Fu(a b:List Int):List Int:=By (Ai a+Ai b)
def Gy(a b:List Int):List Int:=By (Ai a-Ai b)
def Mo(a b:Bool×List Int):Bool:=rN (vR a+vR b)
def ME(a b:Bool×List Int):List Int:=rW (vR a+vR b)
def Hs(a b:Bool×List Int):Bool:=rN (vR a*vR b)
def HD(a b:Bool×List Int):List Int:=rW (vR a*vR b)
def Rk(a:Bool×List Int):Bool:=rN (-vR a)
def RC(a:Bool×List Int):List Int:=rW (-vR a)
def IJ(a b:Bool×List Int):Bool:=rN (vR a/vR b)
def H4(a b:Bool×List Int):List Int:=rW (vR a/vR b)
def HL(a:Bool×List Int):List UInt8:=AU (vR a)
def HM(n d:Bool×List Int):List UInt8:=CM (vR n) (vR d)
def dP(a:List UInt8):Int:=if DQ a=true then IF a else 0
def Uo(a:List UInt8):Int:=if DQ a=true then SW a else 0
def D0(a b:List UInt8):List UInt8:=AW (An a+An b)
def HT(a b:List UInt8):List UInt8:=AW (An a-An b)
def Gz(a b:List UInt8):List UInt8:=AW (An a*An b)
def P8(a:List UInt8):List UInt8:=AW (An a)⁻¹
def GK(a b:List UInt8):List UInt8:=AW (An a/An b)
def LD(a b:List UInt8):Int:=if An a<An b then -1 else if An b<An a then 1 else 0
def FT(a:List UInt8):List UInt8:=AU (An a).floor
def PN(a:List UInt8):Bool:= !Bn a
def EZ(a:List UInt8):Int:=if 600<(AY (Ay a)).length\/600<(P6 a).length then 4 else 0
def FI(a:List UInt8):Bool:=Bh a&&decide (a.length<=3000)
def ZZ(a:List UInt8):Bool:=FI a&&decide (An a≠0)
end Go.Sp
namespace Go.Pe
open Sp
open Go.Det
def Wi:Ap:=⟨[li,i64],fun i=>decide (0<=(i.2:Int)),[i64],fun i=>HR i.1 i.2,false⟩
def Vp:Ap:=⟨[li,li],fun i=>iI i.1 i.2,[li],fun i=>Fu i.1 i.2,false⟩
def Vs:Ap:=⟨[li,li],fun i=>iI i.1 i.2&&decide (Ai i.2<=Ai i.1),[li],fun i=>Gy i.1 i.2,false⟩
def bJ:Ap:=⟨[Hq,Hq],fun i=>Ci i.1&&Ci i.2,[Hq],fun i=>(Mo i.1 i.2,ME i.1 i.2),false⟩
def Yl:Ap:=⟨[Hq,Hq],fun i=>Ci i.1&&Ci i.2,[Hq],fun i=>(Hs i.1 i.2,HD i.1 i.2),false⟩
def XR:Ap:=⟨[Hq],fun a=>Ci a,[Hq],fun a=>(Rk a,RC a),false⟩
def X5:Ap:=⟨[Hq,Hq],fun i=>Ci i.1&&Ci i.2&&decide (0<Sp.vR i.2),[Hq],fun i=>(IJ i.1 i.2,H4 i.1 i.2),false⟩
def Vm:Ap:=⟨[Hq],fun a=>Ci a,[.str],fun a=>HL a,false⟩
def Lv:Ap:=⟨[Hq,Hq],fun i=>Ci i.1&&Ci i.2&&decide (Sp.vR i.2≠0),[.str],fun i=>HM i.1 i.2,false⟩
def X4:Ap:=⟨[i64,i64],fun i=>CG i.1&&CG i.2&&decide ((i.2:Int)≠0),[.str],fun i=>CM i.1 i.2,false⟩
def M0:Ap:=⟨[.str],fun s=>Bh s,[i64,i64,.bool],fun s=>(dP s,Uo s,DQ s),false⟩
def Qv:Ap:=⟨[.str,.str],fun i=>Bh i.1&&Bh i.2,[.str],fun i=>D0 i.1 i.2,false⟩
def dM:Ap:=⟨[.str,.str],fun i=>Bh i.1&&FI i.2,[.str],fun i=>HT i.1 i.2,false⟩
def Qz:Ap:=⟨[.str,.str],fun i=>Bh i.1&&Bh i.2,[.str],fun i=>Gz i.1 i.2,false⟩
def qI:Ap:=⟨[.str],fun s=>ZZ s,[.str],fun s=>P8 s,false⟩
def qV:Ap:=⟨[.str,.str],fun i=>Bh i.1&&ZZ i.2,[.str],fun i=>GK i.1 i.2,false⟩
def pK:Ap:=⟨[.str,.str],fun i=>Bh i.1&&FI i.2,[i64],fun i=>LD i.1 i.2,false⟩
def XX:Ap:=⟨[.str],fun s=>Bh s,[.str],fun s=>FT s,false⟩
def XH:Ap:=⟨[.str],fun s=>decide (s.length<=1000000),[.bool],fun s=>PN s,false⟩
def Rx:Ap:=⟨[.str],fun s=>decide (s.length<=1000000),[i64],fun s=>EZ s,false⟩
def zX:A1:=X7 []
def U0:A1:=X7 [(229,Wi),(227,Rg)]
def wT:A1:=X7 [(168,IC),(169,Vp),(170,XD),(171,Vs),(172,XK),(164,Qh)]
def yG:A1:=X7 [(109,N6)]
def jI:A1:=Z3 [(96,[3,7,9])] [] [(96,[(3,[2,3]),(7,[8,10]),(9,[8,10])])] [(166,XR),(92,K8),(164,Qh),(168,IC),(167,Vm)]
def Z1:A1:=Z3 [(36,[3,5,7,11])] [] [(36,[(3,[0,1]),(5,[0,1]),(7,[0,1]),(11,[1,6])])] [(107,KR),(96,Lv),(108,qF),(109,N6)]
def qR:A1:=Z3 [(27,[5]),(29,[5])] [] [(27,[(5,[0,1])]),(29,[(5,[0,1])])] [(95,M0),(36,X4),(91,NC),(97,bJ),(98,Yl),(96,Lv)]
def yW:A1:=X7 [(94,qI),(29,Qz),(27,Qv),(99,bV)]
def xY:A1:=X7 [(28,dM),(41,Pf),(89,LY),(100,XM),(101,fM),(102,Xw)]
def XR9:A1:=X7 [(91,NC),(177,X5),(167,Vm),(43,XH)]
def Rr:Ap:=⟨[],fun _=>true,[.bool],fun _=>true,false⟩
theorem TO:Ag Bg 17 Rr:=by
 refine .yF ⟨by kernel_rfl,BA (by kernel_rfl),fun F h args i hfz hlt hgh hargs _=>?_⟩;have ha:args=[]:=by
  have:=hargs (fun _=>none) 0;simpa [Af,Rr]using this
 subst ha;refine⟨[(.bool true,h)],1,fun m hm=>?_,fun _=>⟨_,rfl⟩,fun x hx=>?_⟩
 ·obtain⟨m',rfl⟩:∃m',m=m'+1:=⟨m-1,by omega⟩;have hq:Bg.spec 17=some fun args h=>bif oW h F4 then(match Iy A7 17 args with|some v=>some (v,h)|none=>none)else none:=rfl
  rw[Bj];simp only[hq,tK hgh,we];rfl
 ·cases List.mem_singleton.1 hx;exact⟨yz _,fun _ _=>rfl,hlt,F,fun _ _ h=>h,fun _ _ h=>.inl h,hfz,fun ρ N=>DE _⟩
end Go.Pe
namespace Go.Sp
def PT(a:AS):Int:=if Bs (Ae (vI a))=[]then 0 else 64*((Bs (Ae (vI a))).length-1)+EU ((Bs (Ae (vI a))).getD ((Bs (Ae (vI a))).length-1) 0)
def Ef(a:AS):Bool:=Mr (vI a)
def Iw(a:Az):Bool:=Ef a.1||Ef a.2
def Jx(a:Az):List UInt8:=if CJ a.2=true then AU (vI a.1)else AU (vI a.1)++47::AU (vI a.2)
def Jr(a:Az):List UInt8:=if Iw a=true then[]else Jx a
def Ju(a:Az):Int:=if Iw a=true then 4 else 0
def CX:List (List UInt8)->Int
 |[]=>0
 |s::l=>if Au s≠0 then Au s else CX l
def eQ(a:Az):Int:=PX (vI a.1)
def Fx(a b:List UInt8):Int:=CX [a,b]
def Vx(e:Int)(q:Rat):List UInt8:=if e≠0 then[]else if Jt q=true then[]else AW q
def Wm(e:Int)(q:Rat):Int:=if e≠0 then e else if Jt q=true then 4 else 0
def FY(a u:List UInt8):Int:=if Fx a u≠0 then Fx a u else if An u<=0 then 3 else 0
def Y7(a u:List UInt8):Rat:=((An a/An u+1/2).floor:Int)*An u
def Qa(a u:List UInt8):List UInt8:=Vx (FY a u) (Y7 a u)
def Q2(a u:List UInt8):Int:=Wm (FY a u) (Y7 a u)
def H7(l:List (List UInt8)):Bool:=l.all fun s=>decide (s.length<=1300)
def Gs(a:List UInt8)(e:Int)(w:List UInt8)(bad:Int):Bool:=if (if bad=0 then EZ w else bad)≠0 then decide (a=[])&&decide (e=(if bad=0 then EZ w else bad))else decide (e=0)&&decide (a=w)
def wZ(a b:List UInt8):Bool:=decide (a.length<=1000000)&&decide (b.length<=1000000)
end Go.Sp
namespace Go.Pe
open Sp
open Go.Det
def aE:Ap:=⟨[BF],fun a=>A6 a,[i64],fun a=>PT a,false⟩
def X3:Ap:=⟨[BF],fun a=>A6 a,[.bool],fun a=>Ef a,false⟩
def Q9:Ap:=⟨[.str,.str],fun i=>Sa i.1 i.2,[.str],fun i=>AY i.1,false⟩
def Xk:Ap:=⟨[BH],fun a=>qz (a:Az),[.bool],fun a=>Iw a,false⟩
def fK:Ap:=⟨[BH],fun a=>qz (a:Az),[.str],fun a=>Jx a,false⟩
def Nt:Ap:=⟨[BH],fun a=>qz (a:Az),[.str,i64],fun a=>(Jr a,Ju a),false⟩
def Nd:Ap:=⟨[.list .str],fun l=>decide (qp (α:=List UInt8) l<=1000)&&List.all (α:=List UInt8) l (fun s=>decide (s.length<=1000000)),[i64],fun l=>CX l,false⟩
def fJ:Ap:=⟨[BH],fun a=>Dh (a:Az).1,[i64],fun a=>eQ a,false⟩
def Kg:Ap:=⟨[.str,.str],fun i=>wZ i.1 i.2,[.str,i64],fun i=>(Qa i.1 i.2,Q2 i.1 i.2),false⟩
def jA:Ap:=⟨[.list .str],fun l=>decide (qp (α:=List UInt8) l<=1000),[.bool],fun l=>H7 l,false⟩
def Qo:Ap:=⟨[.str,i64,.str,i64],fun i=>decide (qp (α:=UInt8) i.2.2.1<=1000000),[.bool],fun i=>Gs i.1 i.2.1 i.2.2.1 i.2.2.2,false⟩
def pM:A1:=X7 []
def zY:A1:=X7 [(218,O9),(247,VA)]
def wW:A1:=X7 [(248,aE),(200,uF),(214,Q9)]
def zC:A1:=X7 [(199,X3),(156,NT),(200,uF)]
def vV:A1:=X7 [(131,Xk),(132,fK)]
def vP:A1:=X7 [(77,DG),(173,J5)]
def XX4:A1:=X7 [(83,Hf),(85,Qr),(84,Nd),(87,Up),(80,QD),(81,XV),(82,Tj),(86,Yr),(88,Tz),(103,Nt),(104,Xx),(105,UY),(110,fJ),(111,cF),(112,Vr),(77,DG)]
def Wq:A1:=Z3 [(40,[5,8])] [] [(40,[(5,[0,1,7]),(8,[7,8])])] [(83,Hf),(85,Qr),(84,Nd),(87,Up),(80,QD),(81,XV),(82,Tj),(86,Yr),(88,Tz),(103,Nt),(104,Xx),(105,UY),(110,fJ),(111,cF),(112,Vr),(77,DG)]
def xX:A1:=X7 [(93,Rx)]
end Go.Pe
namespace Go.Sp
def nO(a u:List UInt8):Bool:=Bh a&&ZZ u&&Bh (GK a u)&&Bh (D0 (GK a u) [49,47,50])&&Bh (FT (D0 (GK a u) [49,47,50]))
def kW(a u:List UInt8):List UInt8:=Gz (FT (D0 (GK a u) [49,47,50])) u
end Go.Sp
namespace Go.Pe
open Go.Det
def XI:Ap:=⟨[.str,.str],fun i=>Sp.nO i.1 i.2,[.str],fun i=>Sp.kW i.1 i.2,false⟩
def XY2:A1:=X7 [(26,qV),(27,Qv),(113,XX),(29,Qz)]
def U8:Ap:=⟨[.str,.str],fun _=>true,[.bool],fun _=>true,false⟩
def XW6:A1:=X7 [(16,jA),(17,Rr),(40,Kg),(23,Hf),(24,DG),(25,Qo),(41,Pf),(42,XI)]
open Sp
section
open List Int Prod
namespace T23
def T(l:List Int):Tr:=tree pM false 9 23 (Af ([zg i64]) l)
def L1(v0:List Int)(v3:Int):Tr:=re ((T [])) (AG 19 [(0,.dat (zg i64) v0),(3,.dat i64 v3)] [] 0)
theorem Am(l:List Int):T l=L1 l 0:=by kernel_rfl
theorem Ar(v0:List Int)(v3:Int):stepT pM (L1 v0 v3)=let a':=decide (v3<(length v0:Int));.ite (a') (.ite (decide (0<=v3)&&a') (.ite (getD v0 (toNat v3) 0 !=0) (.ite (decide (0<=v3)&&a') (.leaf (.dat i64 (getD v0 (toNat v3) 0)) []) .fail) (L1 v0 (zc .i64 (v3+1)))) .fail) (.leaf (.dat i64 (0:Int)) []):=by kernel_rfl
end T23
namespace T6
def T(a u:List UInt8):Tr:=tree XW6 false 9 6 (Af ([zj,zj]) (a,u))
theorem Am(a u:List UInt8):T a u=let a':=[(zn 0 1,.arr false 3 i64 [Au a,Au u]),(0,.arr false 22 zj [a,u])];let f':=decide (length u<=1000000);let g':=Qa a u;let h':=Q2 a u;let d':Tr:=.ite true (.leaf (.dat zk true) a') .fail;let e':Tr:=.leaf (.bl false) a';let c':Tr:=.ite (nO a u) (.ite (decide (length (kW a u)<=1000000)) (.ite (Gs g' h' (kW a u) 0) d' e') .fail) .fail;let b':Tr:=.ite (qd [Au a,Au u] !=0) (.ite (decide (1<=1000000)) (.ite (Gs g' h' [(48:UInt8)] (qd [Au a,Au u])) d' e') .fail) c';.ite (decide (2<=2)&&true&&decide (2<=1000)) (.ite (!H7 [a,u]) (.ite true (.leaf (.dat zk true) ([(0,.arr false 22 zj [a,u])])) .fail) (.ite (wZ a u) (.ite (decide (length a<=1000000)) (.ite f' (.ite (decide (2<=2)&&true&&decide (2<=1000000)) (.ite (qd [Au a,Au u]==0) (.ite f' (.ite (decide (FA u<=0)) (.ite true (.ite (decide (1<=1000000)) (.ite (Gs g' h' [(48:UInt8)] 3) d' e') .fail) c') b') .fail) b') .fail) .fail) .fail) .fail)) .fail:=by kernel_rfl
end T6
namespace T111
def T(n:Int):Tr:=tree jF false 9 111 (Af ([zq yb]) n)
theorem Am(n:Int):T n=let a':=zr (zq zo);.ite true (.ite true (.leaf (qq [.dat i64 n,.dat a' (Cv n),.dat i64 (1:Int),.dat a' (Cv 1)]) ([(zn (zn 0 1) 1,.box [.dat i64 n,.dat a' (Cv n),.dat i64 (1:Int),.dat a' (Cv 1)]),(zn 0 1,.box [.dat i64 n,.dat a' (Cv n)]),(0,.box [.dat i64 n,.dat a' (Cv n),.dat i64 (1:Int),.dat a' (Cv 1)])])) .fail) .fail:=by kernel_rfl
end T111
namespace T42
def T(a u:List UInt8):Tr:=tree XY2 false 9 42 (Af ([zj,zj]) (a,u))
theorem Am(a u:List UInt8):T a u=let b':=([49,47,50]:List UInt8);let a':=D0 (GK a u) b';.ite (Bh a&&ZZ u) (.ite (Bh (GK a u)&&Bh b') (.ite (Bh a') (.ite (Bh (FT a')&&Bh u) (.leaf (.dat zj (Gz (FT a') u)) []) .fail) .fail) .fail) .fail:=by kernel_rfl
end T42
namespace T40
def T(a u:List UInt8):Tr:=tree Wq false 9 40 (Af ([zj,zj]) (a,u))
def L1(v0 v1:List UInt8)(o0:Int)(o0_1:List Int)(o0_2:Int)(o0_3:List Int):Tr:=re ((T [] []).L.R.L) (AG 38 [(0,.dat zj v0),(1,.dat zj v1),(7,.ptr 0 0)] [(0,.box [.dat i64 o0,.dat (zr (zq zo)) o0_1,.dat i64 o0_2,.dat (zr (zq zo)) o0_3])] 1)
theorem Am(a u:List UInt8):T a u=.ite (decide (2<=2)&&true&&(decide (2<=1000)&&List.all [a,u] fun s=>decide (length s<=1000000))) (.ite (CX [a,u] !=0) (.leaf (.tup [.dat zj [],.dat i64 (CX [a,u])]) ([(0,.arr false 22 zj [a,u])])) (.ite (FL u) (L1 a u (Er u) (Ez u) (D6 u) (Eb u)) .fail)) .fail:=by kernel_rfl
def L2(o1:Int)(o1_1:List Int)(o0:Int)(o0_1:List Int)(o0_2:Int)(o0_3:List Int):Tr:=re ((stepT Wq (L1 [] [] 0 [] 0 [])).L.R.L.L.L.L.L.L.L) (AG 38 [(7,.ptr 0 0),(8,.ptr 1 0)] [(1,.box [.dat i64 o1,.dat (zr (zq zo)) o1_1]),(0,.box [.dat i64 o0,.dat (zr (zq zo)) o0_1,.dat i64 o0_2,.dat (zr (zq zo)) o0_3])] 2)
theorem Ar(v0 v1:List UInt8)(o0:Int)(o0_1:List Int)(o0_2:Int)(o0_3:List Int):stepT Wq (L1 v0 v1 o0 o0_1 o0_2 o0_3)=let b':=((Er v0,Ez v0),D6 v0,Eb v0);let c':=MV ((1,Cv 1),1,Cv 1) ((2,Cv 2),1,Cv 1);let d':=((o0,o0_1),o0_2,o0_3);let e':=zr (zq zo);let a':=Li (MV b' d') c';.ite (Dh (o0,o0_1)) (.ite (decide (eQ d'<=0)) (.leaf (.tup [.dat zj [],.dat i64 (3:Int)]) ([(0,.box [.dat i64 o0,.dat e' o0_1,.dat i64 o0_2,.dat e' o0_3])])) (.ite (FL v0) (.ite (y8 b'&&y8 d'&&decide (zw (o0,o0_1)≠0)) (.ite true (.ite true (.ite true (.ite (y8 (MV b' d')&&y8 c') (.ite (y8 a') (L2 (Sp.flS a') (Sp.flW a') o0 o0_1 o0_2 o0_3) .fail) .fail) .fail) .fail) .fail) .fail) .fail)) .fail:=by kernel_rfl
theorem AZ(o1:Int)(o1_1:List Int)(o0:Int)(o0_1:List Int)(o0_2:Int)(o0_3:List Int):stepT Wq (L2 o1 o1_1 o0 o0_1 o0_2 o0_3)=let b':=zr (zq zo);let c':=Ux (o1,o1_1) (1,Cv 1);let a':=P5 c' ((o0,o0_1),o0_2,o0_3);.ite true (.ite (Lg (o1,o1_1) (1,Cv 1)) (.ite (y8 c'&&y8 ((o0,o0_1),o0_2,o0_3)) (.ite (qz a') (.leaf (.tup [.dat zj (Jr a'),.dat i64 (Ju a')]) ([(1,.box [.dat i64 o1,.dat b' o1_1]),(0,.box [.dat i64 o0,.dat b' o0_1,.dat i64 o0_2,.dat b' o0_3])])) .fail) .fail) .fail) .fail:=by kernel_rfl
end T40
namespace T214
def T(s t:List UInt8):Tr:=tree pM false 9 214 (Af ([zj,zj]) (s,t))
theorem Am(s t:List UInt8):T s t=let a':=(length t:Int);let b':=decide (toNat a'<=length s);.ite (decide ((length s:Int)>=a')) (.ite (decide (0<=a')&&decide (0<=toNat a')&&b') (.ite (take (toNat a') s==t) (.ite (decide (0<=a')&&true&&b'&&decide (length s<=length s)) (.leaf (.dat zj (take (yi (length s) (toNat a')) (drop (toNat a') s))) []) .fail) (.leaf (.dat zj s) [])) .fail) (.leaf (.dat zj s) []):=by kernel_rfl
end T214
namespace T248
def T(a:Int×List Int):Tr:=tree zY false 9 248 (Af ([zx i64 (zr (zq zo))]) a)
theorem Am(a:Int×List Int):T a=let c':=[(0,.box [.dat i64 (fst a),.dat (zr (zq zo)) (snd a)])];let d':=Bs (Ae (zw (fst a,snd a)));let a':=(↑(length d'):Int);let b':=getD d' (toNat (zc .i64 (a'-1))) 0;.ite (Dh (fst a,snd a)) (.ite (a'==0) (.leaf (.dat i64 (0:Int)) c') (.ite (decide (0<=zc .i64 (a'-1))&&decide (zc .i64 (a'-1)<a')) (.ite (Sp.u64 b') (.leaf (.dat i64 (zc .i64 (zc .i64 (64*zc .i64 (a'-1))+EU b'))) c') .fail) .fail)) .fail:=by kernel_rfl
end T248
namespace T199
def T(a:Int×List Int):Tr:=tree wW false 9 199 (Af ([zx i64 (zr (zq zo))]) a)
theorem Am(a:Int×List Int):T a=let a':=[(0,.box [.dat i64 (fst a),.dat (zr (zq zo)) (snd a)])];let b':=AU (zw (fst a,snd a));.ite (A6 (fst a,snd a)) (.ite (decide (PT (fst a,snd a)>1800)) (.ite (A6 (fst a,snd a)) (.ite (Sa b' [(45:UInt8)]) (.leaf (.dat zk (decide ((↑(length (AY b')):Int)>600))) a') .fail) .fail) (.leaf (.bl false) a')) .fail:=by kernel_rfl
end T199
namespace T131
def T(a:(Int×List Int)×Int×List Int):Tr:=tree zC false 9 131 (Af ([zx (zx i64 (zr (zq zo))) (zx i64 (zr (zq zo)))]) a)
theorem Am(a:(Int×List Int)×Int×List Int):T a=let b':=zr (zq zo);let c':=(fst (fst a),snd (fst a));let d':=(fst (snd a),snd (snd a));let a':=[(0,.box [.dat i64 (fst (fst a)),.dat b' (snd (fst a)),.dat i64 (fst (snd a)),.dat b' (snd (snd a))])];.ite (A6 c') (.ite (Ef c') (.leaf (.bl true) a') (.ite (A6 d') (.leaf (.dat zk (Ef d')) a') .fail)) .fail:=by kernel_rfl
end T131
namespace T132
def T(a:(Int×List Int)×Int×List Int):Tr:=tree zC false 9 132 (Af ([zx (zx i64 (zr (zq zo))) (zx i64 (zr (zq zo)))]) a)
theorem Am(a:(Int×List Int)×Int×List Int):T a=let b':=(fst (fst a),snd (fst a));let c':=(fst (snd a),snd (snd a));let d':=zr (zq zo);let a':=[(0,.box [.dat i64 (fst (fst a)),.dat d' (snd (fst a)),.dat i64 (fst (snd a)),.dat d' (snd (snd a))])];.ite true (.ite (CJ c') (.ite (A6 b') (.leaf (.dat zj (AU (zw b'))) a') .fail) (.ite (A6 b') (.ite (decide (length (AU (zw b'))+1<=4611686018427387904)) (.ite (A6 c') (.ite (decide (length (AU (zw b')++[(47:UInt8)])+length (AU (zw c'))<=4611686018427387904)) (.leaf (.dat zj (AU (zw b')++[(47:UInt8)]++AU (zw c'))) a') .fail) .fail) .fail) .fail)) .fail:=by kernel_rfl
end T132
namespace T103
def T(a:(Int×List Int)×Int×List Int):Tr:=tree vV false 9 103 (Af ([zx (zx i64 (zr (zq zo))) (zx i64 (zr (zq zo)))]) a)
theorem Am(a:(Int×List Int)×Int×List Int):T a=let b':=((fst (fst a),snd (fst a)),fst (snd a),snd (snd a));let c':=zr (zq zo);let a':=[(0,.box [.dat i64 (fst (fst a)),.dat c' (snd (fst a)),.dat i64 (fst (snd a)),.dat c' (snd (snd a))])];.ite (qz b') (.ite (Iw b') (.leaf (.tup [.dat zj [],.dat i64 (4:Int)]) a') (.ite (qz b') (.leaf (.tup [.dat zj (Jx b'),.dat i64 (0:Int)]) a') .fail)) .fail:=by kernel_rfl
end T103
namespace T84
def T(l:List (List UInt8)):Tr:=tree vP false 9 84 (Af ([zg zj]) l)
def L1(v6:List (List UInt8))(v7 v8:Int):Tr:=re ((T [])) (AG 18 [(6,.dat (zg zj) v6),(7,.dat i64 v7),(8,.dat i64 v8)] [] 0)
theorem Am(l:List (List UInt8)):T l=L1 l ((length l:Int)) 0:=by kernel_rfl
theorem Ar(v6:List (List UInt8))(v7 v8:Int):stepT vP (L1 v6 v7 v8)=let a':=getD v6 (toNat v8) [];.ite (decide (v8<v7)) (.ite (decide (0<=v8)&&decide (v8<(length v6:Int))) (.ite (decide (length a'<=1000000)) (.ite (Au a' !=0) (.leaf (.dat i64 (Au a')) []) (L1 v6 v7 (zc .i64 (v8+1)))) .fail) .fail) (.leaf (.dat i64 (0:Int)) []):=by kernel_rfl
end T84
namespace T110
def T(a:(Int×List Int)×Int×List Int):Tr:=tree vP false 9 110 (Af ([zx (zx i64 (zr (zq zo))) (zx i64 (zr (zq zo)))]) a)
theorem Am(a:(Int×List Int)×Int×List Int):T a=let a':=zr (zq zo);let b':=(fst (fst a),snd (fst a));.ite (Dh b') (.leaf (.dat i64 (HO b')) ([(0,.box [.dat i64 (fst (fst a)),.dat a' (snd (fst a)),.dat i64 (fst (snd a)),.dat a' (snd (snd a))])])) .fail:=by kernel_rfl
end T110
namespace T16
def T(l:List (List UInt8)):Tr:=tree pM false 9 16 (Af ([zg zj]) l)
def L1(v0:List (List UInt8))(v3:Int):Tr:=re ((T [])) (AG 16 [(0,.dat (zg zj) v0),(3,.dat i64 v3)] [] 0)
theorem Am(l:List (List UInt8)):T l=L1 l 0:=by kernel_rfl
theorem Ar(v0:List (List UInt8))(v3:Int):stepT pM (L1 v0 v3)=let a':=decide (v3<(length v0:Int));.ite (a') (.ite (decide (0<=v3)&&a') (.ite (decide ((↑(length (getD v0 (toNat v3) [])):Int)>1300)) (.leaf (.bl false) []) (L1 v0 (zc .i64 (v3+1)))) .fail) (.leaf (.bl true) []):=by kernel_rfl
end T16
namespace T25
def T(a:List UInt8)(e:Int)(w:List UInt8)(bad:Int):Tr:=tree xX false 9 25 (Af ([zj,zq yb,zj,zq yb]) (a,e,w,bad))
theorem Am(a:List UInt8)(e:Int)(w:List UInt8)(bad:Int):T a e w bad=let b':Tr:=.leaf (.bl false) [];let a':Tr:=.ite (e==0) (.leaf (.dat zk (a==w)) []) b';.ite (bad==0) (.ite (decide (length w<=1000000)) (.ite (EZ w !=0) (.ite (a==[]) (.leaf (.dat zk (e==EZ w)) []) b') a') .fail) (.ite (bad !=0) (.ite (a==[]) (.leaf (.dat zk (e==bad)) []) b') a'):=by kernel_rfl
end T25
end
namespace T200
variable {Q:PV->Ob->Prop}
theorem Aj(neg:Bool)(V:Nat)(h0:0<V)(hV:Small V)(hG:(Cd (V+1) V).length<=1000000)(hfin:Exit neg (Cd (V+1) V) Q):Ends PZ (L1 neg (Bs (V:Int)) 1 [1000000000000000000]) Q:=by
 have hlt:V % 10^18<10^18:=qx _ (by decide);have hg:∀s,s=(if V/10^18=0 then zm (V % 10^18)else FX 18 (V % 10^18))->[s]++(if V/10^18=0 then[]else Cd V (V/10^18))=Cd (V+1) V:=by
  rintro s rfl;have eg:Cd (V+1) V=if V<10^18 then[zm V]else FX 18 (V % 10^18)::Cd V (V/10^18):=rfl
  rw[eg];by_cases c:V<10^18
  ·rw[wd c,wd (by omega),wd (by omega),Nat.mod_eq_of_lt c];rfl
  ·rw[wc c,wc (by omega),wc (by omega)];rfl
 have next:∀s,s=(if V/10^18=0 then zm (V % 10^18)else FX 18 (V % 10^18))->Ends PZ (L2 neg (Bs ((V/10^18:Nat):Int)) 1 1 [s] [1000000000000000000]) Q:=
  fun s hs=>AQ neg _ hG hfin V (V/10^18) [s] (by omega) (hV.le (Nat.div_le_self _ _)) (hg s hs)
 refine ym (Ar ..) (ze (w4 (by have:=I7 h0;omega)) (ze (Aa rfl hV.div) ?_));rw[TM,Uc];rcases Nat.eq_zero_or_pos (V % 10^18)with r0|r0
 ·have q0:V/10^18≠0:=by omega
  rw[r0,show((0:Nat):Int)=0 from rfl,Kp];refine zt rfl (ze (w4 (by have:=I7 (V:=V/10^18) (by omega);omega)) (ze rfl (ze rfl (ze rfl (next _ ?_)))));have hp:=Sn 0 (by decide);rw[qg (by omega)]at hp;rw[wc q0,r0, <-hp];rfl
 ·rw[T4 (r:=((V % 10^18:Nat):Int)) (by omega) (by omega)];have hgd:List.getD [((V % 10^18:Nat):Int)] 0 0=((V % 10^18:Nat):Int):=rfl;rw[hgd,LJ];have hd:=RJ hlt;have hr18:((V % 10^18:Nat):Int)<1000000000000000000:=by omega
  have h18:0<(zm (V % 10^18)).length:=by
   rw[y7,Lib.nDigits];split<;>omega
  refine ze rfl (ze rfl (ze (Aa (Aa (w4 (yq _)) (w4 hr18)) rfl) ?_));rw[wr _ (by omega) (by omega)];by_cases q0:V/10^18=0
  ·rw[q0];refine zt (by rw[show((0:Nat):Int)=0 from rfl,Kp];rfl) (ze rfl ?_);have:=next _ rfl;rw[wd q0,q0]at this;exact this
  ·have hpad:=Sn _ hlt;refine ze (w4 (by have:=I7 (V:=V/10^18) (by omega);omega)) (ze (Aa (Aa (w4 (by omega)) (w4 (by omega))) rfl) (ze (w4 ?_) (ze rfl (next _ ?_))))
   ·rw[<-ya,hpad];unfold FX;rw[ya,List.length_replicate];omega
   ·rw[wc q0];exact hpad
end T200
theorem tH(n:Nat):(18446744073709551616:Nat)^n<=10^(20*n):=by
 rw[Nat.pow_mul];exact Nat.pow_le_pow_left (by decide) n
theorem YP{V k:Nat}(h:(V:Int)<(Ak:Int)^k):V<18446744073709551616^k:=by
 rw[<-Sq k]at h;exact qc.mp h
theorem YC{V k:Nat}(h:(V:Int)<(Ak:Int)^k)(hk:1<=k):(zm V).length<=20*k:=by
 rw[y7];obtain⟨j,hj⟩:∃j,20*k=j+1:=⟨20*k-1,by omega⟩;have h3:=Nat.lt_of_lt_of_le (YP h) (tH k);rw[hj]at h3 ⊢;exact Nf j V h3
theorem HE{V:Nat}(h:Small V):(zm V).length<=180000:=YC (k:=9000) h.h (by decide)
theorem LX:∀(f v:Nat) (s:List UInt8),s∈Cd f v->0<s.length
 |0,v,s,h=>by cases h
 |f+1,v,s,h=>by
  have eg:Cd (f+1) v=if v<10^18 then[zm v]else FX 18 (v % 10^18)::Cd f (v/10^18):=rfl
  have hd:∀r,0<(zm r).length:=fun r=>by rw[y7,Lib.nDigits];split<;>omega
  rw[eg]at h;split at h
  ·rw[List.mem_singleton]at h;subst h;exact hd _
  ·rcases List.mem_cons.1 h with rfl|h
   ·unfold FX;rw[ya];have:=hd (v % 10^18);omega
   ·exact LX f _ s h
theorem Pq:∀(l:List (List UInt8)),(∀s∈l,0<s.length)->l.length<=l.flatten.length
 |[],_=>yz _
 |s::l,h=>by
  have h1:=Pq l fun x hx=>h x (List.mem_cons_of_mem _ hx)
  have h2:=h s (List.mem_cons_self ..);rw[List.flatten_cons,ya,z8];omega
theorem YW{V:Nat}(h:0<V):AU (-(V:Int))=45::zm V:=Lib.itoa_neg V h
theorem jW(hfmt:Ag Bg 249 TT):DM PZ:=Ab jK (Ab (T218.ok Fg) (Ab QE (Ab hfmt (Ab ZU AP))))
namespace T200
variable {Q:PV->Ob->Prop}
theorem Zw(neg:Bool){V:Nat}(hV:Small V)(hq:∀ob,Q (.dat .str (if neg=true then 45::zm V else zm V)) ob):Exit neg (Cd (V+1) V) Q:=by
 have hne:=LX (V+1) V;have ht:=II (V+1) V (by omega);have hd:=HE hV;have hl:=Pq _ hne;have hr:(Cd (V+1) V).flatten.length=(zm V).length:=by
  rw[<-ht,yo,yo,List.map_reverse,List.sum_reverse]
 have hpos:0<(Cd (V+1) V).length:=by
  have eg:Cd (V+1) V=if V<10^18 then[zm V]else FX 18 (V % 10^18)::Cd V (V/10^18):=rfl
  rw[eg];split<;>simp
 generalize Cd (V+1) V=G at*;unfold Exit;refine zy (fun c=>ze rfl (ze rfl ?_)) (fun c=>?_)
 ·rw[wd c]at hq;rw[wr _ (by omega) (by omega)];exact EF G (45::zm V) (by rw[z8];omega) (by omega) hq G.length [45] _ 1 (yz _) rfl rfl (by decide) (by rw[List.take_length,ht];rfl)
 ·rw[wc (by rw[c];decide)]at hq;rw[wr _ (by omega) (by omega)];obtain⟨i,hi⟩:∃i,i+1=G.length:=⟨G.length-1,by omega⟩;exact Fj G (zm V) (by omega) (by omega) hq i hi _ (by omega) (hne _ (List.getElem_mem _)) ht
theorem ok(hfmt:Ag Bg 249 TT):Ag Bg 200 uF:=by
 refine MK (X:=PZ) rfl (jW hfmt) (d:=9) (by kernel_rfl) (by kernel_rfl) (by kernel_rfl) (fun(a:Int×List Int) ha=>?_) (BA (by kernel_rfl));have ha:A6 a=true:=ha;have hk:=(BU ha).1;have hr:=(DJ hk).1;refine z7 (Am a) (zy (fun c=>ze (C3 hr.1 hr.2) (zl (ye rfl rfl ?_))) (fun c=>ze hk ?_))
 ·have c:a.2=[]:=by simpa using c
  show AU a.1=AU (zw a);rw[Bl c]
 ·have c:a.2≠[]:=by rintro k;rw[k]at c;simp at c
  have hb:=bounds ha;have hbig:(9223372036854775808:Int)<=Ae (zw a):=by
   obtain⟨_,hw⟩:=DJ hk;obtain⟨s,w⟩:=a;rcases hw with hw|⟨_,_,h3⟩
   ·exact wh hw c
   ·rw[Vd c,Ah];have h3:9223372036854775808<=Ao w:=h3;split<;>omega
  obtain⟨V,hV⟩:=yc (AF (zw a));have hVa:=Ah (zw a);rw[hV]at hb hbig hVa ⊢;have hs:Small V:=⟨hb⟩;have hd:=HE hs;have hp:0<V:=by omega
  have hl:=Pq _ (LX (V+1) V);have ht:=II (V+1) V (by omega);have hlen:(Cd (V+1) V).flatten.length=(zm V).length:=by
   rw[<-ht,yo,yo,List.map_reverse,List.sum_reverse]
  refine Aj _ V hp hs (by omega) (Zw _ hs fun ob=>ye rfl rfl ?_);show(if decide (zw a<0)=true then 45::zm V else zm V)=AU (zw a);by_cases n:zw a<0
  ·rw[wd (w4 n),show zw a= -(V:Int)from by omega,YW hp]
  ·rw[wc (by simpa using n),show zw a=(V:Int)from by omega,LJ]
end T200
theorem V0{k:Nat}{n d:Int}(hd:d≠0)(h1:Ae n<(Ak:Int)^k)(h2:Ae d<(Ak:Int)^k):JR k (zu n d):=by
 unfold JR;rw[Rat.num_divInt,Rat.den_divInt,wc hd];constructor
 ·refine Int.lt_of_le_of_lt Wc ?_;rw[Jc];have:Ae d.sign=1:=by rw[Ah,Int.natAbs_sign_of_ne_zero hd];rfl
  rw[this,qt];exact h1
 ·refine Int.lt_of_le_of_lt ?_ h2;rw[Ah];exact Int.ofNat_le.mpr (Nat.div_le_self _ _)
theorem jY{f:Az}(h:y8 f=true)(h0:zw f.1≠0):y8 (Un f)=true:=by
 obtain⟨a1,a2,la1,la2,a0⟩:=FH h;exact(La a2 a1 h0).CF (V0 h0 la2 la1)
theorem oL{f:Az}(h:y8 f=true):y8 (uG f)=true:=by
 obtain⟨a1,a2,la1,la2,a0⟩:=FH h;unfold y8 qz at*;have hk:=Vh (k:=4000) (BU a1).1 (by omega) (by omega) (RE (BU a1).1 la1);exact Aa (Aa (Gm hk.1 (by show Ae (zw (C4 f.1))<_;rw[IE,It];exact la1)) (Gm (BU a2).1 la2)) (w4 a0)
theorem W2:DM zG:=Ab T160.ok (Ab T80.ok (Ab T82.ok (Ab T161.ok AP)))
theorem T81.ok:Ag Bg 81 XV:=by
 refine B1 W2 (fun(i:((Int×List Int)×(Int×List Int))×((Int×List Int)×(Int×List Int))) hi=>?_);obtain⟨a,b⟩:=i;have hi:(y8 a&&y8 b)=true:=hi;rw[zh]at hi;obtain⟨b1,b2,lb1,lb2,b0⟩:=FH hi.2;exact z7 (T81.Am a b) (ze (BU b1).1 (ze (Aa hi.1 (oL hi.2)) (zl (ye rfl rfl rfl))))
theorem T86.ok:Ag Bg 86 Yr:=by
 refine B1 W2 (fun(i:((Int×List Int)×(Int×List Int))×((Int×List Int)×(Int×List Int))) hi=>?_);obtain⟨a,b⟩:=i;have hi:(y8 a&&y8 b&&decide (zw b.1≠0))=true:=hi;rw[zh,zh,w5]at hi;exact z7 (T86.Am a b) (ze (Aa hi.1.2 (w4 hi.2)) (ze (Aa hi.1.1 (jY hi.1.2 hi.2)) (zl (ye rfl rfl rfl))))
theorem T112.ok:Ag Bg 112 Vr:=by
 refine B1 Gb (fun(a:(Int×List Int)×(Int×List Int)) h=>?_);obtain⟨a1,a2,la1,la2,a0⟩:=FH h;exact z7 (T112.Am a) (ze (Aa (Aa a1 a2) (w4 a0)) (zl (ye rfl rfl rfl)))
end Go.Pe
namespace Go.Sp
theorem CY{a:Bool×List Int}(h:Ci a=true):A4 a.2=true/\a.2.length<=3000/\(a.1=true->a.2≠[]):=by
 unfold Ci at h;rw[zh,zh,w5,Bool.or_eq_true,w5,Bool.not_eq_true']at h;refine⟨h.1.1,h.1.2,fun k=>?_⟩;rcases h.2 with x|x
 ·rw[k]at x;cases x
 ·exact x
theorem Et{a:Bool×List Int}(h:Ci a=true):Ae (vR a)=Ai a.2/\0<=Ai a.2:=by
 obtain⟨h1,h2,h3⟩:=CY h;have h0:=AA (b:=B9) (by decide) (Bk h1).2.1;have h0:0<=Ai a.2:=h0;refine⟨?_,h0⟩;unfold vR;rw[Ah];split<;>omega
theorem OH{a:Bool×List Int}(h:Ci a=true):a.1=rN (vR a):=by
 obtain⟨h1,h2,h3⟩:=CY h;obtain⟨_,h0⟩:=Et h;unfold rN vR;cases ha:a.1 with
 |false=>rw[wc (by decide)];symm;rw[w9];omega
 |true=>
  rw[wd rfl];symm;rw[w5];have:=Jm (b:=B9) (by decide) (Bk h1).2.1 (Bk h1).2.2 (h3 ha);have:0<Ai a.2:=this;omega
theorem tW{a:Bool×List Int}(h:Ci a=true):a.2=rW (vR a):=by
 unfold rW;rw[(Et h).1];exact Ij (b:=B9) (by decide) (Bk (CY h).1).2.1 (Bk (CY h).1).2.2
theorem qX{a:Bool×List Int}(h:Ci a=true):a=(rN (vR a),rW (vR a)):=Prod.ext (OH h) (tW h)
theorem VD(k:Nat):(B9:Int)^k=10^(9*k):=by
 have:(B9:Int)=10^9:=by decide
 rw[this, <-Int.pow_mul]
theorem jP{n:Int}{k:Nat}(h:n.natAbs<10^(9*k)):Ae n<(B9:Int)^k:=by
 rw[Ah,VD];have:((10^(9*k):Nat):Int)=(10:Int)^(9*k):=by simp
 rw[<-this];exact qc.mpr h
theorem Ny(n:Int):0<=Ae n:=by rw[Ah];omega
theorem JY(n:Int):Ai (rW n)=Ae n:=CP (b:=B9) (by decide) (Ny n)
theorem EJ(n:Int):vR (rN n,rW n)=n:=by
 unfold vR;show(if rN n=true then -Ai (rW n)else Ai (rW n))=n;rw[JY,Ah];unfold rN;by_cases h:n<0
 ·rw[wd (w4 h)];omega
 ·rw[wc (by simpa using h)];omega
theorem RA{n:Int}(h:n.natAbs<10^27000):Ci (rN n,rW n)=true:=by
 have k:27000=9*3000:=rfl;rw[k]at h;obtain⟨h1,_,h3,h4⟩:=Fm (n:=Ae n) (k:=3000) (Ny n) (jP h) (by decide);unfold Ci;have h5:A4 (rW n)=true:=h1;have h6:(rW n).length<=3000:=h4;rw[h5,w4 h6];cases hb:rN n with
 |false=>rfl
 |true=>
  have:rW n≠[]:=by
   intro e;have h7:=JY n;rw[e]at h7;have h7:0=Ae n:=h7;unfold rN at hb;have hb:=w6 hb;rw[Ah]at h7;omega
  rw[w4 this];rfl
theorem dI(k:Nat):((10^k:Nat):Int)=(10:Int)^k:=by rw[yk];rfl
theorem sT{x:Nat}(j k:Nat)(h:j<=k)(hx:x<10^j):x<10^k:=Nat.lt_of_lt_of_le hx (Nat.pow_le_pow_right (by decide) h)
theorem sO{a:Bool×List Int}(h:Ci a=true):(vR a).natAbs<10^27000:=by
 obtain⟨h1,h2,h3⟩:=CY h;have h4:=Br (b:=B9) (by decide) (Bk h1).2.1;have h5:(B9:Int)^a.2.length<=(B9:Int)^3000:=AH (by decide) h2;have h6:Ae (vR a)<(B9:Int)^3000:=by rw[(Et h).1];exact yj h4 h5
 rw[Ah,VD]at h6;have:=dI (9*3000);rw[<-this]at h6;have k:27000=9*3000:=rfl;rw[k];exact qc.mp h6
theorem aF{neg:Bool}{w:List Int}{n:Int}(hd:Aw B9 w)(hv:Ai w=Ae n)(hn:n≠0->neg=rN n):(BK neg w,Aq w)=(rN n,rW n):=by
 have h:=Go.Pe.Mn (neg:=neg) hd hv;rw[h];have:(if neg=true then -Ae n else Ae n)=n:=by
  by_cases h0:n=0
  ·rw[h0];unfold Ae;split<;>simp
  ·rw[hn h0];unfold rN;rw[Ah];by_cases h:n<0
   ·rw[wd (w4 h)];omega
   ·rw[wc (by simpa using h)];omega
 rw[this]
theorem Dj{s:List UInt8}(h:Bh s=true):Ci (Bo s,Bi s)=true/\vR (Bo s,Bi s)=A9 s/\Ci (A8 s,A5 s)=true/\vR (A8 s,A5 s)=AI s/\(An s).num=A9 s/\((An s).den:Int)=AI s/\FL s=true/\(A9 s).natAbs<10^4000/\(AI s).natAbs<10^4000:=by
 obtain⟨h1,h2⟩:=Ff h;obtain⟨s1,s2⟩:=Ro h;have e:(An s).num=A9 s/\((An s).den:Int)=AI s:=by
  have:=JM (An s);rw[h1]at this;exact⟨this.1.symm,this.2.symm⟩
 have l1:(A9 s).natAbs<10^4000:=by rw[<-e.1];exact s1
 have l2:(AI s).natAbs<10^4000:=by rw[<-e.2,yr];exact s2
 have m:∀x:Nat,x<10^4000->x<10^27000:=fun x hx=>sT 4000 27000 (by decide) hx
 refine⟨RA (m _ l1),EJ _,RA (m _ l2),EJ _,e.1,e.2,?_,l1,l2⟩;obtain⟨c1,c2,c3⟩:=EI (An s);rw[h1]at c1 c2 c3;have k1:=Go.Pe.T77.CZ s;unfold FL D7;rw[w4 (p:=s.length<=5999) (by omega),w4 (p:=(Ay s).length<=5999) (by omega),w4 (p:=(AM s).length<=5999) (by omega),yp,yp,Bool.and_true,zh];refine⟨?_,?_⟩
 ·obtain⟨i1,i2,i3,i4⟩:=C9 (An s).num;rw[c1];unfold AY at i2;split at i2
  ·next c=>rw[wd c,i2];exact DI _
  ·next c=>rw[wc c,i2];exact DI _
 ·rw[c2];split
  ·rfl
  ·rw[wc (Fk (DI _))];exact DI _
end Go.Sp
namespace Go.Pe
open Sp
open Go.Det
theorem Q5{x:Int}{k:Nat}(h:x.natAbs<10^k):Ae x<(Ak:Int)^k:=by
 have h4:((10^k:Nat):Int)=(10:Int)^k:=yk ..;rw[Ah];refine yj ?_ (jB k);rw[<-h4];exact qc.mpr h
theorem Cs{q:Rat}{k:Nat}(h:E1 k q)(hk:k<=4000):JR 4000 q:=by
 obtain⟨h1,h2⟩:=h.mono hk;have h3:=Q5 (k:=4000) (x:=(q.den:Int)) (by rw[yr];exact h2);rw[Ah,yr]at h3;exact⟨Q5 h1,h3⟩
def MS(s:List UInt8):Az:=((Er s,Ez s),(D6 s,Eb s))
theorem GQ{s:List UInt8}(h:Bh s=true):Dz (MS s) (An s):=by
 obtain⟨_,_,_,_,e1,e2,_,l1,l2⟩:=Dj h;have m:∀x:Int,x.natAbs<10^4000->Ae x<(Ak:Int)^9000:=fun x hx=>yj (Q5 hx) (AH (by decide) (by decide))
 exact⟨(BU (Ft (DF (m _ l1)))).1,(BU (Ft (DF (m _ l2)))).1,(Ko _).trans e1.symm,(Ko _).trans e2.symm⟩
theorem YU{d:AS}(h:Dh d=true):CJ d=decide (zw d=1):=by
 unfold CJ;rw[Bool.eq_iff_iff,zh,w5,w5,w5];refine⟨fun⟨h1,h2⟩=>by rw[Bl h1];exact h2,fun e=>?_⟩;by_cases c:d.2=[]
 ·rw[Bl c]at e;exact⟨c,e⟩
 ·obtain⟨_,hw⟩:=DJ h;obtain⟨s,w⟩:=d;rcases hw with hw|⟨_,_,h3⟩
  ·exact wh hw c
  ·rw[Vd c]at e;have h3:9223372036854775808<=Ao w:=h3;split at e<;>omega
theorem YR{f:Az}{q:Rat}(h:Dz f q):Iw f=Jt q:=by
 unfold Iw Ef Jt;rw[h.vn,h.vd]
theorem bZ{f:Az}{q:Rat}(h:Dz f q):Jx f=AW q:=by
 unfold Jx AW;rw[YU h.d,h.vn,h.vd];have e:decide ((q.den:Int)=1)=true↔q.den=1:=by rw[w5];omega
 by_cases c:q.den=1
 ·rw[wd (e.2 c),wd c];rfl
 ·rw[wc (fun k=>c (e.1 k)),wc c];show q9 q.num++47::q9 ((q.den:Nat):Int)=_;rw[Lib.itoa_nonneg]
theorem XQ{f:Az}{q:Rat}(h:Dz f q):Jr f=Vx 0 q/\Ju f=Wm 0 q:=by
 unfold Jr Ju Vx Wm;rw[YR h,bZ h];exact⟨rfl,rfl⟩
theorem Dz.Dm{f:Az}{q:Rat}(h:Dz f q)(hs:JR 4000 q):qz f=true:=by
 have:=h.CF hs;unfold y8 at this;rw[zh]at this;exact this.1
theorem Dz.Hw{f:Az}{q:Rat}(h:Dz f q):decide (zw f.1≠0)=decide (q≠0):=by
 rw[h.vn,decide_eq_decide,wm,Rat.num_eq_zero]
theorem Dz.cmp{f g:Az}{p q:Rat}(hf:Dz f p)(hg:Dz g q):KM f g=if p<q then -1 else if q<p then 1 else 0:=by
 unfold KM BZ;rw[hf.vn,hf.vd,hg.vn,hg.vd];have h1:p<q↔p.num*(q.den:Int)<q.num*(p.den:Int):=Rat.lt_iff ..;have h2:q<p↔q.num*(p.den:Int)<p.num*(q.den:Int):=Rat.lt_iff ..;by_cases c:p<q
 ·rw[wd c,wd (h1.1 c)]
 ·rw[wc c,wc (fun k=>c (h1.2 k))];by_cases d:q<p
  ·rw[wd d,wd (h2.1 d)]
  ·rw[wc d,wc (fun k=>d (h2.2 k))]
end Go.Pe
namespace Go.Sp
theorem fU{n:Int}(h:0<=n):n+1<=2^(EU n).toNat:=by
 unfold EU;split
 ·have:n=0:=by omega
  subst this;decide
 ·have hb:=Nat.lt_log2_self (n:=n.toNat);have e:((n.toNat.log2:Int)+1).toNat=n.toNat.log2+1:=by omega
  have e2:((2^(n.toNat.log2+1):Nat):Int)=(2:Int)^(n.toNat.log2+1):=yk ..;rw[e, <-e2];generalize 2^(n.toNat.log2+1)=P at*;omega
theorem rZ{w:List Int}(hd:Aw Ak w){k:Nat}(hl:w.length=k+1):val Ak w<(Ak:Int)^k*(w.getD k 0+1):=by
 have h1:=B7 (Ak:Int) w k (by omega);have h2:=Br (b:=(Ak:Int)) (by decide) (AL hd k);rw[List.length_take,Nat.min_eq_left (by omega)]at h2;have h3:w.drop k=[w.getD k 0]:=by
  rw[Ca (by omega),zz (by omega)]
 rw[h3]at h1;have h4:val Ak [w.getD k 0]=w.getD k 0:=by
  show w.getD k 0+(Ak:Int)*0=_;omega
 rw[h4]at h1;rw[qh,qu];omega
theorem Wf(k:Nat):((10^k:Nat):Int)=(10:Int)^k:=by rw[yk];rfl
theorem fI(k:Nat):2^(3*k)<=10^k:=by rw[Nat.pow_mul];exact Nat.pow_le_pow_left (by decide) k
theorem eP(k:Nat):(2:Int)^(3*k)<=10^k:=by
 have h2:((2^(3*k):Nat):Int)<=((10^k:Nat):Int):=Int.ofNat_le.2 (fI k);rw[yk,yk]at h2;exact h2
theorem nE:(2:Int)^1800<=10^600:=by
 have h:=eP 600;have k:3*600=1800:=rfl;rw[k]at h;exact h
theorem nR{a:AS}(h:PT a<=1800):Ef a=false:=by
 have a0:0<=Ae (vI a):=by rw[Ah];omega
 have hv:=CP (b:=Ak) (by decide) a0;have hd:=Fc (b:=Ak) (by decide) (Ae (vI a));have key:Ae (vI a)<2^1800:=by
  unfold PT at h;have hv:val Ak (Bs (Ae (vI a)))=Ae (vI a):=hv;have hd:Aw Ak (Bs (Ae (vI a))):=hd;generalize Bs (Ae (vI a))=w at*;rw[<-hv];by_cases hw:w=[]
  ·subst hw;show(0:Int)<_;exact Int.pow_pos (by decide)
  ·rw[wc hw]at h;obtain⟨k,hk⟩:∃k,w.length=k+1:=⟨w.length-1,by have:=y9.2 hw;omega⟩;have ht:=rZ hd hk;have g:=JO (b:=(Ak:Int)) (by decide) hd k;have hp:=fU g.1;have hl:=(Go.Pe.RP g.1 (by have:(Ak:Int)=18446744073709551616:=rfl;omega)).1;rw[hk,yt,show((k+1:Nat):Int)-1=(k:Int)by omega]at h;have hB:(0:Int)<(Ak:Int)^k:=AN (by decide) k;have h5:=yh hp (yn hB);have e1:(Ak:Int)^k=2^(64*k):=by
    have:(Ak:Int)=2^64:=by decide
    rw[this, <-Int.pow_mul]
   rw[e1, <-Int.pow_add]at h5;rw[e1]at ht;have h6:(2:Int)^(64*k+(EU (w.getD k 0)).toNat)<=2^1800:=AH (by decide) (by omega);exact yj ht (Int.le_trans h5 h6)
 have h7:=yj key nE;unfold Ef Mr;rw[w9];have:(vI a).natAbs<10^600:=by
  rw[Ah]at h7;have e:=Wf 600;rw[<-e]at h7;exact qc.mp h7
 have:=DP this (by decide);omega
theorem Tm(q:Rat):P6 (AW q)=zm q.den:=by
 obtain⟨_,c2,c3⟩:=EI q;unfold P6;rw[c2,c3];by_cases h:q.den=1
 ·rw[wc (by simpa using h),h,qg (by decide)];rfl
 ·rw[wd (w4 h),wc h]
theorem VN(q:Rat):EZ (AW q)=if Jt q=true then 4 else 0:=by
 obtain⟨c1,_,_⟩:=EI q;unfold EZ;rw[Tm,c1,(C9 q.num).2.1];have hb:Jt q=true↔600<(zm q.num.natAbs).length\/600<(zm q.den).length:=by
  unfold Jt Mr;rw[Bool.or_eq_true,w5,w5,yr]
 by_cases h:Jt q=true
 ·rw[wd (hb.1 h),wd h]
 ·rw[wc (fun k=>h (hb.2 k)),wc h]
theorem kR(q:Rat):Gs (Vx 0 q) (Wm 0 q) (AW q) 0=true:=by
 unfold Gs Vx Wm;rw[VN];by_cases h:Jt q=true
 ·simp[h]
 ·simp[h]
theorem TA{e:Int}(h:e≠0)(q:Rat)(w:List UInt8):Gs (Vx e q) (Wm e q) w e=true:=by
 unfold Gs Vx Wm;simp[h]
theorem Rq(a b:List UInt8):Fx a b=if Au a≠0 then Au a else Au b:=by
 show(if Au a≠0 then Au a else if Au b≠0 then Au b else 0)=_;by_cases h:Au a≠0
 ·rw[wd h,wd h]
 ·rw[wc h,wc h];by_cases k:Au b≠0
  ·rw[wd k]
  ·rw[wc k];omega
theorem Fo{a b:List UInt8}(h:Fx a b=0):Au a=0/\Au b=0:=by
 rw[Rq]at h;by_cases k:Au a≠0
 ·rw[wd k]at h;exact wh h k
 ·rw[wc k]at h;exact⟨by omega,h⟩
theorem QI:AW 0=[48]:=by
 unfold AW;rw[wd (show Rat.den 0=1 from rfl)];show q9 0=[48];unfold q9;rw[wc (by decide),show(0:Int).toNat=0 from rfl,qg (by decide)];rfl
theorem KI{s:List UInt8}(h:Bh s=true):s=[48]↔An s=0:=by
 obtain⟨h1,_⟩:=Ff h;constructor
 ·rintro rfl;rw[<-QI,CC]
 ·intro e;rw[<-h1,e,QI]
theorem Hu{s:List UInt8}(h:FI s=true):Bh s=true/\s.length<=3000:=by
 unfold FI at h;rwa [zh,w5]at h
theorem uS{s:List UInt8}(h:FI s=true)(h0:s≠[48]):ZZ s=true:=by
 unfold ZZ;rw[h,yp];exact w4 fun e=>h0 ((KI (Hu h).1).2 e)
theorem U2{s:List UInt8}(h:ZZ s=true):FI s=true/\An s≠0:=by
 unfold ZZ at h;rwa [zh,w5]at h
theorem Ut{q:Rat}{k:Nat}(h:E1 k q)(hk:k<=400000):(AW q).length<=1000000:=by
 have:=KZ (h.mono (show k<=k+1 by omega)) (by omega);omega
end Go.Sp
namespace Go.Pe
open Sp
open Go.Det
theorem Rm:DM pM:=fun g sp h=>by cases h
theorem T214.ok:Ag Bg 214 Q9:=by
 refine B1 Rm (fun(i:List UInt8×List UInt8) hi=>?_);obtain⟨s,t⟩:=i;have hi:(decide (t=[45])&&decide (s.length<=1000000))=true:=hi;rw[zh,w5,w5]at hi;obtain⟨rfl,hl⟩:=hi;have hq:∀v ob,v=AY s->Ad Q9 (s,[45]) (.dat .str v) ob:=fun v ob h=>ye rfl rfl h
 refine z7 (T214.Am s [45]) ?_;conv=>zeta
 cases s with
 |nil=>exact zt rfl (zl (hq _ _ rfl))
 |cons c r=>
  have e1:Int.toNat (([(45:UInt8)].length:Nat):Int)=1:=rfl;have e2:qk 1 (c::r)=[c]:=rfl;have e3:qk (yi (c::r).length 1) (jc 1 (c::r))=r:=yd (yz _);have g0:(c::r).getD 0 0=c:=rfl;rw[e1,e2,e3];refine ze (w4 (by simp;omega)) (ze (by simp) (zy (fun d=>ze (by simp) (zl (hq _ _ ?_))) (fun d=>zl (hq _ _ ?_))))
  ·have hc:c=45:=by simpa using d
   unfold AY;rw[g0,wd hc];rfl
  ·have hc:c≠45:=by simpa using d
   unfold AY;rw[g0,wc hc]
theorem jS:DM zY:=Ab (T218.ok Fg) (Ab T247.ok AP)
theorem nD{a:AS}(h:A6 a=true):(Bs (Ae (zw a))).length<=9000:=by
 have hb:=bounds h;have h0:=AF (zw a);refine NA Ak (by decide) 9000 _ _ ?_;have e:((Ak^9000:Nat):Int)=(Ak:Int)^9000:=Sq 9000;rw[<-e]at hb;generalize Ak^9000=P at*;omega
theorem T248.ok:Ag Bg 248 aE:=by
 refine B1 jS (fun(a:Int×List Int) ha=>?_);have ha:A6 a=true:=ha;have hk:=(BU ha).1;have hl:=nD ha;have hd:=Fc (b:=Ak) (by decide) (Ae (zw a));have hd:Aw Ak (Bs (Ae (zw a))):=hd;have hq:∀v ob,v=PT a->Ad aE a (.dat i64 v) ob:=fun v ob h=>ye rfl rfl h
 unfold PT at hq;refine z7 (T248.Am a) (ze hk ?_);have ea:(Prod.fst a,Prod.snd a)=a:=rfl;rw[ea];generalize Bs (Ae (zw a))=w at*;refine zy (fun c=>zl (hq _ _ ?_)) (fun c=>?_)
 ·have:w=[]:=ql.1 (by have:(w.length:Int)=0:=(by simpa using c);omega);rw[wd this]
 ·have c:(w.length:Int)≠0:=by simpa using c
  have hn:w≠[]:=by rintro rfl;exact c rfl
  have g:=AV hd (w.length-1);have e1:zc .i64 ((w.length:Int)-1)=((w.length-1:Nat):Int):=by rw[wr _ (by omega) (by omega)];omega
  have l2:=RP (Sp.A0 g).1 (Sp.A0 g).2;rw[e1,zp,wr (64*_) (by omega) (by omega),wr _ (by omega) (by omega)];refine ze (Aa (w4 (by omega)) (w4 (by omega))) (ze g (zl (hq _ _ ?_)));rw[wc hn];omega
theorem dY:DM wW:=Ab T248.ok (Ab (T200.ok fV) (Ab T214.ok AP))
theorem eL(n:Int):AY (AU n)=zm n.natAbs:=(C9 n).2.1
theorem OD{a:AS}(h:A6 a=true):(AU (zw a)).length<=180001:=by
 have hb:=bounds h;have ha:=Ah (zw a);have h1:(zm (zw a).natAbs).length<=180000:=HE ⟨by rw[<-ha];exact hb⟩;unfold AU q9;split
 ·rw[z8];omega
 ·rw[show(zw a).toNat=(zw a).natAbs by omega];omega
theorem T199.ok:Ag Bg 199 X3:=by
 refine B1 dY (fun(a:Int×List Int) ha=>?_);have ha:A6 a=true:=ha;have hl:=OD ha;have hq:∀v ob,v=Ef a->Ad X3 a (.dat .bool v) ob:=fun v ob h=>ye rfl rfl h
 have hqb:∀v ob,v=Ef a->Ad X3 a (.bl v) ob:=fun v ob h=>ye rfl rfl h
 refine z7 (T199.Am a) (ze ha (zy (fun c=>ze ha (ze (Aa (w4 rfl) (w4 (by show(AU (zw a)).length<=1000000;omega))) (zl (hq _ _ ?_)))) (fun c=>zl (hqb _ _ ?_))))
 ·show decide (((AY (AU (zw a))).length:Int)>600)=Ef a;rw[eL];unfold Ef Mr;rw[decide_eq_decide];omega
 ·have c:=w7 c;have c:¬PT a>1800:=c;exact(nR (by omega)).symm
theorem gY{a:AS}(h:MT a=true):A6 a=true:=by
 unfold MT at h;rw[zh,w5]at h;unfold A6;rw[h.1,yp];exact w4 (by omega)
theorem iM{a:Az}(h:qz a=true):A6 a.1=true/\A6 a.2=true:=by
 unfold qz at h;rw[zh]at h;exact⟨gY h.1,gY h.2⟩
theorem WV:DM zC:=Ab T199.ok (Ab T156.ok (Ab (T200.ok fV) AP))
theorem T131.ok:Ag Bg 131 Xk:=by
 refine B1 WV (fun(a:(Int×List Int)×(Int×List Int)) ha=>?_);obtain⟨h1,h2⟩:=iM (a:=a) ha;refine z7 (T131.Am a) (ze h1 (zy (fun c=>zl (ye rfl rfl ?_)) (fun c=>ze h2 (zl (ye rfl rfl ?_)))))
 ·have c:Ef a.1=true:=c;show true=(Ef a.1||Ef a.2);rw[c];rfl
 ·have c:Ef a.1=false:=c;show Ef a.2=(Ef a.1||Ef a.2);rw[c];rfl
theorem T132.ok:Ag Bg 132 fK:=by
 refine B1 WV (fun(a:(Int×List Int)×(Int×List Int)) ha=>?_);obtain⟨h1,h2⟩:=iM (a:=a) ha;have l1:=OD h1;have l2:=OD h2;refine z7 (T132.Am a) (ze rfl (zy (fun c=>ze h1 (zl (ye rfl rfl ?_))) (fun c=>ze h1 (ze (w4 (by show(AU (zw a.1)).length+1<=_;omega)) (ze h2 (ze (w4 (by rw[ya,List.length_singleton];show(AU (zw a.1)).length+1+(AU (zw a.2)).length<=_;omega)) (zl (ye rfl rfl ?_))))))))
 ·have c:CJ a.2=true:=c;show AU (zw a.1)=Jx a;unfold Jx;rw[wd c]
 ·have c:CJ a.2=false:=c;show AU (zw a.1)++[47]++AU (zw a.2)=Jx a;unfold Jx;rw[wc (by rw[c];decide),qf];rfl
theorem gU:DM vV:=Ab T131.ok (Ab T132.ok AP)
theorem T103.ok:Ag Bg 103 Nt:=by
 refine B1 gU (fun(a:(Int×List Int)×(Int×List Int)) ha=>?_);refine z7 (T103.Am a) (ze ha (zy (fun c=>zl (ye rfl rfl ?_)) (fun c=>ze ha (zl (ye rfl rfl ?_)))))
 ·have c:Iw a=true:=c;show([],(4:Int))=(Jr a,Ju a);unfold Jr Ju;rw[wd c,wd c]
 ·have c:Iw a=false:=c;show(Jx a,(0:Int))=(Jr a,Ju a);unfold Jr Ju;rw[wc (by rw[c];decide),wc (by rw[c];decide)]
theorem Xv:DM vP:=Ab T77.ok (Ab T173.ok AP)
namespace T84
theorem Aj{Q:PV->Ob->Prop}(l:List (List UInt8))(hl:l.length<=1000)(hs:∀s∈l,s.length<=1000000):∀(r:List (List UInt8)) (i:Nat),l.drop i=r->i<=l.length->(∀ob,Q (.dat i64 (CX r)) ob)->Ends vP (L1 l (l.length:Int) (i:Int)) Q
 |[],i,h,hi,hq=>by
  have:=drop_nil h hi;exact ym (Ar ..) (zt (w8 (by omega)) (zl (hq _)))
 |x::r,i,h,hi,hq=>by
  obtain⟨g1,g2,g3⟩:=drop_cons (d:=([]:List UInt8)) h;have hx:x∈l:=List.mem_of_mem_drop (by rw[h];exact List.mem_cons_self ..);have e1:zc .i64 ((i:Int)+1)=((i+1:Nat):Int):=by rw[wr _ (by omega) (by omega)];omega
  unfold CX at hq;refine ym (Ar ..) ?_;conv=>zeta
  rw[zp,g2,e1];refine ze (w4 (by omega)) (ze (Aa (w4 (by omega)) (w4 (by omega))) (ze (w4 (hs x hx)) (zy (fun c=>zl ?_) (fun c=>Aj l hl hs r (i+1) g3 g1 ?_))))
  ·have c:Au x≠0:=by simpa using c
   rw[wd c]at hq;exact hq _
  ·have c:Au x=0:=by simpa using c
   rw[wc (by rw[c];decide)]at hq;exact hq
theorem ok:Ag Bg 84 Nd:=by
 refine B1 Xv (fun(l:List (List UInt8)) hi=>?_);have hi:(decide (l.length<=1000)&&l.all fun s=>decide (s.length<=1000000))=true:=hi;rw[zh,w5,List.all_eq_true]at hi;exact z7 (Am l) (Aj l hi.1 (fun s h=>w6 (hi.2 s h)) l 0 rfl (Nat.zero_le _) (fun ob=>ye rfl rfl rfl))
end T84
theorem T110.ok:Ag Bg 110 fJ:=by
 refine B1 Xv (fun(a:(Int×List Int)×(Int×List Int)) ha=>?_);exact z7 (T110.Am a) (ze ha (zl (ye rfl rfl rfl)))
end Go.Pe
namespace Go.Sp
structure Nu(k:Nat)(s:List UInt8)(q:Rat):Prop where
 t:s=AW q
 z:E1 k q
theorem Nu.rat{k:Nat}{s:List UInt8}{q:Rat}(h:Nu k s q):An s=q:=by rw[h.t,CC]
theorem Xz{k:Nat}{q:Rat}(h:E1 k q)(hk:k<=600):Jt q=false:=VO.2 (h.mono hk)
theorem Nu.check{k:Nat}{s:List UInt8}{q:Rat}(h:Nu k s q)(hk:k<=600):Au s=0:=by
 rw[h.t,V2,Xz h.z hk,wc (by decide)]
theorem Nu.num{k:Nat}{s:List UInt8}{q:Rat}(h:Nu k s q)(hk:k<=1999):Bh s=true:=by rw[h.t];exact Ql h.z hk
theorem Nu.FI{k:Nat}{s:List UInt8}{q:Rat}(h:Nu k s q)(hk:k<=1400):Sp.FI s=true:=by
 unfold Sp.FI;rw[h.num (by omega),yp,w5,h.t];have:=KZ (h.z.mono (show k<=k+1 by omega)) (by omega);omega
theorem Nu.len{k:Nat}{s:List UInt8}{q:Rat}(h:Nu k s q)(hk:k<=1999):s.length<=1000000:=by
 rw[h.t];exact Ut h.z (by omega)
theorem bO{k:Nat}{q:Rat}(h:E1 k q)(hk:k<=600):Vx 0 q=AW q/\Wm 0 q=0:=by
 unfold Vx Wm;rw[Xz h hk];exact⟨rfl,rfl⟩
theorem Nu.KI{k:Nat}{s:List UInt8}{q:Rat}(h:Nu k s q)(hk:k<=1999):s=[48]↔q=0:=by
 rw[Sp.KI (h.num hk),h.rat]
theorem jD{a:List UInt8}{n:Nat}(h:MY a (n:Int)=true):Nu n a (An a)/\Au a=0:=by
 unfold MY at h;rw[zh,zh,zh,w5,w5,w5,w5]at h;obtain⟨⟨⟨_,f2⟩,f3⟩,f4⟩:=h;obtain⟨t,_,_,_⟩:=LI f2;rw[<-t]at f3 f4;rw[Tm]at f4;rw[(EI _).1,(C9 _).2.1]at f3;refine⟨⟨t.symm,BY _ (by omega),BY _ (by omega)⟩,f2⟩
theorem Kl{a:List UInt8}(h:Au a=0):Nu 600 a (An a):=by
 obtain⟨t,_,_,z⟩:=LI h;exact⟨t.symm,z⟩
theorem QH(n:Int):AU n=AW (n:Rat):=by
 unfold AW AU;rw[wd (Rat.den_intCast ..),qo]
theorem Z8(p q:Rat):(if q<p then(-1:Int)else if p<q then 1 else 0)= -(if p<q then(-1:Int)else if q<p then 1 else 0):=by
 by_cases h:p<q
 ·have:¬q<p:=Rat.not_lt.2 (Rat.le_of_lt h);rw[wc this,wd h,wd h];rfl
 ·rw[wc h,wc h];split<;>rfl
theorem tP:An [49,47,50]=1/2:=by decide+kernel
theorem Nj:Nu 1 [49,47,50] (1/2):=by
 refine⟨by decide+kernel,?_⟩;unfold E1;decide+kernel
theorem lY{a u:List UInt8}:Gz (FT (D0 (GK a u) [49,47,50])) u=AW (Y7 a u):=by
 unfold Gz FT D0 GK Y7;rw[QH,CC,CC,CC,tP]
theorem bP{a u:List UInt8}(h:FY a u=0):Gs (Qa a u) (Q2 a u) (Gz (FT (D0 (GK a u) [49,47,50])) u) 0=true:=by
 unfold Qa Q2;rw[h,lY];exact kR _
end Go.Sp
namespace Go.Pe
open Sp
open Go.Det
theorem T111.ok:Ag Bg 111 cF:=by
 refine B1 Gb (fun(n:Int) _=>?_);exact z7 (T111.Am n) (ze rfl (ze rfl (zl (ye rfl rfl rfl))))
theorem lH:DM XX4:=Ab T83.ok (Ab T85.ok (Ab T84.ok (Ab T87.ok (Ab T80.ok (Ab T81.ok (Ab T82.ok (Ab T86.ok (Ab T88.ok (Ab T103.ok (Ab T104.ok (Ab T105n.ok (Ab T110.ok (Ab T111.ok (Ab T112.ok (Ab T77.ok AP)))))))))))))))
theorem eS:DM Wq:=lH
structure uC(a b:List UInt8):Prop where
 na:Bh a=true
 nb:Bh b=true
 za:E1 600 (An a)
 zb:E1 600 (An b)
 ra:Dz (MS a) (An a)
 rb:Dz (MS b) (An b)
 sa:JR 4000 (An a)
 sb:JR 4000 (An b)
 ta:FL a=true
 tb:FL b=true
theorem pF{a b:List UInt8}(h:CX [a,b]=0):uC a b:=by
 obtain⟨h1,h2⟩:=Fo (a:=a) (b:=b) h;obtain⟨n1,z1⟩:=Eo h1;obtain⟨n2,z2⟩:=Eo h2;exact⟨n1,n2,z1,z2,GQ n1,GQ n2,Cs z1 (by decide),Cs z2 (by decide),(Dj n1).2.2.2.2.2.2.1,(Dj n2).2.2.2.2.2.2.1⟩
theorem nJ{a b:List UInt8}(h:wZ a b=true):(decide ((2:Nat)<=2)&&true&&(decide ((2:Nat)<=1000)&&List.all [a,b] fun s=>decide (qp s<=1000000)))=true:=by
 unfold wZ at h;rw[zh]at h;show(decide (a.length<=1000000)&&(decide (b.length<=1000000)&&true))=true;rw[h.1,h.2];rfl
theorem Vf{e:Int}(h:e≠0)(q:Rat):([],e)=(Vx e q,Wm e q):=by
 unfold Vx Wm;rw[wd h,wd h]
theorem gO{f:Az}{q:Rat}(h:Dz f q){e:Int}(he:e=0):(Jr f,Ju f)=(Vx e q,Wm e q):=by
 rw[he,(XQ h).1,(XQ h).2]
theorem Dz.div{f g:Az}{p q:Rat}(hf:Dz f p)(hg:Dz g q)(sp:JR 4000 p)(sq:JR 4000 q)(si:JR 4000 q⁻¹)(h0:q≠0):Dz (MV f g) (p/q):=by
 rw[Rat.div_def];exact Dz.mul hf (Dz.inv hg sq h0) sp si
theorem Mh(x y:Int):qd [x,y]=if x≠0 then x else y:=by
 by_cases h:x≠0
 ·rw[wd h];unfold qd
  simp[h]
 ·rw[wc h];have h:x=0:=by omega
  subst h;unfold qd qd qd
  simp;intro k;exact k.symm
theorem mE(n:Int):Cv n=[]:=by unfold Cv;split<;>rfl
theorem RG{n:Int}(h:CG n=true):A6 (n,Cv n)=true/\zw (n,Cv n)=n:=by
 rw[mE];have hr:=Eh h;refine⟨?_,Bl rfl⟩;unfold A6;rw[show Dh (n,([]:List Int))=true from KK h,yp];rfl
theorem pY(n:Int)(h:CG n=true):Dz ((n,Cv n),(1,Cv 1)) (n:Rat):=by
 obtain⟨h1,h2⟩:=RG h;obtain⟨h3,h4⟩:=RG (n:=1) rfl;exact⟨(BU h1).1,(BU h3).1,h2.trans (qo n).symm,h4.trans rfl⟩
theorem vL(n:Int)(h:n.natAbs<10^20):E1 20 (n:Rat):=by
 unfold E1;rw[qo,Rat.den_intCast];exact⟨h,by decide⟩
namespace T16
theorem Aj{Q:PV->Ob->Prop}(l:List (List UInt8))(hl:l.length<=1000):∀(r:List (List UInt8)) (i:Nat),l.drop i=r->i<=l.length->(∀ob,Q (.bl (H7 r)) ob)->Ends pM (L1 l (i:Int)) Q
 |[],i,h,hi,hq=>by
  have:=drop_nil h hi;exact ym (Ar ..) (zt (w8 (by omega)) (zl (hq _)))
 |x::r,i,h,hi,hq=>by
  obtain⟨g1,g2,g3⟩:=drop_cons (d:=([]:List UInt8)) h;have e1:zc .i64 ((i:Int)+1)=((i+1:Nat):Int):=by rw[wr _ (by omega) (by omega)];omega
  have eb:H7 (x::r)=(decide (x.length<=1300)&&H7 r):=rfl;rw[eb]at hq;refine ym (Ar ..) ?_;conv=>zeta
  rw[zp,g2,e1];refine ze (w4 (by omega)) (ze (Aa (w4 (by omega)) (w4 (by omega))) (zy (fun c=>zl ?_) (fun c=>Aj l hl r (i+1) g3 g1 ?_)))
  ·have c:=w6 c;rw[w8 (show ¬x.length<=1300 by omega)]at hq;exact hq _
  ·have c:=w7 c;rw[w4 (show x.length<=1300 by omega)]at hq;exact hq
theorem ok:Ag Bg 16 jA:=by
 refine B1 Rm (fun(l:List (List UInt8)) hi=>?_);exact z7 (Am l) (Aj l (w6 hi) l 0 rfl (Nat.zero_le _) (fun ob=>ye rfl rfl rfl))
end T16
section
open List Int Prod
namespace T27
def T(a b:List UInt8):Tr:=tree qR false 9 27 (Af ([zj,zj]) (a,b))
def L1(v0 v1:List UInt8):Tr:=re ((T [] []).L.L.L.R) (AG 63 [(0,.dat zj v0),(1,.dat zj v1)] [] 0)
theorem Am(a b:List UInt8):T a b=let a':=zc .i64 (zc .i64 (dP a*Uo b)+zc .i64 (dP b*Uo a));let b':=zc .i64 (Uo a*Uo b);.ite (Bh a) (.ite (Bh b) (.ite (DQ a) (.ite (DQ b) (.ite (CG a'&&CG b'&&decide (zc .i64 (Uo a*Uo b)≠0)) (.leaf (.dat zj (CM a' b')) []) .fail) (L1 a b)) (L1 a b)) .fail) .fail:=by kernel_rfl
theorem Ar(v0 v1:List UInt8):stepT qR (L1 v0 v1)=let b':=(Hs (Bo v0,Bi v0) (A8 v1,A5 v1),HD (Bo v0,Bi v0) (A8 v1,A5 v1));let c':=(Hs (Bo v1,Bi v1) (A8 v0,A5 v0),HD (Bo v1,Bi v1) (A8 v0,A5 v0));let d':=(Hs (A8 v0,A5 v0) (A8 v1,A5 v1),HD (A8 v0,A5 v0) (A8 v1,A5 v1));let a':=(Mo b' c',ME b' c');.ite (FL v0) (.ite (FL v1) (.ite (Ci (Bo v0,Bi v0)&&Ci (A8 v1,A5 v1)) (.ite (Ci (Bo v1,Bi v1)&&Ci (A8 v0,A5 v0)) (.ite (Ci b'&&Ci c') (.ite (Ci (A8 v0,A5 v0)&&Ci (A8 v1,A5 v1)) (.ite (Ci a'&&Ci d'&&decide (Sp.vR d'≠0)) (.leaf (.dat zj (HM a' d')) ([(zn (zn (zn 0 1) 1) 1,.box [.dat zk (A8 v1),.dat (zg i64) (A5 v1)]),(zn (zn 0 1) 1,.box [.dat zk (Bo v1),.dat (zg i64) (Bi v1)]),(zn 0 1,.box [.dat zk (A8 v0),.dat (zg i64) (A5 v0)]),(0,.box [.dat zk (Bo v0),.dat (zg i64) (Bi v0)])])) .fail) .fail) .fail) .fail) .fail) .fail) .fail:=by kernel_rfl
end T27
namespace T29
def T(a b:List UInt8):Tr:=tree qR false 9 29 (Af ([zj,zj]) (a,b))
def L1(v0 v1:List UInt8):Tr:=re ((T [] []).L.L.L.R) (AG 55 [(0,.dat zj v0),(1,.dat zj v1)] [] 0)
theorem Am(a b:List UInt8):T a b=let a':=zc .i64 (dP a*dP b);let b':=zc .i64 (Uo a*Uo b);.ite (Bh a) (.ite (Bh b) (.ite (DQ a) (.ite (DQ b) (.ite (CG a'&&CG b'&&decide (zc .i64 (Uo a*Uo b)≠0)) (.leaf (.dat zj (CM a' b')) []) .fail) (L1 a b)) (L1 a b)) .fail) .fail:=by kernel_rfl
theorem Ar(v0 v1:List UInt8):stepT qR (L1 v0 v1)=let a':=(Hs (A8 v0,A5 v0) (A8 v1,A5 v1),HD (A8 v0,A5 v0) (A8 v1,A5 v1));let b':=(Hs (Bo v0,Bi v0) (Bo v1,Bi v1),HD (Bo v0,Bi v0) (Bo v1,Bi v1));.ite (FL v0) (.ite (FL v1) (.ite (Ci (Bo v0,Bi v0)&&Ci (Bo v1,Bi v1)) (.ite (Ci (A8 v0,A5 v0)&&Ci (A8 v1,A5 v1)) (.ite (Ci b'&&Ci a'&&decide (Sp.vR a'≠0)) (.leaf (.dat zj (HM b' a')) ([(zn (zn (zn 0 1) 1) 1,.box [.dat zk (A8 v1),.dat (zg i64) (A5 v1)]),(zn (zn 0 1) 1,.box [.dat zk (Bo v1),.dat (zg i64) (Bi v1)]),(zn 0 1,.box [.dat zk (A8 v0),.dat (zg i64) (A5 v0)]),(0,.box [.dat zk (Bo v0),.dat (zg i64) (Bi v0)])])) .fail) .fail) .fail) .fail) .fail:=by kernel_rfl
end T29
namespace T94
def T(a:List UInt8):Tr:=tree qR false 9 94 (Af ([zj]) a)
theorem Am(a:List UInt8):T a=.ite (FL a) (.ite (Ci (A8 a,A5 a)&&Ci (Bo a,Bi a)&&decide (Sp.vR (Bo a,Bi a)≠0)) (.leaf (.dat zj (HM (A8 a,A5 a) (Bo a,Bi a))) ([(zn 0 1,.box [.dat zk (A8 a),.dat (zg i64) (A5 a)]),(0,.box [.dat zk (Bo a),.dat (zg i64) (Bi a)])])) .fail) .fail:=by kernel_rfl
end T94
namespace T28
def T(a b:List UInt8):Tr:=tree yW false 9 28 (Af ([zj,zj]) (a,b))
theorem Am(a b:List UInt8):T a b=.ite (decide (length b<=1000000)) (.ite (Bh a&&Bh (KL b)) (.leaf (.dat zj (D0 a (KL b))) []) .fail) .fail:=by kernel_rfl
end T28
namespace T26
def T(a b:List UInt8):Tr:=tree yW false 9 26 (Af ([zj,zj]) (a,b))
theorem Am(a b:List UInt8):T a b=.ite (ZZ b) (.ite (Bh a&&Bh (P8 b)) (.leaf (.dat zj (Gz a (P8 b))) []) .fail) .fail:=by kernel_rfl
end T26
namespace T30
def T(a b:List UInt8):Tr:=tree xY false 9 30 (Af ([zj,zj]) (a,b))
theorem Am(a b:List UInt8):T a b=.ite (Bh a&&FI b) (.ite (decide (length (HT a b)<=1000000)) (.leaf (.dat i64 (FA (HT a b))) []) .fail) .fail:=by kernel_rfl
end T30
namespace T43
def T(a:List UInt8):Tr:=tree xY false 9 43 (Af ([zj]) a)
theorem Am(a:List UInt8):T a=.ite (decide (length a<=1000000)) (.leaf (.dat zk (AX a==(length a:Int))) []) .fail:=by kernel_rfl
end T43
namespace T93
def T(a:List UInt8):Tr:=tree xY false 9 93 (Af ([zj]) a)
theorem Am(a:List UInt8):T a=let a':=decide (length a<=1000000);let b':Tr:=.leaf (.dat i64 (4:Int)) [];.ite a' (.ite (decide (length (Ay a)<=1000000)) (.ite (decide ((↑(length (AY (Ay a))):Int)>600)) b' (.ite a' (.ite (decide ((↑(length (P6 a)):Int)>600)) b' (.leaf (.dat i64 (0:Int)) [])) .fail)) .fail) .fail:=by kernel_rfl
end T93
namespace T113
def T(a:List UInt8):Tr:=tree XR9 false 9 113 (Af ([zj]) a)
theorem Am(a:List UInt8):T a=let a':=(IJ (Bo a,Bi a) (A8 a,A5 a),H4 (Bo a,Bi a) (A8 a,A5 a));.ite (decide (length a<=1000000)) (.ite (PN a) (.leaf (.dat zj a) []) (.ite (FL a) (.ite (Ci (Bo a,Bi a)&&Ci (A8 a,A5 a)&&decide (0<Sp.vR (A8 a,A5 a))) (.ite (Ci a') (.leaf (.dat zj (HL a')) ([(zn 0 1,.box [.dat zk (A8 a),.dat (zg i64) (A5 a)]),(0,.box [.dat zk (Bo a),.dat (zg i64) (Bi a)])])) .fail) .fail) .fail)) .fail:=by kernel_rfl
end T113
namespace T229
def T(a:List Int)(i:Int):Tr:=tree zX false 9 229 (Af ([zg i64,zq yb]) (a,i))
theorem Am(a:List Int)(i:Int):T a i=.ite (decide (i<(length a:Int))) (.ite (decide (0<=i)&&decide (i<(length a:Int))) (.leaf (.dat i64 (getD a (toNat i) 0)) []) .fail) (.leaf (.dat i64 (0:Int)) []):=by kernel_rfl
end T229
namespace T169
def T(a b:List Int):Tr:=tree U0 false 9 169 (Af ([zg i64,zg i64]) (a,b))
def L1(v0 v1:List Int)(v6 v7:Int):Tr:=re ((T [] [])) (AG 42 [(0,.dat (zg i64) v0),(1,.dat (zg i64) v1),(5,.nil),(6,.dat i64 v6),(7,.dat i64 v7)] [] 0)
theorem Am(a b:List Int):T a b=L1 a b 0 0:=by kernel_rfl
def L2(v0 v1:List Int)(v5n:Nat)(v6 v7:Int)(o0:List Int):Tr:=re ((stepT U0 (L1 [] [] 0 0)).L.L.L.L.L.L) (AG 42 [(0,.dat (zg i64) v0),(1,.dat (zg i64) v1),(5,.sl 0 1 0 v5n none),(6,.dat i64 v6),(7,.dat i64 v7)] [(0,.arr false 3 i64 o0)] 1)
theorem Ar(v0 v1:List Int)(v6 v7:Int):stepT U0 (L1 v0 v1 v6 v7)=.ite (decide (v7<(length v0:Int))) (.ite (decide (0<=v7)) (.ite (decide (0<=v7)) (.ite true (.ite (decide (1<=1)&&decide (0<1)&&decide ((2*1+1000)*8<=281474976710656)) (.ite true (L2 v0 v1 1 (zc .i64 (yu (zc .i64 (zc .i64 (HR v0 v7+HR v1 v7)+v6)) 1000000000)) (zc .i64 (v7+1)) ([yf (zc .i64 (zc .i64 (HR v0 v7+HR v1 v7)+v6)) 1000000000])) .fail) .fail) .fail) .fail) .fail) (.ite (decide (v7<(length v1:Int))) (.ite (decide (0<=v7)) (.ite (decide (0<=v7)) (.ite true (.ite (decide (1<=1)&&decide (0<1)&&decide ((2*1+1000)*8<=281474976710656)) (.ite true (L2 v0 v1 1 (zc .i64 (yu (zc .i64 (zc .i64 (HR v0 v7+HR v1 v7)+v6)) 1000000000)) (zc .i64 (v7+1)) ([yf (zc .i64 (zc .i64 (HR v0 v7+HR v1 v7)+v6)) 1000000000])) .fail) .fail) .fail) .fail) .fail) (.ite (decide (v6>0)) (.ite (decide (0<=v7)) (.ite (decide (0<=v7)) (.ite true (.ite (decide (1<=1)&&decide (0<1)&&decide ((2*1+1000)*8<=281474976710656)) (.ite true (L2 v0 v1 1 (zc .i64 (yu (zc .i64 (zc .i64 (HR v0 v7+HR v1 v7)+v6)) 1000000000)) (zc .i64 (v7+1)) ([yf (zc .i64 (zc .i64 (HR v0 v7+HR v1 v7)+v6)) 1000000000])) .fail) .fail) .fail) .fail) .fail) (.leaf .nil []))):=by kernel_rfl
theorem AZ(v0 v1:List Int)(v5n:Nat)(v6 v7:Int)(o0:List Int):stepT U0 (L2 v0 v1 v5n v6 v7 o0)=.ite (decide (v7<(length v0:Int))) (.ite (decide (0<=v7)) (.ite (decide (0<=v7)) (.ite true (.ite (decide (1<=1)&&true&&decide (v5n=length o0)&&decide ((2*(v5n+1)+1000)*8<=281474976710656)) (.ite true (L2 v0 v1 (zn v5n 1) (zc .i64 (yu (zc .i64 (zc .i64 (HR v0 v7+HR v1 v7)+v6)) 1000000000)) (zc .i64 (v7+1)) (o0++[yf (zc .i64 (zc .i64 (HR v0 v7+HR v1 v7)+v6)) 1000000000])) .fail) .fail) .fail) .fail) .fail) (.ite (decide (v7<(length v1:Int))) (.ite (decide (0<=v7)) (.ite (decide (0<=v7)) (.ite true (.ite (decide (1<=1)&&true&&decide (v5n=length o0)&&decide ((2*(v5n+1)+1000)*8<=281474976710656)) (.ite true (L2 v0 v1 (zn v5n 1) (zc .i64 (yu (zc .i64 (zc .i64 (HR v0 v7+HR v1 v7)+v6)) 1000000000)) (zc .i64 (v7+1)) (o0++[yf (zc .i64 (zc .i64 (HR v0 v7+HR v1 v7)+v6)) 1000000000])) .fail) .fail) .fail) .fail) .fail) (.ite (decide (v6>0)) (.ite (decide (0<=v7)) (.ite (decide (0<=v7)) (.ite true (.ite (decide (1<=1)&&true&&decide (v5n=length o0)&&decide ((2*(v5n+1)+1000)*8<=281474976710656)) (.ite true (L2 v0 v1 (zn v5n 1) (zc .i64 (yu (zc .i64 (zc .i64 (HR v0 v7+HR v1 v7)+v6)) 1000000000)) (zc .i64 (v7+1)) (o0++[yf (zc .i64 (zc .i64 (HR v0 v7+HR v1 v7)+v6)) 1000000000])) .fail) .fail) .fail) .fail) .fail) (.leaf (.sl 0 1 0 v5n none) ([(0,.arr false 3 i64 o0)])))):=by kernel_rfl
end T169
namespace T171
def T(a b:List Int):Tr:=tree U0 false 9 171 (Af ([zg i64,zg i64]) (a,b))
def L1(v0 v1:List Int)(v6 v7:Int):Tr:=re ((T [] [])) (AG 35 [(0,.dat (zg i64) v0),(1,.dat (zg i64) v1),(5,.nil),(6,.dat i64 v6),(7,.dat i64 v7)] [] 0)
theorem Am(a b:List Int):T a b=L1 a b 0 0:=by kernel_rfl
def L2(v0 v1:List Int)(v5n:Nat)(v6 v7:Int)(o0:List Int):Tr:=re ((stepT U0 (L1 [] [] 0 0)).L.L.L.L.L) (AG 35 [(0,.dat (zg i64) v0),(1,.dat (zg i64) v1),(5,.sl 0 1 0 v5n none),(6,.dat i64 v6),(7,.dat i64 v7)] [(0,.arr false 3 i64 o0)] 1)
theorem Ar(v0 v1:List Int)(v6 v7:Int):stepT U0 (L1 v0 v1 v6 v7)=.ite (decide (v7<(length v0:Int))) (.ite (decide (0<=v7)&&decide (v7<(length v0:Int))) (.ite (decide (0<=v7)) (.ite (decide (zc .i64 (zc .i64 (getD v0 (toNat v7) 0-HR v1 v7)-v6)<0)) (.ite (decide (1<=1)&&decide (0<1)&&decide ((2*1+1000)*8<=281474976710656)) (L2 v0 v1 1 1 (zc .i64 (v7+1)) ([zc .i64 (zc .i64 (zc .i64 (getD v0 (toNat v7) 0-HR v1 v7)-v6)+1000000000)])) .fail) (.ite (decide (1<=1)&&decide (0<1)&&decide ((2*1+1000)*8<=281474976710656)) (L2 v0 v1 1 0 (zc .i64 (v7+1)) ([zc .i64 (zc .i64 (getD v0 (toNat v7) 0-HR v1 v7)-v6)])) .fail)) .fail) .fail) (.ite true (.leaf (.dat (zg i64) (Aq [])) []) .fail):=by kernel_rfl
theorem AZ(v0 v1:List Int)(v5n:Nat)(v6 v7:Int)(o0:List Int):stepT U0 (L2 v0 v1 v5n v6 v7 o0)=.ite (decide (v7<(length v0:Int))) (.ite (decide (0<=v7)&&decide (v7<(length v0:Int))) (.ite (decide (0<=v7)) (.ite (decide (zc .i64 (zc .i64 (getD v0 (toNat v7) 0-HR v1 v7)-v6)<0)) (.ite (decide (1<=1)&&true&&decide (v5n=length o0)&&decide ((2*(v5n+1)+1000)*8<=281474976710656)) (L2 v0 v1 (zn v5n 1) 1 (zc .i64 (v7+1)) (o0++[zc .i64 (zc .i64 (zc .i64 (getD v0 (toNat v7) 0-HR v1 v7)-v6)+1000000000)])) .fail) (.ite (decide (1<=1)&&true&&decide (v5n=length o0)&&decide ((2*(v5n+1)+1000)*8<=281474976710656)) (L2 v0 v1 (zn v5n 1) 0 (zc .i64 (v7+1)) (o0++[zc .i64 (zc .i64 (getD v0 (toNat v7) 0-HR v1 v7)-v6)])) .fail)) .fail) .fail) (.ite (decide (0+v5n<=length o0)&&true&&decide (length (take v5n o0)<=20000)) (.leaf (.dat (zg i64) (Aq (take v5n o0))) ([(0,.arr true 3 i64 o0)])) .fail):=by kernel_rfl
end T171
namespace T97
def T(a b:Bool×List Int):Tr:=tree wT false 9 97 (Af ([zx zk (zg i64),zx zk (zg i64)]) (a,b))
theorem Am(a b:Bool×List Int):T a b=.ite (fst a==fst b) (.ite (iI (snd a) (snd b)) (.ite (decide (length (Fu (snd a) (snd b))<=20000)) (.leaf (qq [.dat zk (BK (fst a) (Fu (snd a) (snd b))),.dat (zg i64) (Aq (Fu (snd a) (snd b)))]) ([(zn (zn 0 1) 1,.box [.dat zk (BK (fst a) (Fu (snd a) (snd b))),.dat (zg i64) (Aq (Fu (snd a) (snd b)))]),(zn 0 1,.box [.dat zk (fst b),.dat (zg i64) (snd b)]),(0,.box [.dat zk (fst a),.dat (zg i64) (snd a)])])) .fail) .fail) (.ite (A4 (snd a)&&A4 (snd b)) (.ite (decide (BZ (Ai (snd a)) (Ai (snd b))>=0)) (.ite (iI (snd a) (snd b)&&decide (Ai (snd b)<=Ai (snd a))) (.ite (decide (length (Gy (snd a) (snd b))<=20000)) (.leaf (qq [.dat zk (BK (fst a) (Gy (snd a) (snd b))),.dat (zg i64) (Aq (Gy (snd a) (snd b)))]) ([(zn (zn 0 1) 1,.box [.dat zk (BK (fst a) (Gy (snd a) (snd b))),.dat (zg i64) (Aq (Gy (snd a) (snd b)))]),(zn 0 1,.box [.dat zk (fst b),.dat (zg i64) (snd b)]),(0,.box [.dat zk (fst a),.dat (zg i64) (snd a)])])) .fail) .fail) (.ite (iI (snd b) (snd a)&&decide (Ai (snd a)<=Ai (snd b))) (.ite (decide (length (Gy (snd b) (snd a))<=20000)) (.leaf (qq [.dat zk (BK (fst b) (Gy (snd b) (snd a))),.dat (zg i64) (Aq (Gy (snd b) (snd a)))]) ([(zn (zn 0 1) 1,.box [.dat zk (BK (fst b) (Gy (snd b) (snd a))),.dat (zg i64) (Aq (Gy (snd b) (snd a)))]),(zn 0 1,.box [.dat zk (fst b),.dat (zg i64) (snd b)]),(0,.box [.dat zk (fst a),.dat (zg i64) (snd a)])])) .fail) .fail)) .fail):=by kernel_rfl
end T97
namespace T98
def T(a b:Bool×List Int):Tr:=tree wT false 9 98 (Af ([zx zk (zg i64),zx zk (zg i64)]) (a,b))
theorem Am(a b:Bool×List Int):T a b=.ite (Sp.hR (snd a)&&Sp.hR (snd b)) (.ite (decide (length (By (Ai (snd a)*Ai (snd b)))<=20000)) (.leaf (qq [.dat zk (BK (!fst a==fst b) (By (Ai (snd a)*Ai (snd b)))),.dat (zg i64) (Aq (By (Ai (snd a)*Ai (snd b))))]) ([(zn (zn 0 1) 1,.box [.dat zk (BK (!fst a==fst b) (By (Ai (snd a)*Ai (snd b)))),.dat (zg i64) (Aq (By (Ai (snd a)*Ai (snd b))))]),(zn 0 1,.box [.dat zk (fst b),.dat (zg i64) (snd b)]),(0,.box [.dat zk (fst a),.dat (zg i64) (snd a)])])) .fail) .fail:=by kernel_rfl
end T98
namespace T166
def T(a:Bool×List Int):Tr:=tree wT false 9 166 (Af ([zx zk (zg i64)]) a)
theorem Am(a:Bool×List Int):T a=.ite (decide (length (snd a)<=20000)) (.leaf (qq [.dat zk (BK (!fst a) (snd a)),.dat (zg i64) (Aq (snd a))]) ([(zn 0 1,.box [.dat zk (BK (!fst a) (snd a)),.dat (zg i64) (Aq (snd a))]),(0,.box [.dat zk (fst a),.dat (zg i64) (snd a)])])) .fail:=by kernel_rfl
end T166
namespace T177
def T(a b:Bool×List Int):Tr:=tree wT false 9 177 (Af ([zx zk (zg i64),zx zk (zg i64)]) (a,b))
theorem Am(a b:Bool×List Int):T a b=.ite (A4 (snd a)&&A4 (snd b)&&decide (length (snd a)<=9000)&&decide (length (snd b)<=9000)&&decide (0<Ai (snd b))) (.ite (fst a) (.ite (decide ((↑(length (By (Ai (snd a) % Ai (snd b)))):Int)>0)) (.ite (iI (By (Ai (snd a)/Ai (snd b))) [1]) (.ite (decide (length (Fu (By (Ai (snd a)/Ai (snd b))) [1])<=20000)) (.leaf (qq [.dat zk (BK (fst a) (Fu (By (Ai (snd a)/Ai (snd b))) [1])),.dat (zg i64) (Aq (Fu (By (Ai (snd a)/Ai (snd b))) [1]))]) ([(zn (zn (zn 0 1) 1) 1,.arr true 3 i64 [1]),(zn (zn 0 1) 1,.box [.dat zk (BK (fst a) (Fu (By (Ai (snd a)/Ai (snd b))) [1])),.dat (zg i64) (Aq (Fu (By (Ai (snd a)/Ai (snd b))) [1]))]),(zn 0 1,.box [.dat zk (fst b),.dat (zg i64) (snd b)]),(0,.box [.dat zk (fst a),.dat (zg i64) (snd a)])])) .fail) .fail) (.ite (decide (length (By (Ai (snd a)/Ai (snd b)))<=20000)) (.leaf (qq [.dat zk (BK (fst a) (By (Ai (snd a)/Ai (snd b)))),.dat (zg i64) (Aq (By (Ai (snd a)/Ai (snd b))))]) ([(zn (zn 0 1) 1,.box [.dat zk (BK (fst a) (By (Ai (snd a)/Ai (snd b)))),.dat (zg i64) (Aq (By (Ai (snd a)/Ai (snd b))))]),(zn 0 1,.box [.dat zk (fst b),.dat (zg i64) (snd b)]),(0,.box [.dat zk (fst a),.dat (zg i64) (snd a)])])) .fail)) (.ite (decide (length (By (Ai (snd a)/Ai (snd b)))<=20000)) (.leaf (qq [.dat zk (BK (fst a) (By (Ai (snd a)/Ai (snd b)))),.dat (zg i64) (Aq (By (Ai (snd a)/Ai (snd b))))]) ([(zn (zn 0 1) 1,.box [.dat zk (BK (fst a) (By (Ai (snd a)/Ai (snd b)))),.dat (zg i64) (Aq (By (Ai (snd a)/Ai (snd b))))]),(zn 0 1,.box [.dat zk (fst b),.dat (zg i64) (snd b)]),(0,.box [.dat zk (fst a),.dat (zg i64) (snd a)])])) .fail)) .fail:=by kernel_rfl
end T177
namespace T167
def T(a:Bool×List Int):Tr:=tree yG false 9 167 (Af ([zx zk (zg i64)]) a)
def L1(v3:List UInt8)(v4:Int)(o0:Bool)(o0_1:List Int):Tr:=re ((T (false,[])).R.L.L) (AG 39 [(1,.ptr 0 0),(3,.dat zj v3),(4,.dat i64 v4)] [(0,.box [.dat zk o0,.dat (zg i64) o0_1])] 1)
theorem Am(a:Bool×List Int):T a=.ite ((↑(length (snd a)):Int)==0) (.leaf (.dat zj [(48:UInt8)]) ([(0,.box [.dat zk (fst a),.dat (zg i64) (snd a)])])) (.ite (decide (0<=zc .i64 ((↑(length (snd a)):Int)-1))&&decide (zc .i64 ((↑(length (snd a)):Int)-1)<(↑(length (snd a)):Int))) (.ite (decide (0<=getD (snd a) (toNat (zc .i64 ((↑(length (snd a)):Int)-1))) 0)&&decide (getD (snd a) (toNat (zc .i64 ((↑(length (snd a)):Int)-1))) 0<9223372036854775808)&&decide (0<=1)&&decide (1<=20)) (L1 (HU (getD (snd a) (toNat (zc .i64 ((↑(length (snd a)):Int)-1))) 0) 1) (zc .i64 ((↑(length (snd a)):Int)-2)) (fst a) (snd a)) .fail) .fail):=by kernel_rfl
theorem Ar(v3:List UInt8)(v4:Int)(o0:Bool)(o0_1:List Int):stepT yG (L1 v3 v4 o0 o0_1)=.ite (decide (v4>=0)) (.ite (decide (0<=v4)&&decide (v4<(length o0_1:Int))) (.ite (decide (0<=getD o0_1 (toNat v4) 0)&&decide (getD o0_1 (toNat v4) 0<9223372036854775808)&&decide (0<=9)&&decide (9<=20)) (.ite (decide (length v3+length (HU (getD o0_1 (toNat v4) 0) 9)<=4611686018427387904)) (L1 (v3++HU (getD o0_1 (toNat v4) 0) 9) (zc .i64 (v4-1)) o0 o0_1) .fail) .fail) .fail) (.ite o0 (.ite (decide (1+length v3<=4611686018427387904)) (.leaf (.dat zj ([(45:UInt8)]++v3)) ([(0,.box [.dat zk o0,.dat (zg i64) o0_1])])) .fail) (.leaf (.dat zj v3) ([(0,.box [.dat zk o0,.dat (zg i64) o0_1])]))):=by kernel_rfl
end T167
namespace T96
def T(a b:Bool×List Int):Tr:=tree jI false 9 96 (Af ([zx zk (zg i64),zx zk (zg i64)]) (a,b))
def L1(o1:Bool)(o1_1:List Int)(o0:Bool)(o0_1:List Int):Tr:=re ((T (false,[]) (false,[])).L.L.L) (AG 57 [(2,.ptr 0 0),(3,.ptr 1 0)] [(1,.box [.dat zk o1,.dat (zg i64) o1_1]),(0,.box [.dat zk o0,.dat (zg i64) o0_1])] 2)
theorem Am(a b:Bool×List Int):T a b=.ite (fst b) (.ite (Ci (fst a,snd a)) (.ite (Ci (fst b,snd b)) (L1 (Rk (fst b,snd b)) (RC (fst b,snd b)) (Rk (fst a,snd a)) (RC (fst a,snd a))) .fail) .fail) (L1 (fst b) (snd b) (fst a) (snd a)):=by kernel_rfl
def L2(v8:List Int)(v10:List UInt8):Tr:=re ((stepT jI (L1 false [] false [])).L.L.L.L.L) (AG 57 [(8,.dat (zg i64) v8),(10,.dat zj v10)] [] 0)
theorem Ar(o1:Bool)(o1_1:List Int)(o0:Bool)(o0_1:List Int):stepT jI (L1 o1 o1_1 o0 o0_1)=.ite (A4 o0_1&&A4 o1_1&&decide (length o0_1<=9000)&&decide (length o1_1<=9000)) (.ite (A4 o0_1&&A4 (Cf o0_1 o1_1)&&decide (length o0_1<=9000)&&decide (length (Cf o0_1 o1_1)<=9000)&&decide (0<Ai (Cf o0_1 o1_1))) (.ite (A4 o1_1&&A4 (Cf o0_1 o1_1)&&decide (length o1_1<=9000)&&decide (length (Cf o0_1 o1_1)<=9000)&&decide (0<Ai (Cf o0_1 o1_1))) (.ite (decide (length (By (Ai o0_1/Ai (Cf o0_1 o1_1)))<=20000)) (.ite (Ci (BK o0 (By (Ai o0_1/Ai (Cf o0_1 o1_1))),Aq (By (Ai o0_1/Ai (Cf o0_1 o1_1))))) (L2 (By (Ai o1_1/Ai (Cf o0_1 o1_1))) (HL (BK o0 (By (Ai o0_1/Ai (Cf o0_1 o1_1))),Aq (By (Ai o0_1/Ai (Cf o0_1 o1_1)))))) .fail) .fail) .fail) .fail) .fail:=by kernel_rfl
def L3(v8:List Int)(v10:List UInt8):Tr:=re ((stepT jI (L2 [] [])).L.L.R) (AG 57 [(8,.dat (zg i64) v8),(10,.dat zj v10)] [] 0)
theorem AZ(v8:List Int)(v10:List UInt8):stepT jI (L2 v8 v10)=.ite ((length v8:Int)==1) (.ite (decide (0<(length v8:Int))) (.ite (getD v8 0 0==1) (.leaf (.dat zj v10) []) (L3 v8 v10)) .fail) (L3 v8 v10):=by kernel_rfl
theorem C2(v8:List Int)(v10:List UInt8):stepT jI (L3 v8 v10)=.ite (decide (length v10+1<=4611686018427387904)) (.ite (decide (length v8<=20000)) (.ite (Ci (BK false v8,Aq v8)) (.ite (decide (length (v10++[(47:UInt8)])+length (HL (BK false v8,Aq v8))<=4611686018427387904)) (.leaf (.dat zj (v10++[(47:UInt8)]++HL (BK false v8,Aq v8))) []) .fail) .fail) .fail) .fail:=by kernel_rfl
end T96
namespace T36
def T(n d:Int):Tr:=tree Z1 false 9 36 (Af ([zq yb,zq yb]) (n,d))
def L1(v0 v1:Int):Tr:=re ((T 0 0).R.R.R.R) (AG 61 [(0,.dat i64 v0),(1,.dat i64 v1)] [] 0)
theorem Am(n d:Int):T n d=.ite (decide (n<(-4000000000000000000))) (.ite (CG n) (.ite (CG d) (.ite (Ci (yv n,yw n)&&Ci (yv d,yw d)&&decide (Sp.vR (yv d,yw d)≠0)) (.leaf (.dat zj (HM (yv n,yw n) (yv d,yw d))) []) .fail) .fail) .fail) (.ite (decide (n>4000000000000000000)) (.ite (CG n) (.ite (CG d) (.ite (Ci (yv n,yw n)&&Ci (yv d,yw d)&&decide (Sp.vR (yv d,yw d)≠0)) (.leaf (.dat zj (HM (yv n,yw n) (yv d,yw d))) []) .fail) .fail) .fail) (.ite (decide (d<(-4000000000000000000))) (.ite (CG n) (.ite (CG d) (.ite (Ci (yv n,yw n)&&Ci (yv d,yw d)&&decide (Sp.vR (yv d,yw d)≠0)) (.leaf (.dat zj (HM (yv n,yw n) (yv d,yw d))) []) .fail) .fail) .fail) (.ite (decide (d>4000000000000000000)) (.ite (CG n) (.ite (CG d) (.ite (Ci (yv n,yw n)&&Ci (yv d,yw d)&&decide (Sp.vR (yv d,yw d)≠0)) (.leaf (.dat zj (HM (yv n,yw n) (yv d,yw d))) []) .fail) .fail) .fail) (L1 n d)))):=by kernel_rfl
def L2(v0 v1:Int):Tr:=re ((stepT Z1 (L1 0 0)).L) (AG 61 [(0,.dat i64 v0),(1,.dat i64 v1)] [] 0)
theorem Ar(v0 v1:Int):stepT Z1 (L1 v0 v1)=.ite (decide (v1<0)) (L2 (zc .i64 (0-v0)) (zc .i64 (0-v1))) (L2 v0 v1):=by kernel_rfl
def L3(v0 v1:Int):Tr:=re ((stepT Z1 (L2 0 0)).L.L.L) (AG 61 [(0,.dat i64 v0),(1,.dat i64 v1)] [] 0)
theorem AZ(v0 v1:Int):stepT Z1 (L2 v0 v1)=.ite (vW (imax v0 (zc .i64 (0-v0))) v1) (.ite (decide (Sp.gI (imax v0 (zc .i64 (0-v0))) v1≠0)) (.ite (decide (Sp.gI (imax v0 (zc .i64 (0-v0))) v1≠0)) (L3 (zc .i64 (yu v0 (Sp.gI (imax v0 (zc .i64 (0-v0))) v1))) (zc .i64 (yu v1 (Sp.gI (imax v0 (zc .i64 (0-v0))) v1)))) .fail) .fail) .fail:=by kernel_rfl
def L4(v1:Int)(v6:List UInt8):Tr:=re ((stepT Z1 (L3 0 0)).L.L.L) (AG 61 [(1,.dat i64 v1),(6,.dat zj v6)] [] 0)
theorem C2(v0 v1:Int):stepT Z1 (L3 v0 v1)=.ite (decide (v0<0)) (.ite (decide (0<=imax v0 (zc .i64 (0-v0)))&&decide (imax v0 (zc .i64 (0-v0))<9223372036854775808)&&decide (0<=1)&&decide (1<=20)) (.ite (decide (1+length (HU (imax v0 (zc .i64 (0-v0))) 1)<=4611686018427387904)) (L4 v1 ([(45:UInt8)]++HU (imax v0 (zc .i64 (0-v0))) 1)) .fail) .fail) (.ite (decide (0<=imax v0 (zc .i64 (0-v0)))&&decide (imax v0 (zc .i64 (0-v0))<9223372036854775808)&&decide (0<=1)&&decide (1<=20)) (.ite (decide (0+length (HU (imax v0 (zc .i64 (0-v0))) 1)<=4611686018427387904)) (L4 v1 ([]++HU (imax v0 (zc .i64 (0-v0))) 1)) .fail) .fail):=by kernel_rfl
theorem DD(v1:Int)(v6:List UInt8):stepT Z1 (L4 v1 v6)=.ite (decide (v1>1)) (.ite (decide (length v6+1<=4611686018427387904)) (.ite (decide (0<=v1)&&decide (v1<9223372036854775808)&&decide (0<=1)&&decide (1<=20)) (.ite (decide (length (v6++[(47:UInt8)])+length (HU v1 1)<=4611686018427387904)) (.leaf (.dat zj (v6++[(47:UInt8)]++HU v1 1)) []) .fail) .fail) .fail) (.leaf (.dat zj v6) []):=by kernel_rfl
end T36
namespace T108
def T(a b:Int):Tr:=tree M5 false 9 108 (Af ([zq yb,zq yb]) (a,b))
def L1(v0 v1:Int):Tr:=re ((T 0 0)) (AG 12 [(0,.dat i64 v0),(1,.dat i64 v1)] [] 0)
theorem Am(a b:Int):T a b=L1 a b:=by kernel_rfl
theorem Ar(v0 v1:Int):stepT M5 (L1 v0 v1)=.ite (decide (v1>0)) (.ite (decide (v1≠0)) (L1 v1 (yf v0 v1)) .fail) (.leaf (.dat i64 v0) []):=by kernel_rfl
end T108
namespace T41
def T(s:List UInt8):Tr:=tree M5 false 9 41 (Af ([zj]) s)
theorem Am(s:List UInt8):T s=let a':Tr:=.leaf (.dat i64 (1:Int)) [];.ite (s==[(48:UInt8)]) (.leaf (.dat i64 (0:Int)) []) (.ite (decide ((length s:Int)>0)) (.ite (decide (0<(length s:Int))) (.ite ((↑(UInt8.toNat (getD s 0 (0:UInt8))):Int)==45) (.leaf (.dat i64 (-1:Int)) []) a') .fail) a'):=by kernel_rfl
end T41
namespace T99
def T(s:List UInt8):Tr:=tree XO2 false 9 99 (Af ([zj]) s)
theorem Am(s:List UInt8):T s=let a':=decide (length s<=1000000);.ite a' (.ite (decide (FA s<0)) (.ite (decide (1<=length s)&&decide (length s<=length s)) (.leaf (.dat zj (take (yi (length s) 1) (drop 1 s))) []) .fail) (.ite a' (.ite (FA s==0) (.leaf (.dat zj s) []) (.ite (decide (1+length s<=4611686018427387904)) (.leaf (.dat zj ([(45:UInt8)]++s)) []) .fail)) .fail)) .fail:=by kernel_rfl
end T99
namespace T109
def T(n l:Int):Tr:=tree M5 false 9 109 (Af ([zq yb,zq yb]) (n,l))
def L1(v0 v1:Int)(v5:List UInt8):Tr:=re ((T 0 0)) (AG 25 [(0,.dat i64 v0),(1,.dat i64 v1),(5,.dat zj v5)] [] 0)
theorem Am(n l:Int):T n l=L1 n l []:=by kernel_rfl
theorem Ar(v0 v1:Int)(v5:List UInt8):stepT M5 (L1 v0 v1 v5)=let c':=zc .i64 (yf v0 10+1);let d':=toNat (yf v0 10);let b':=drop d' [(48:UInt8),(49:UInt8),(50:UInt8),(51:UInt8),(52:UInt8),(53:UInt8),(54:UInt8),(55:UInt8),(56:UInt8),(57:UInt8)];let a':Tr:=.ite true (.ite true (.ite (decide (0<=yf v0 10)&&decide (0<=zc .i64 (yf v0 10+1))&&decide (toNat (yf v0 10)<=toNat c')&&decide (toNat c'<=10)) (.ite (decide (length (take (yi (toNat c') d') b')+length v5<=4611686018427387904)) (.ite true (L1 (zc .i64 (yu v0 10)) v1 (take (yi (toNat c') d') b'++v5)) .fail) .fail) .fail) .fail) .fail;.ite (decide (v0>0)) a' (.ite (decide ((length v5:Int)<v1)) a' (.leaf (.dat zj v5) [])):=by kernel_rfl
end T109
namespace T95
def T(s:List UInt8):Tr:=tree Na false 9 95 (Af ([zj]) s)
def L1(v5:List UInt8)(v6:Bool):Tr:=re ((T []).R.L.L) (AG 54 [(5,.dat zj v5),(6,.dat zk v6)] [] 0)
def L2(v5:List UInt8):Tr:=re ((T []).R.R) (AG 54 [(5,.dat zj v5),(6,.bl false)] [] 0)
theorem Am(s:List UInt8):T s=let a':=(length s:Int);.ite (decide (a'>20)) (.leaf (.tup [.dat i64 (0:Int),.dat i64 (0:Int),.bl false]) []) (.ite (decide (a'>0)) (.ite (decide (0<a')) (L1 s ((↑(UInt8.toNat (getD s 0 (0:UInt8))):Int)==45)) .fail) (L2 s)):=by kernel_rfl
def L3(v5:List UInt8)(v6:Bool):Tr:=re ((stepT Na (L1 [] false)).L.L) (AG 54 [(5,.dat zj v5),(6,.dat zk v6)] [] 0)
theorem Ar(v5:List UInt8)(v6:Bool):stepT Na (L1 v5 v6)=.ite v6 (.ite (decide (1<=length v5)&&decide (length v5<=length v5)) (L3 (take (yi (length v5) 1) (drop 1 v5)) v6) .fail) (L3 v5 v6):=by kernel_rfl
def L4(v5:List UInt8):Tr:=re ((stepT Na (L2 []))) (AG 54 [(5,.dat zj v5),(6,.bl false)] [] 0)
theorem AZ(v5:List UInt8):stepT Na (L2 v5)=L4 v5:=by kernel_rfl
def L5(v5:List UInt8)(v6:Bool)(v7 v8 v9:Int):Tr:=re ((stepT Na (L3 [] false)).L.R.R.L.L) (AG 54 [(5,.dat zj v5),(6,.dat zk v6),(7,.dat i64 v7),(8,.dat i64 v8),(9,.dat i64 v9)] [] 0)
theorem C2(v5:List UInt8)(v6:Bool):stepT Na (L3 v5 v6)=let a':Tr:=.leaf (.tup [.dat i64 (0:Int),.dat i64 (0:Int),.bl false]) [];let b':=AX v5;.ite (decide (length v5<=1000000)) (.ite (decide (AX v5>9)) a' (.ite (decide (zc .i64 ((length v5:Int)-AX v5)>10)) a' (.ite (decide (0<=AX v5)&&decide (0<=toNat b')&&decide (toNat b'<=length v5)) (.ite (DL (take (toNat b') v5)) (L5 v5 v6 b' (Bw (take (toNat b') v5)) 1) .fail) .fail))) .fail:=by kernel_rfl
def L6(v5:List UInt8)(v7 v8 v9:Int):Tr:=re ((stepT Na (L4 [])).L.R.R.L.L) (AG 54 [(5,.dat zj v5),(6,.bl false),(7,.dat i64 v7),(8,.dat i64 v8),(9,.dat i64 v9)] [] 0)
theorem DD(v5:List UInt8):stepT Na (L4 v5)=let a':Tr:=.leaf (.tup [.dat i64 (0:Int),.dat i64 (0:Int),.bl false]) [];let b':=AX v5;.ite (decide (length v5<=1000000)) (.ite (decide (AX v5>9)) a' (.ite (decide (zc .i64 ((length v5:Int)-AX v5)>10)) a' (.ite (decide (0<=AX v5)&&decide (0<=toNat b')&&decide (toNat b'<=length v5)) (.ite (DL (take (toNat b') v5)) (L6 v5 b' (Bw (take (toNat b') v5)) 1) .fail) .fail))) .fail:=by kernel_rfl
def L7(v6:Bool)(v8 v9:Int):Tr:=re ((stepT Na (L5 [] false 0 0 0)).L.L.L) (AG 54 [(6,.dat zk v6),(8,.dat i64 v8),(9,.dat i64 v9)] [] 0)
theorem GO(v5:List UInt8)(v6:Bool)(v7 v8 v9:Int):stepT Na (L5 v5 v6 v7 v8 v9)=let b':=zc .i64 (v7+1);let a':=take (yi (length v5) (toNat b')) (drop (toNat b') v5);.ite (decide (v7<(length v5:Int))) (.ite (decide (0<=zc .i64 (v7+1))&&true&&decide (toNat b'<=length v5)&&decide (length v5<=length v5)) (.ite (DL a') (L7 v6 v8 (Bw a')) .fail) .fail) (L7 v6 v8 v9):=by kernel_rfl
def L8(v8 v9:Int):Tr:=re ((stepT Na (L6 [] 0 0 0)).L.L.L) (AG 54 [(6,.bl false),(8,.dat i64 v8),(9,.dat i64 v9)] [] 0)
theorem HP(v5:List UInt8)(v7 v8 v9:Int):stepT Na (L6 v5 v7 v8 v9)=let b':=zc .i64 (v7+1);let a':=take (yi (length v5) (toNat b')) (drop (toNat b') v5);.ite (decide (v7<(length v5:Int))) (.ite (decide (0<=zc .i64 (v7+1))&&true&&decide (toNat b'<=length v5)&&decide (length v5<=length v5)) (.ite (DL a') (L8 v8 (Bw a')) .fail) .fail) (L8 v8 v9):=by kernel_rfl
theorem F9(v6:Bool)(v8 v9:Int):stepT Na (L7 v6 v8 v9)=.ite v6 (.leaf (.tup [.dat i64 (zc .i64 (0-v8)),.dat i64 v9,.bl true]) []) (.leaf (.tup [.dat i64 v8,.dat i64 v9,.bl true]) []):=by kernel_rfl
theorem Jz(v8 v9:Int):stepT Na (L8 v8 v9)=.leaf (.tup [.dat i64 v8,.dat i64 v9,.bl true]) []:=by kernel_rfl
end T95
namespace T100
def T(a:List UInt8):Tr:=tree M5 false 9 100 (Af ([zj]) a)
theorem Am(a:List UInt8):T a=let a':Tr:=.ite (decide (1<=length a)&&decide (length a<=length a)) (.leaf (.dat zj (take (yi (length a) 1) (drop 1 a))) []) .fail;let b':Tr:=.ite false a' (.leaf (.dat zj a) []);.ite (a==[(48:UInt8)]) b' (.ite (decide ((length a:Int)>0)) (.ite (decide (0<(length a:Int))) (.ite ((↑(UInt8.toNat (getD a 0 (0:UInt8))):Int)==45) (.ite true a' (.leaf (.dat zj a) [])) b') .fail) b'):=by kernel_rfl
end T100
namespace T101
def T(a:List UInt8):Tr:=tree zL false 9 101 (Af ([zj]) a)
theorem Am(a:List UInt8):T a=.ite (decide (length a<=1000000)) (.ite (decide (0<=AX a)&&decide (0<=toNat (AX a))&&decide (toNat (AX a)<=length a)) (.leaf (.dat zj (take (toNat (AX a)) a)) []) .fail) .fail:=by kernel_rfl
end T101
namespace T102
def T(a:List UInt8):Tr:=tree zL false 9 102 (Af ([zj]) a)
theorem Am(a:List UInt8):T a=let a':=zc .i64 (AX a+1);.ite (decide (length a<=1000000)) (.ite (AX a==(length a:Int)) (.leaf (.dat zj [(49:UInt8)]) []) (.ite (decide (0<=zc .i64 (AX a+1))&&true&&decide (toNat a'<=length a)&&decide (length a<=length a)) (.leaf (.dat zj (take (yi (length a) (toNat a')) (drop (toNat a') a))) []) .fail)) .fail:=by kernel_rfl
end T102
namespace T31
def T(a:List UInt8)(n:Int):Tr:=tree zZ false 9 31 (Af ([zj,zq yb]) (a,n))
theorem Am(a:List UInt8)(n:Int):T a n=let a':=decide (length a<=1000000);let b':Tr:=.leaf (.bl false) [];.ite (decide ((length a:Int)<=zc .i64 (zc .i64 (2*n)+2))) (.ite a' (.ite (Au a==0) (.ite a' (.ite (decide (length (Ay a)<=1000000)) (.ite (decide ((↑(length (AY (Ay a))):Int)<=n)) (.ite a' (.leaf (.dat zk (decide ((↑(length (P6 a)):Int)<=n))) []) .fail) b') .fail) .fail) b') .fail) b':=by kernel_rfl
end T31
namespace T46
def T(a:List UInt8)(n:Int):Tr:=tree zU false 9 46 (Af ([zj,zq yb]) (a,n))
theorem Am(a:List UInt8)(n:Int):T a n=.ite (decide ((length a:Int)<=40)) (.ite (decide (length a<=1000000)) (.ite (Au a !=0) (.leaf (.bl true) []) (.ite (decide (0<=n)&&decide (n<=1000)) (.leaf (.dat zk (MY a n)) []) .fail)) .fail) (.leaf (.bl false) []):=by kernel_rfl
end T46
end
theorem XP:DM zL:=Ab T89.ok AP
theorem T100.ok:Ag Bg 100 XM:=by
 refine B1 Fa (fun(a:List UInt8) hl=>?_);have hl:a.length<=1000000:=w6 hl;have hq:∀s ob,s=AY a->Ad XM a (.dat .str s) ob:=fun s ob h=>ye rfl rfl h
 refine z7 (T100.Am a) (zy (fun c=>zt rfl (zl (hq _ _ ?_))) (fun c=>?_))
 ·have c:a=[48]:=by simpa using c
  subst c;rfl
 ·cases a with
  |nil=>exact zt rfl (zt rfl (zl (hq _ _ rfl)))
  |cons x r=>
   have g0:(x::r).getD 0 0=x:=rfl;have e:(jc 1 (x::r)).take (yi (x::r).length 1)=r:=by show r.take ((r.length+1)-1)=r;rw[yt];exact List.take_length
   rw[g0,e];refine ze (by simp) (ze (by simp) (zy (fun d=>ze rfl (ze (by simp) (zl (hq _ _ ?_)))) (fun d=>zt rfl (zl (hq _ _ ?_)))))
   ·have hc:x=45:=by
     have:(x.toNat:Int)=45:=by simpa using d
     exact UInt8.toNat_inj.1 (by show _=45;omega)
    unfold AY;rw[g0,wd hc];rfl
   ·have hc:x≠45:=by rintro rfl;exact wh d (by decide)
    unfold AY;rw[g0,wc hc]
theorem T101.ok:Ag Bg 101 fM:=by
 refine B1 XP (fun(a:List UInt8) hl=>?_);have hle:=(T77.CZ a).1;refine z7 (T101.Am a) (ze hl ?_);rw[show AX a=((Ay a).length:Int)from rfl,zp];exact ze (by simp;omega) (zl (ye rfl rfl (BG a).1.symm))
theorem T102.ok:Ag Bg 102 Xw:=by
 refine B1 XP (fun(a:List UInt8) hl=>?_);have hl':a.length<=1000000:=w6 hl;obtain⟨c1,c2,c3⟩:=BG a;have hq:∀s ob,s=P6 a->Ad Xw a (.dat .str s) ob:=fun s ob h=>ye rfl rfl h
 have hle:=(T77.CZ a).1;have es:AX a=((Ay a).length:Int):=rfl;refine z7 (T102.Am a) (ze hl ?_);rw[es];cases hc:Bn a with
 |false=>
  refine ze (by rw[(c3 hc).1];simp) (zl (hq _ _ ?_));unfold P6;rw[hc];rfl
 |true=>
  obtain⟨k1,k2⟩:=c2 hc;have e1:zc .i64 (((Ay a).length:Int)+1)=(((Ay a).length+1:Nat):Int):=by rw[wr _ (by omega) (by omega)];omega
  have e2:(a.drop ((Ay a).length+1)).take (yi a.length ((Ay a).length+1))=a.drop ((Ay a).length+1):=yd (by rw[yg];exact yz _);rw[e1,zp,e2];refine zt (by simp;omega) (ze (by simp;omega) (zl (hq _ _ ?_)));unfold P6;rw[hc,k2];rfl
theorem lN:DM zZ:=Ab T24.ok (Ab T100.ok (Ab T101.ok (Ab T102.ok AP)))
theorem T31.ok:Ag Bg 31 eV:=by
 refine B1 lN (fun(i:List UInt8×Int) hi=>?_);obtain⟨a,n⟩:=i;have hi:(decide (0<=n)&&decide (n<=1000))=true:=hi;rw[zh,w5,w5]at hi;obtain⟨h0,h1⟩:=hi;have hq:∀v b ob,v=.bl b\/v=.dat .bool b->b=MY a n->Ad eV (a,n) v ob:=by
  rintro v b ob (rfl|rfl) hb
  ·exact ye rfl rfl hb
  ·exact ye rfl rfl hb
 have e1:zc .i64 (zc .i64 (2*n)+2)=2*n+2:=by rw[wr (2*n) (by omega) (by omega)];exact wr _ (by omega) (by omega)
 have hle:=(T77.CZ a).1;refine z7 (T31.Am a n) ?_;conv=>zeta
 rw[e1];by_cases hl:a.length<=1000000
 case neg=>
  have c:decide ((a.length:Int)<=2*n+2)=false:=w8 (by omega);refine zt c (zl (hq _ _ _ (.inl rfl) ?_));unfold MY;rw[c];rfl
 refine zy (fun c=>ze (w4 hl) (zy (fun d=>ze (w4 hl) (ze (w4 (by omega)) (zy (fun e=>ze (w4 hl) (zl (hq _ _ _ (.inr rfl) ?_))) (fun e=>zl (hq _ _ _ (.inl rfl) ?_))))) (fun d=>zl (hq _ _ _ (.inl rfl) ?_)))) (fun c=>zl (hq _ _ _ (.inl rfl) ?_))
 ·have d:Au a=0:=by simpa using d
  unfold MY;rw[c,e,w4 d];rfl
 ·unfold MY;rw[e];simp
 ·have d:Au a≠0:=by simpa using d
  unfold MY;rw[w8 d];simp
 ·unfold MY;rw[c];rfl
theorem oP:DM zU:=Ab T24.ok (Ab T31.ok AP)
theorem T46.ok:Ag Bg 46 Mc:=by
 refine B1 oP (fun(i:List UInt8×Int) hi=>?_);obtain⟨a,n⟩:=i;have hi':(decide (0<=n)&&decide (n<=1000))=true:=hi;rw[zh,w5,w5]at hi';obtain⟨h0,h1⟩:=hi';have hq:∀v b ob,v=.bl b\/v=.dat .bool b->b=Bb a n->Ad Mc (a,n) v ob:=by
  rintro v b ob (rfl|rfl) hb
  ·exact ye rfl rfl hb
  ·exact ye rfl rfl hb
 refine z7 (T46.Am a n) (zy (fun c=>ze (w4 (by have:=w6 c;omega)) (zy (fun d=>zl (hq _ _ _ (.inl rfl) ?_)) (fun d=>ze (Aa (w4 h0) (w4 h1)) (zl (hq _ _ _ (.inr rfl) ?_))))) (fun c=>zl (hq _ _ _ (.inl rfl) ?_)))
 ·have c:=w6 c;have d:Au a≠0:=by simpa using d
  unfold Bb;rw[w4 (p:=a.length<=40) (by omega),w4 d];rfl
 ·have c:=w6 c;have d:Au a=0:=by simpa using d
  unfold Bb;rw[w4 (p:=a.length<=40) (by omega),w8 (fun h=>h d)];rfl
 ·have c:=w7 c;unfold Bb;rw[w8 (p:=a.length<=40) (by omega)];rfl
namespace T108
variable {Q:PV->Ob->Prop}
theorem Aj(g:Nat)(hq:∀ob,Q (.dat i64 (g:Int)) ob):∀(f x y:Nat),y<f->Nat.gcd x y=g->Ends M5 (L1 (x:Int) (y:Int)) Q
 |0,x,y,h,_=>by omega
 |f+1,x,y,hy,hg=>by
  refine ym (Ar ..) ?_;conv=>zeta
  by_cases h0:y=0
  ·subst h0;rw[Nat.gcd_zero_right]at hg;subst hg;exact zt rfl (zl (hq _))
  ·have e:yf (x:Int) (y:Int)=((x % y:Nat):Int):=by rw[qe (yq x)];rfl
   rw[e];have hlt:x % y<y:=qx _ (by omega);exact ze (by simp;omega) (ze (by simp;omega) (Aj g hq f y (x % y) (by omega) (by rw[Nat.gcd_comm, <-Nat.gcd_rec,Nat.gcd_comm];exact hg)))
theorem ok:Ag Bg 108 qF:=by
 refine B1 Fa (fun(i:Int×Int) hi=>?_);obtain⟨a,b⟩:=i;have hi:(decide (0<=a)&&decide (a<9223372036854775808)&&decide (0<=b)&&decide (b<9223372036854775808))=true:=hi;rw[zh,zh,zh,w5,w5,w5,w5]at hi;obtain⟨⟨⟨a0,_⟩,b0⟩,_⟩:=hi;obtain⟨x,rfl⟩:=yc a0;obtain⟨y,rfl⟩:=yc b0;refine z7 (Am x y) (Aj (Nat.gcd x y) (fun ob=>ye rfl rfl ?_) (y+1) x y (Nat.lt_succ_self _) rfl);show((Nat.gcd x y:Nat):Int)=Sp.gI (x:Int) (y:Int);rw[FQ];rfl
end T108
namespace T41
theorem ok:Ag Bg 41 Pf:=by
 refine B1 Fa (fun(s:List UInt8) hl=>?_);have hq:∀v ob,v=FA s->Ad Pf s (.dat i64 v) ob:=fun v ob hb=>ye rfl rfl hb
 refine z7 (Am s) (zy (fun c=>zl (hq _ _ ?_)) (fun c=>?_))
 ·have c:s=[48]:=by simpa using c
  unfold FA;rw[wd c]
 ·have c:¬s=[48]:=by simpa using c
  cases s with
  |nil=>exact zt rfl (zl (hq _ _ rfl))
  |cons x r=>
   have g0:(x::r).getD 0 0=x:=rfl;rw[g0];refine ze (by simp) (ze (by simp) (zy (fun d=>zl (hq _ _ ?_)) (fun d=>zl (hq _ _ ?_))))
   ·have hx:x=45:=by
     have:(x.toNat:Int)=45:=by simpa using d
     exact UInt8.toNat_inj.1 (by show _=45;omega)
    unfold FA;rw[wc c,g0,wd hx]
   ·have hx:x≠45:=by rintro rfl;exact wh d (by decide)
    unfold FA;rw[wc c,g0,wc hx]
end T41
theorem oC:DM XO2:=Ab T41.ok AP
theorem T99.ok:Ag Bg 99 bV:=by
 refine B1 oC (fun(s:List UInt8) hl=>?_);have hl:s.length<=1000000:=w6 hl;have hq:∀v ob,v=KL s->Ad bV s (.dat .str v) ob:=fun v ob hb=>ye rfl rfl hb
 refine z7 (T99.Am s) (ze (w4 hl) ?_);unfold KL at hq;unfold FA;by_cases c:s=[48]
 ·rw[wd c];rw[wd c]at hq;exact zt rfl (ze (w4 hl) (ze rfl (zl (hq _ _ rfl))))
 ·rw[wc c];rw[wc c]at hq;by_cases d:s.getD 0 0=45
  ·rw[wd d];rw[wd d]at hq;have hn:s≠[]:=by rintro rfl;exact wh d (by decide)
   have hp:1<=s.length:=y9.2 hn;refine ze rfl (ze (by simp;omega) (zl (hq _ _ ?_)));exact yd (by rw[yg];exact yz _)
  ·rw[wc d];rw[wc d]at hq;exact zt rfl (ze (w4 hl) (zt rfl (ze (by simp;omega) (zl (hq _ _ rfl)))))
namespace T109
theorem YS:∀k:Fin 10,qk (yi (k.1+1) k.1) (jc k.1 [(48:UInt8),49,50,51,52,53,54,55,56,57])=[yy (48+k.1)]:=by decide
theorem Aj{Q:PV->Ob->Prop}(l:Nat)(hl:l<=20):∀(f n:Nat) (acc:List UInt8),n<9223372036854775808->n<10^f->l<=acc.length+f->acc.length+f<=64->(∀ob,Q (.dat .str (HF (f+1) n l acc)) ob)->Ends M5 (L1 (n:Int) (l:Int) acc) Q:=by
 intro f;induction f with
 |zero=>
  intro n acc hn hf hle h64 hq;have h0:n=0:=by rw[Nat.pow_zero]at hf;omega
  subst h0;unfold HF at hq;rw[wd ⟨rfl,by omega⟩]at hq;exact ym (Ar ..) (zt rfl (zt (by simp;omega) (zl (hq _))))
 |succ f ih=>
  intro n acc hn hf hle h64 hq;have e1:yf (n:Int) 10=((n % 10:Nat):Int):=by rw[qe (yq n)];rfl
  have e2:zc .i64 (((n % 10:Nat):Int)+1)=((n % 10+1:Nat):Int):=by rw[wr _ (by omega) (by omega)];omega
  have e3:zc .i64 (yu (n:Int) 10)=((n/10:Nat):Int):=by rw[Int.tdiv_eq_ediv_of_nonneg (yq n),wr _ (by omega) (by omega)];rfl
  have hd:=YS ⟨n % 10,qx _ (by decide)⟩;have hd:qk (yi (n % 10+1) (n % 10)) (jc (n % 10) [(48:UInt8),49,50,51,52,53,54,55,56,57])=[yy (48+n % 10)]:=hd;have hm:n % 10<10:=qx _ (by decide);rw[qy]at hf;refine ym (Ar ..) ?_;conv=>zeta
  rw[e1,e2,e3,zp,zp,hd];by_cases hz:n=0/\l<=acc.length
  ·obtain⟨z1,z2⟩:=hz;subst z1;unfold HF at hq;rw[wd ⟨rfl,z2⟩]at hq;exact zt rfl (zt (by simp;omega) (zl (hq _)))
  ·have hq2:∀ob,Q (.dat .str (HF (f+1) (n/10) l (yy (48+n % 10)::acc))) ob:=by
    intro ob;have:=hq ob;unfold HF at this;rw[wc hz]at this;exact this
   have go:Ends M5 (L1 ((n/10:Nat):Int) (l:Int) ([yy (48+n % 10)]++acc)) Q:=ih (n/10) (yy (48+n % 10)::acc) (by omega) (by omega) (by rw[z8];omega) (by rw[z8];omega) hq2;refine zy (fun _=>?_) (fun c=>ze ?_ ?_)
   ·exact ze rfl (ze rfl (ze (by simp;omega) (ze (by simp;omega) (ze rfl go))))
   ·have c:=w7 c;exact w4 (by omega)
   ·exact ze rfl (ze rfl (ze (by simp;omega) (ze (by simp;omega) (ze rfl go))))
theorem ok:Ag Bg 109 N6:=by
 refine B1 Fa (fun(i:Int×Int) hi=>?_);obtain⟨a,b⟩:=i;have hi:(decide (0<=a)&&decide (a<9223372036854775808)&&decide (0<=b)&&decide (b<=20))=true:=hi;rw[zh,zh,zh,w5,w5,w5,w5]at hi;obtain⟨⟨⟨a0,a1⟩,b0⟩,b1⟩:=hi;obtain⟨x,rfl⟩:=yc a0;obtain⟨y,rfl⟩:=yc b0;refine z7 (Am x y) (Aj y (by omega) 63 x [] (by omega) (by omega) (by show y<=0+63;omega) (by decide) (fun ob=>ye rfl rfl ?_));show HF 64 x y []=HF 64 (x:Int).toNat (y:Int).toNat [];rw[zp,zp]
end T109
theorem lX:DM Na:=Ab T165.ok (Ab T89.ok AP)
namespace T95
variable {Q:PV->Ob->Prop}
theorem Cg(neg:Bool)(n d:Int)(h0:0<=n)(h1:n<1000000000)(hq:∀ob,Q (.tup [.dat i64 (if neg=true then -n else n),.dat i64 d,.bl true]) ob):Ends Na (L7 neg n d) Q:=by
 refine ym (F9 ..) ?_;conv=>zeta
 cases neg with
 |true=>
  refine ze rfl (zl ?_);rw[wr _ (by omega) (by omega),Int.zero_sub];exact hq _
 |false=>exact zt rfl (zl (hq _))
theorem Cq(s:List UInt8)(neg:Bool)(n:Int)(h0:0<=n)(h1:n<1000000000)(hl:s.length<=20)(lb:(yx s).length<=9)(db:Al (yx s)=true)(hq:∀ob,Q (.tup [.dat i64 (if neg=true then -n else n),.dat i64 (if Bn s=true then AB 0 (yx s)else 1),.bl true]) ob):Ends Na (L5 s neg (AX s) n 1) Q:=by
 obtain⟨c1,c2,c3⟩:=BG s;refine ym (GO ..) ?_;conv=>zeta
 have es:AX s=((Ay s).length:Int):=rfl;have hle:=(T77.CZ s).1;cases hc:Bn s with
 |true=>
  rw[hc]at hq;obtain⟨k1,k2⟩:=c2 hc;have e3:zc .i64 (AX s+1)=(((Ay s).length+1:Nat):Int):=by rw[es,wr _ (by omega) (by omega)];omega
  have hl2:(yx s).length=s.length-((Ay s).length+1):=by rw[k2,yg]
  have et:(yx s).take (yi s.length ((Ay s).length+1))=yx s:=yd (by show _<=s.length-_;omega);rw[e3,zp, <-k2,et];exact ze (by simp[es];omega) (ze (by simp;omega) (ze (T163.BW db (by omega)) (Cg neg n _ h0 h1 hq)))
 |false=>
  obtain⟨k1,k2⟩:=c3 hc;rw[hc]at hq;exact zt (by simp[es,k1]) (Cg neg n 1 h0 h1 hq)
theorem Cz(s:List UInt8)(neg:Bool)(hl:s.length<=20)(la:(Ay s).length<=9)(lb:(yx s).length<=9)(da:Al (Ay s)=true)(db:Al (yx s)=true)(hq:∀n ob,n=AB 0 (Ay s)->Q (.tup [.dat i64 (if neg=true then -n else n),.dat i64 (if Bn s=true then AB 0 (yx s)else 1),.bl true]) ob):Ends Na (L3 s neg ) Q:=by
 obtain⟨c1,c2,c3⟩:=BG s;have es:AX s=((Ay s).length:Int):=rfl;have hle:=(T77.CZ s).1;have hlen:s.length-(Ay s).length<=10:=by
  cases hc:Bn s with
  |true=>
   obtain⟨k1,k2⟩:=c2 hc;have:(yx s).length=s.length-((Ay s).length+1):=by rw[k2,yg]
   omega
  |false=>rw[(c3 hc).1];omega
 have et:qk (Int.toNat (AX s)) s=Ay s:=by rw[es,zp];exact c1.symm
 obtain⟨v0,v1⟩:=T163.Co da la;refine ym (C2 ..) ?_;conv=>zeta
 rw[et];refine ze (by simp;omega) (zt (by simp[es];omega) (zt ?_ (ze (by simp[es];omega) (ze (T163.BW da (by omega)) ?_))))
 ·rw[es,wr _ (by omega) (by omega)];exact w8 (by omega)
 ·exact Cq s neg (AB 0 (Ay s)) v0 v1 hl lb db (fun ob=>hq _ ob rfl)
theorem Fj(n d:Int)(hq:∀ob,Q (.tup [.dat i64 n,.dat i64 d,.bl true]) ob):Ends Na (L8 n d) Q:=by
 refine ym (Jz ..) ?_;conv=>zeta
 exact zl (hq _)
theorem EF(s:List UInt8)(n:Int)(hl:s.length<=20)(lb:(yx s).length<=9)(db:Al (yx s)=true)(hq:∀ob,Q (.tup [.dat i64 n,.dat i64 (if Bn s=true then AB 0 (yx s)else 1),.bl true]) ob):Ends Na (L6 s (AX s) n 1) Q:=by
 obtain⟨c1,c2,c3⟩:=BG s;refine ym (HP ..) ?_;conv=>zeta
 have es:AX s=((Ay s).length:Int):=rfl;have hle:=(T77.CZ s).1;cases hc:Bn s with
 |true=>
  rw[hc]at hq;obtain⟨k1,k2⟩:=c2 hc;have e3:zc .i64 (AX s+1)=(((Ay s).length+1:Nat):Int):=by rw[es,wr _ (by omega) (by omega)];omega
  have hl2:(yx s).length=s.length-((Ay s).length+1):=by rw[k2,yg]
  have et:(yx s).take (yi s.length ((Ay s).length+1))=yx s:=yd (by show _<=s.length-_;omega);rw[e3,zp, <-k2,et];exact ze (by simp[es];omega) (ze (by simp;omega) (ze (T163.BW db (by omega)) (Fj n _ hq)))
 |false=>
  obtain⟨k1,k2⟩:=c3 hc;rw[hc]at hq;exact zt (by simp[es,k1]) (Fj n 1 hq)
theorem BQ(s:List UInt8)(hl:s.length<=20)(la:(Ay s).length<=9)(lb:(yx s).length<=9)(da:Al (Ay s)=true)(db:Al (yx s)=true)(hq:∀n ob,n=AB 0 (Ay s)->Q (.tup [.dat i64 n,.dat i64 (if Bn s=true then AB 0 (yx s)else 1),.bl true]) ob):Ends Na (L4 s ) Q:=by
 obtain⟨c1,c2,c3⟩:=BG s;have es:AX s=((Ay s).length:Int):=rfl;have hle:=(T77.CZ s).1;have hlen:s.length-(Ay s).length<=10:=by
  cases hc:Bn s with
  |true=>
   obtain⟨k1,k2⟩:=c2 hc;have:(yx s).length=s.length-((Ay s).length+1):=by rw[k2,yg]
   omega
  |false=>rw[(c3 hc).1];omega
 have et:qk (Int.toNat (AX s)) s=Ay s:=by rw[es,zp];exact c1.symm
 obtain⟨v0,v1⟩:=T163.Co da la;refine ym (DD ..) ?_;conv=>zeta
 rw[et];refine ze (by simp;omega) (zt (by simp[es];omega) (zt ?_ (ze (by simp[es];omega) (ze (T163.BW da (by omega)) ?_))))
 ·rw[es,wr _ (by omega) (by omega)];exact w8 (by omega)
 ·exact EF s (AB 0 (Ay s)) hl lb db (fun ob=>hq _ ob rfl)
end T95
end Go.Pe
namespace Go.Sp
theorem GI(a:List Int)(i:Nat):val B9 (a.drop i)=a.getD i 0+1000000000*val B9 (a.drop (i+1)):=by
 by_cases h:i<a.length
 ·rw[Ca h];rfl
 ·rw[zz (by omega),zz (by omega),show a.getD i 0=0 by rw[List.getD_eq_getElem?_getD,List.getElem?_eq_none (by omega)];rfl];rfl
structure FB(a b:List Int)(i:Nat)(o:List Int)(c:Int):Prop where
 len:o.length=i
 d:Aw B9 o
 c01:0<=c/\c<=1
 v:val B9 o+(B9:Int)^i*(c+val B9 (a.drop i)+val B9 (b.drop i))=Ai a+Ai b
 top:a.length<=i->b.length<=i->i=0\/(B9:Int)^(i-1)<=val B9 o+(B9:Int)^i*c
theorem FB.start(a b:List Int):FB a b 0 [] 0:=⟨rfl,(fun x hx=>by cases hx),by decide,by
 show 0+(B9:Int)^0*(0+val B9 a+val B9 b)=val B9 a+val B9 b;rw[Int.pow_zero,qt];omega,fun _ _=>.inl rfl⟩
theorem Bx{a:List Int}(h:A4 a=true)(i:Nat):0<=a.getD i 0/\a.getD i 0<1000000000:=Gu (Bk h).2.1 i
theorem Sw{a:List Int}(h:A4 a=true){i:Nat}(h1:i<a.length)(h2:a.length<=i+1):1<=a.getD i 0:=by
 have:=(Go.Pe.Gr (Bk h).2.1 (Bk h).2.2 (k:=i) (by omega)).1;omega
theorem FB.step{a b:List Int}{i:Nat}{o:List Int}{c:Int}(h:FB a b i o c)(ha:A4 a=true)(hb:A4 b=true)(hc:i<a.length\/i<b.length\/0<c):
  FB a b (i+1) (o++[(a.getD i 0+b.getD i 0+c) % 1000000000]) ((a.getD i 0+b.getD i 0+c)/1000000000):=by
 obtain⟨x0,x1⟩:=Bx ha i;obtain⟨y0,y1⟩:=Bx hb i;obtain⟨c0,c1⟩:=h.c01;have hv:=h.v;rw[GI a i,GI b i]at hv;have hs:1<=a.getD i 0+b.getD i 0+c\/¬(a.length<=i+1/\b.length<=i+1):=by
  by_cases k:a.length<=i+1/\b.length<=i+1
  ·refine .inl ?_;rcases hc with hc|hc|hc
   ·have:=Sw ha hc k.1;omega
   ·have:=Sw hb hc k.2;omega
   ·omega
  ·exact .inr k
 have ho:=AA (b:=B9) (by decide) h.d;have hP:=AN (b:=B9) (by decide) i;generalize a.getD i 0=x at*;generalize b.getD i 0=y at*;have hval:val B9 (o++[(x+y+c) % 1000000000])=val B9 o+(B9:Int)^i*((x+y+c) % 1000000000):=by rw[B8,h.len]
 refine⟨by rw[ya,h.len];rfl,E7 h.d (by omega),by omega,?_,fun k1 k2=>.inr ?_⟩
 ·rw[hval,Jv,qw, <-qh, <-hv];congr 2;omega
 ·rw[hval,Jv,qw, <-qh,yt];have e:(x+y+c) % 1000000000+1000000000*((x+y+c)/1000000000)=x+y+c:=by omega
  rw[e];rcases hs with hs|hs
  ·have:=yh hs (yn hP);rw[qu]at this;omega
  ·exact wh ⟨k1,k2⟩ hs
theorem xV{o:List Int}(hd:Aw B9 o)(h:o=[]\/(B9:Int)^(o.length-1)<=val B9 o):nz o:=by
 rcases h with rfl|h
 ·unfold nz;simp
 ·intro e;have hn:o≠[]:=by rintro rfl;simp at e
  have e2:o=o.dropLast++[0]:=by
   have h1:=(List.dropLast_concat_getLast hn).symm;rw[List.getLast?_eq_some_getLast hn]at e;rw[Option.some.inj e]at h1;exact h1
  have hl:o.length=o.dropLast.length+1:=by rw[List.length_dropLast];have:=y9.2 hn;omega
  have hv:val B9 o=val B9 o.dropLast:=by
   conv=>lhs;rw[e2]
   rw[B8,qm,qn]
  have hd2:Aw B9 o.dropLast:=fun x hx=>hd x (by rw[e2];exact List.mem_append_left _ hx)
  have:=Br (b:=B9) (by decide) hd2;rw[hv,hl,yt]at h;omega
theorem FB.fin{a b:List Int}{i:Nat}{o:List Int}(h:FB a b i o 0)(h1:a.length<=i)(h2:b.length<=i):o=Fu a b:=by
 have hv:=h.v;rw[zz h1,zz h2]at hv;have hv:val B9 o+(B9:Int)^i*(0+0+0)=Ai a+Ai b:=hv;rw[show(0+0+0:Int)=0 from rfl,qm,qn]at hv;have ht:=h.top h1 h2;rw[qm,qn, <-h.len]at ht;have hn:nz o:=xV h.d (by
  rcases ht with k|k
  ·exact .inl (ql.1 k)
  ·exact .inr k)
 unfold Fu;rw[<-hv];exact Ij (b:=B9) (by decide) h.d hn
structure GF(a b:List Int)(i:Nat)(o:List Int)(c:Int):Prop where
 len:o.length=i
 d:Aw B9 o
 c01:0<=c/\c<=1
 v:val B9 o+(B9:Int)^i*(val B9 (a.drop i)-val B9 (b.drop i)-c)=Ai a-Ai b
theorem GF.start(a b:List Int):GF a b 0 [] 0:=⟨rfl,(fun x hx=>by cases hx),by decide,by
 show 0+(B9:Int)^0*(val B9 a-val B9 b-0)=val B9 a-val B9 b;rw[Int.pow_zero,qt];omega⟩
theorem GF.step{a b:List Int}{i:Nat}{o:List Int}{c:Int}(h:GF a b i o c)(ha:A4 a=true)(hb:A4 b=true)(d c':Int)(hd:(a.getD i 0-b.getD i 0-c<0/\d=a.getD i 0-b.getD i 0-c+1000000000/\c'=1)\/(¬a.getD i 0-b.getD i 0-c<0/\d=a.getD i 0-b.getD i 0-c/\c'=0)):
  GF a b (i+1) (o++[d]) c':=by
 obtain⟨x0,x1⟩:=Bx ha i;obtain⟨y0,y1⟩:=Bx hb i;obtain⟨c0,c1⟩:=h.c01;have hv:=h.v;rw[GI a i,GI b i]at hv;generalize a.getD i 0=x at*;generalize b.getD i 0=y at*;refine⟨by rw[ya,h.len];rfl,E7 h.d (by omega),by omega,?_⟩;rw[B8,h.len,Jv,qw, <-qh, <-hv];congr 2;omega
theorem GF.fin{a b:List Int}{o:List Int}{c:Int}(h:GF a b a.length o c)(hb:A4 b=true)(hle:Ai b<=Ai a):Aq o=Gy a b:=by
 have hv:=h.v;rw[List.drop_length]at hv;have h0:=AA (b:=B9) (by decide) (EB (Bk hb).2.1 a.length);have hlt:=Br (b:=B9) (by decide) h.d;rw[h.len]at hlt;obtain⟨c0,c1⟩:=h.c01;have hP:=AN (b:=B9) (by decide) a.length;have hv:val B9 o+(B9:Int)^a.length*(0-val B9 (b.drop a.length)-c)=Ai a-Ai b:=hv;generalize val B9 (b.drop a.length)=z at*;have hz:0-z-c=0:=by
  rcases Int.lt_or_le (0-z-c) 0 with k|k
  ·have:=yh (show 0-z-c<= -1 by omega) (yn hP);rw[qi,qu]at this;omega
  ·omega
 rw[hz,qm,qn]at hv;unfold Gy;rw[FU h.d, <-hv];rfl
open Go.Lib
theorem Vk(n:Int):rN n=decide (n<0):=rfl
theorem Ir(a:Bool×List Int):(a.1=true->vR a= -Ai a.2)/\(a.1=false->vR a=Ai a.2):=by
 unfold vR;exact⟨fun h=>by rw[wd h],fun h=>by rw[wc (by rw[h];decide)]⟩
theorem J4{neg:Bool}{w:List Int}{n:Int}(hd:Aw B9 w)(h0:0<=Ai w)(h1:neg=true->n= -Ai w)(h2:neg=false->n=Ai w):(BK neg w,Aq w)=(rN n,rW n):=by
 refine aF hd ?_ (fun hn=>?_)
 ·rw[Ah];cases neg with
  |true=>have:=h1 rfl;omega
  |false=>have:=h2 rfl;omega
 ·rw[Vk];cases neg with
  |true=>have:=h1 rfl;symm;rw[w5];omega
  |false=>have:=h2 rfl;symm;rw[w9];omega
theorem El{n:Int}(h:0<=n):Ai (By n)=n/\Aw B9 (By n):=⟨CP (b:=B9) (by decide) h,Fc (b:=B9) (by decide) n⟩
theorem ZO{a b:Bool×List Int}(ha:Ci a=true)(hb:Ci b=true)(h:a.1=b.1):(BK a.1 (Fu a.2 b.2),Aq (Fu a.2 b.2))=(Mo a b,ME a b):=by
 have a0:=(Et ha).2;have b0:=(Et hb).2;obtain⟨e1,e2⟩:=Ir a;obtain⟨f1,f2⟩:=Ir b;obtain⟨hv,hd⟩:=El (n:=Ai a.2+Ai b.2) (by omega);refine J4 hd (by show 0<=Ai (By _);omega) (fun k=>?_) (fun k=>?_)
 ·rw[e1 k,f1 (by rw[<-h];exact k)];show _= -Ai (By _);omega
 ·rw[e2 k,f2 (by rw[<-h];exact k)];show _=Ai (By _);omega
theorem XG{a b:Bool×List Int}(hb:Ci b=true)(h:a.1≠b.1)(hl:Ai b.2<=Ai a.2):(BK a.1 (Gy a.2 b.2),Aq (Gy a.2 b.2))=(Mo a b,ME a b):=by
 have b0:=(Et hb).2;obtain⟨e1,e2⟩:=Ir a;obtain⟨f1,f2⟩:=Ir b;obtain⟨hv,hd⟩:=El (n:=Ai a.2-Ai b.2) (by omega);refine J4 hd (by show 0<=Ai (By _);omega) (fun k=>?_) (fun k=>?_)
 ·rw[e1 k,f2 (by rw[k]at h;cases hb:b.1 with|true=>exact wh hb.symm h|false=>rfl)];show _= -Ai (By _);omega
 ·rw[e2 k,f1 (by rw[k]at h;cases hb:b.1 with|true=>rfl|false=>exact wh hb.symm h)];show _=Ai (By _);omega
theorem jM{a b:Bool×List Int}(ha:Ci a=true)(h:a.1≠b.1)(hl:Ai a.2<=Ai b.2):(BK b.1 (Gy b.2 a.2),Aq (Gy b.2 a.2))=(Mo a b,ME a b):=by
 have:=XG ha (fun k=>h k.symm) hl;rw[this];unfold Mo ME;rw[Int.add_comm]
theorem eH{a b:Bool×List Int}(ha:Ci a=true)(hb:Ci b=true):(BK (a.1 !=b.1) (By (Ai a.2*Ai b.2)),Aq (By (Ai a.2*Ai b.2)))=(Hs a b,HD a b):=by
 have a0:=(Et ha).2;have b0:=(Et hb).2;obtain⟨e1,e2⟩:=Ir a;obtain⟨f1,f2⟩:=Ir b;have p0:=Int.mul_nonneg a0 b0;obtain⟨hv,hd⟩:=El p0;refine J4 hd (by omega) (fun k=>?_) (fun k=>?_)
 ·rw[hv];cases h1:a.1<;>cases h2:b.1<;>rw[h1,h2]at k
  ·exact wh k (by decide)
  ·rw[e2 h1,f1 h2,qi]
  ·rw[e1 h1,f2 h2,Int.neg_mul]
  ·exact wh k (by decide)
 ·rw[hv];cases h1:a.1<;>cases h2:b.1<;>rw[h1,h2]at k
  ·rw[e2 h1,f2 h2]
  ·exact wh k (by decide)
  ·exact wh k (by decide)
  ·rw[e1 h1,f1 h2,Int.neg_mul,qi,Int.neg_neg]
theorem gG{a:Bool×List Int}(ha:Ci a=true):(BK (!a.1) a.2,Aq a.2)=(Rk a,RC a):=by
 have a0:=(Et ha).2;obtain⟨e1,e2⟩:=Ir a;refine J4 (Bk (CY ha).1).2.1 a0 (fun k=>?_) (fun k=>?_)
 ·rw[e2 (by simpa using k)]
 ·rw[e1 (by simpa using k),Int.neg_neg]
theorem LZ{b:Bool×List Int}(hb:Ci b=true)(h0:0<vR b):b.1=false/\vR b=Ai b.2:=by
 have b0:=(Et hb).2;obtain⟨f1,f2⟩:=Ir b;cases h:b.1 with
 |true=>have:=f1 h;omega
 |false=>exact⟨rfl,f2 h⟩
theorem fD{A b:Int}(hb:0<b)(hr:A % b≠0): -A/b= -(A/b+1):=by
 have h1:=Int.mul_ediv_add_emod A b;have h2:=Int.emod_nonneg A (show b≠0 by omega);have h3:=Int.emod_lt_of_pos A hb;refine((Int.ediv_emod_unique (a:= -A) (b:=b) (r:=b-A % b) (q:= -(A/b+1)) hb).2 ⟨?_,by omega,by omega⟩).1;rw[qi,qh,qu];omega
theorem VZ{A b:Int}(hb:0<b)(hr:A % b=0): -A/b= -(A/b):=by
 have h1:=Int.mul_ediv_add_emod A b;refine((Int.ediv_emod_unique (a:= -A) (b:=b) (r:=0) (q:= -(A/b)) hb).2 ⟨?_,by omega,hb⟩).1;rw[qi];omega
theorem NP{a b:Bool×List Int}(ha:Ci a=true)(hb:Ci b=true)(h0:0<vR b)(h:a.1=false\/Ai a.2 % Ai b.2=0):(BK a.1 (By (Ai a.2/Ai b.2)),Aq (By (Ai a.2/Ai b.2)))=(IJ a b,H4 a b):=by
 have a0:=(Et ha).2;obtain⟨e1,e2⟩:=Ir a;obtain⟨_,f⟩:=LZ hb h0;rw[f]at h0;have q0:=Int.ediv_nonneg a0 (yn h0);obtain⟨hv,hd⟩:=El q0;refine J4 hd (by omega) (fun k=>?_) (fun k=>?_)
 ·rw[hv,e1 k,f];rcases h with h|h
  ·rw[k]at h;cases h
  ·exact VZ h0 h
 ·rw[hv,e2 k,f]
theorem VK{a b:Bool×List Int}(ha:Ci a=true)(hb:Ci b=true)(h0:0<vR b)(h:a.1=true)(hr:Ai a.2 % Ai b.2≠0):(BK a.1 (Fu (By (Ai a.2/Ai b.2)) [1]),Aq (Fu (By (Ai a.2/Ai b.2)) [1]))=(IJ a b,H4 a b):=by
 have a0:=(Et ha).2;obtain⟨e1,e2⟩:=Ir a;obtain⟨_,f⟩:=LZ hb h0;rw[f]at h0;have q0:=Int.ediv_nonneg a0 (yn h0);have e:Fu (By (Ai a.2/Ai b.2)) [1]=By (Ai a.2/Ai b.2+1):=by
  unfold Fu;rw[(El q0).1];rfl
 rw[e];obtain⟨hv,hd⟩:=El (n:=Ai a.2/Ai b.2+1) (by omega);refine J4 hd (by omega) (fun k=>?_) (fun k=>?_)
 ·rw[hv,e1 k,f];exact fD h0 hr
 ·rw[h]at k;cases k
theorem oJ{w:List Int}{i:Nat}(hl:w.length=i+1):val B9 (w.drop i)=w.getD i 0:=by
 rw[GI,zz (by omega)];show _+1000000000*0=_;omega
theorem VY{w:List Int}(hw:A4 w=true){i:Nat}(hl:w.length=i+1):HU (w.getD i 0) 1=decDigits (val B9 (w.drop i)).toNat/\0<val B9 (w.drop i):=by
 have g:=Bx hw i;have t:=Sw hw (i:=i) (by omega) (by omega);rw[oJ hl];exact⟨NW g.1 (by omega),by omega⟩
theorem ZD{w:List Int}(hw:A4 w=true)(i:Nat)(h0:0<val B9 (w.drop (i+1))):decDigits (val B9 (w.drop (i+1))).toNat++HU (w.getD i 0) 9=decDigits (val B9 (w.drop i)).toNat/\0<val B9 (w.drop i):=by
 have g:=Bx hw i;rw[GI w i,ZM g.1 g.2];generalize val B9 (w.drop (i+1))=V at*;generalize w.getD i 0=x at*;have h:=SN 9 V.toNat x.toNat (by decide) (by omega) (by omega);refine⟨?_,by omega⟩;rw[<-h];congr 1;omega
theorem iF{a:Bool×List Int}(ha:Ci a=true)(hne:a.2≠[]):(if a.1=true then 45::decDigits (Ai a.2).toNat else decDigits (Ai a.2).toNat)=HL a:=by
 obtain⟨e1,e2⟩:=Ir a;have h0:0<Ai a.2:=Jm (b:=B9) (by decide) (Bk (CY ha).1).2.1 (Bk (CY ha).1).2.2 hne;unfold HL AU itoa;by_cases h:a.1=true
 ·rw[wd h,e1 h,wd (by omega),show(-Ai a.2).natAbs=(Ai a.2).toNat by omega]
 ·have h:a.1=false:=by simpa using h
  rw[wc (by rw[h];decide),e2 h,wc (by omega)]
theorem cD{a:Bool×List Int}(h:a.2=[]):[48]=HL a:=by
 have:vR a=0:=by
  unfold vR;rw[h];split<;>rfl
 unfold HL AU itoa;rw[this,wc (by decide),show(0:Int).toNat=0 from rfl,decDigits_one (by decide)];rfl
theorem Hm{N D:Int}(hD:0<D):0<gI (Ae N) D/\Ae N/gI (Ae N) D=Ae (zu N D).num/\D/gI (Ae N) D=((zu N D).den:Int)/\(N<0↔(zu N D).num<0):=by
 have hs:D.sign=1:=Int.sign_eq_one_of_pos hD;have e1:(zu N D).num=N/(qv N D:Int):=by rw[Rat.num_divInt,hs,qt,Int.gcd_comm]
 have e2:((zu N D).den:Int)=D/(qv N D:Int):=by
  rw[Rat.den_divInt,wc (Int.ne_of_gt hD),Int.gcd_comm,Int.natCast_ediv];rw[Int.natAbs_of_nonneg (yn hD)]
 have eg:gI (Ae N) D=(qv N D:Int):=by rw[FQ,Ah];rfl
 have hg:0<qv N D:=Int.gcd_pos_of_ne_zero_right _ (by omega);obtain⟨k,hk⟩:(qv N D:Int)∣N:=Int.gcd_dvd_left ..;rw[eg,e1,e2];have hg:(0:Int)<(qv N D:Int):=by omega
 generalize (qv N D:Int)=g at*;have h1:N/g=k:=by rw[hk,qj _ (by omega)]
 have h2:Ae N/g=Ae k:=by
  rw[Ah,Ah,hk,Int.natAbs_mul,Int.natCast_mul,show((g.natAbs:Nat):Int)=g by omega,qj _ (by omega)]
 refine⟨hg,by rw[h1,h2],rfl,?_⟩;rw[h1];constructor
 ·intro h;rcases Int.lt_or_le k 0 with x|x
  ·exact x
  ·have:=Int.mul_nonneg (yn hg) x;omega
 ·intro h;have:=Int.mul_neg_of_pos_of_neg hg h;omega
theorem gA{N D:Int}(hD:0<D){neg:Bool}(hn:neg=rN N):(BK neg (By (Ae N/gI (Ae N) D)),Aq (By (Ae N/gI (Ae N) D)))=(rN (zu N D).num,rW (zu N D).num):=by
 obtain⟨_,h1,_,h3⟩:=Hm (N:=N) hD;rw[h1];have a0:=Ny (zu N D).num;obtain⟨hv,hd⟩:=El a0;refine aF hd hv (fun _=>?_);rw[hn,Vk,Vk,decide_eq_decide];exact h3
theorem mP{n:Int}(h0:0<=n):By n=[1]↔n=1:=by
 constructor
 ·intro h;have:=(El h0).1;rw[h]at this;exact this.symm
 ·rintro rfl;rfl
theorem QZ{N D:Int}:CM N D=if (zu N D).den=1 then AU (zu N D).num else AU (zu N D).num++47::AU ((zu N D).den:Int):=by
 unfold CM AW;split
 ·rfl
 ·rw[show AU ((zu N D).den:Int)=decDigits (zu N D).den from Lib.itoa_nonneg _];rfl
theorem US(N D:Int):CM (-N) (-D)=CM N D:=by
 unfold CM;rw[Rat.neg_divInt_neg]
theorem NM{s:List UInt8}(h:Bh s=true):A9 s=IF s/\AI s=SW s/\Al (Ay (AY s))=true/\Al (AM (AY s))=true:=by
 obtain⟨t,_⟩:=Ff h;obtain⟨c1,c2,c3⟩:=EI (An s);obtain⟨p1,p2,p3,p4⟩:=RX s;obtain⟨i1,i2,i3,i4⟩:=C9 (An s).num;rw[t]at c1 c2 c3;have hB:Al (AM s)=true:=by
  rw[c2];split
  ·rfl
  ·exact DI _
 refine⟨?_,?_,?_,?_⟩
 ·unfold A9 IF Cc;rw[p1, <-p4];unfold AY preB;by_cases hc:(Ay s).getD 0 0=45
  ·rw[wd hc,wd hc,wd (w4 hc)]
  ·rw[wc hc,wc hc,wc (by rw[w8 hc];decide)]
 ·unfold AI SW Cc;rw[p2,p3,wc (Fk hB)]
 ·rw[p1,c1,i2];exact DI _
 ·rw[p2];exact hB
theorem Gd{s:List UInt8}(h:Bh s=true)(hq:DQ s=true):dP s=A9 s/\Uo s=AI s/\ -1000000000<A9 s/\A9 s<1000000000/\0<AI s/\AI s<1000000000:=by
 obtain⟨h1,h2,h3,h4⟩:=NM h;have hd:0<AI s:=by
  have:=(Dj h).2.2.2.2.2.1;have:=(An s).den_pos;omega
 unfold dP Uo;rw[wd hq,wd hq];unfold DQ at hq;rw[zh,zh,w5,w5,w5]at hq;obtain⟨⟨_,l1⟩,l2⟩:=hq;have b1:=Be h3;have b2:=Be h4;have m1:(10:Int)^(Ay (AY s)).length<=10^9:=AH (by decide) l1;have m2:(10:Int)^(AM (AY s)).length<=10^9:=AH (by decide) l2;refine⟨h1.symm,h2.symm,?_,?_,hd,?_⟩
 ·rw[h1];unfold IF;split<;>omega
 ·rw[h1];unfold IF;split<;>omega
 ·rw[h2];unfold SW;split<;>omega
theorem YM{a b:List UInt8}(ha:Bh a=true)(hb:Bh b=true):D0 a b=CM (A9 a*AI b+AI a*A9 b) (AI a*AI b)/\D0 a b=CM (A9 a*AI b+A9 b*AI a) (AI a*AI b):=by
 have d1:AI a≠0:=by
  have:=(Dj ha).2.2.2.2.2.1;have:=(An a).den_pos;omega
 have d2:AI b≠0:=by
  have:=(Dj hb).2.2.2.2.2.1;have:=(An b).den_pos;omega
 have e:D0 a b=CM (A9 a*AI b+A9 b*AI a) (AI a*AI b):=by
  unfold D0 CM An;rw[Rat.divInt_add_divInt _ _ d1 d2]
 exact⟨by rw[e,Int.mul_comm (AI a) (A9 b)],e⟩
theorem ZX{a b:List UInt8}:Gz a b=CM (A9 a*A9 b) (AI a*AI b):=by
 unfold Gz CM An;rw[Rat.divInt_mul_divInt]
theorem Y9{a:List UInt8}:P8 a=CM (AI a) (A9 a):=by
 unfold P8 CM An;rw[Rat.inv_divInt]
end Go.Sp
