import Derived.Test.YtknhdhchejmpgaaGreatDoorX13
import Derived.Test.YtknhdhchejmpgaaGreatDoorX10
import Derived.Test.YtknhdhchejmpgaaGreatDoorX09
import Derived.Test.YtknhdhchejmpgaaGreatDoorX12
/- A part of a proof (no law is stated here). Made by program out of texts by AI agents. -/
open Go.IntKind renaming wrap → zc, u64 → zf, i64 → zt
open Go.Pe.Sh renaming str → zd, list → zg, pair → zi, nlist → zk, bool → zl, int → zn
open Go.Pe.Ends renaming tt → ze, leaf → zh, ff → zq, ite → zu, eq → zC, As → zR
open Bool renaming and_eq_true → zj, true_and → zW
open Go.Lib renaming decDigits → zm, decDigits_length → zZ, decDigits_one → yd, itoa → yn
open Nat renaming add → zo, sub → zG, add_sub_cancel → zQ, le_refl → zY, mod_lt → yk, pow_succ → ym
open Int renaming toNat_natCast → zp, eq_ofNat_of_zero_le → zz, tmod → zD, mul_le_mul_of_nonneg_left → zF, lt_of_lt_of_le → zH, natCast_pow → zJ, natCast_nonneg → zO, natAbs_natCast → zP, tdiv → zS, ofNat_lt → z8, tmod_eq_emod_of_nonneg → yb, mul_zero → yg, add_zero → yh, mul_add → yi, add_assoc → yj, le_of_lt → yo
open Go.Sp renaming vI → zr, first → zM, De → zN, rN → zT, rW → zU, AO → zV, Dy → ya
open List renaming length_cons → zw, length_append → zy, drop_eq_nil_of_le → zA, take_of_length_le → zB, length_drop → zE, length → zK, length_flatten → zL, length_pos_iff → z7, append_assoc → yc, take → ye, length_eq_zero_iff → yf, drop → yp
open Go.Pe.Af renaming of → zI
open UInt8 renaming ofNat → zX
section
namespace Go.Sp
open Go.Lib
theorem K2:∀(f n l:Nat) (acc:List UInt8),l≤acc.length→n<10^f→GK f n l acc=if n=0 then acc else decDigits n++acc
 |0,n,l,acc,_,hn=>by rw[Nat.pow_zero]at hn;rw[if_pos (by omega)];rfl
 |f+1,n,l,acc,hl,hn=>by
  rw[ym]at hn;unfold GK;by_cases h:n=0
  ·rw[if_pos ⟨h,hl⟩,if_pos h]
  ·rw[if_neg (fun k=>h k.1),if_neg h,K2 f (n/10) l _ (by rw[zw];omega) (by omega)];by_cases h2:n/10=0
   ·rw[if_pos h2,decDigits_one (by omega),show n % 10=n by omega];rfl
   ·have e:=E4 (n/10) (n % 10) (by omega) (by omega);rw[show 10*(n/10)+n % 10=n by omega]at e;rw[if_neg h2,e,yc];rfl
theorem dK{d:Nat}(h:d<10):Fx 1 d=[zX (48+d)]:=by
 unfold Fx;rw[nDigits_small h,decDigits_one h];rfl
theorem TP:∀(k f n l:Nat) (acc:List UInt8),acc.length+(k+1)=l→n<10^(k+1)→k+1≤f→GK f n l acc=Fx (k+1) n++acc
 |k,0,n,l,acc,_,_,h=>by omega
 |0,f+1,n,l,acc,hl,hn,_=>by
  unfold GK;rw[if_neg (by omega),dK (by omega),K2 f (n/10) l _ (by rw[zw];omega) (by rw[show n/10=0 by omega];exact Nat.pow_pos (by decide)),if_pos (by omega),show n % 10=n by omega];rfl
 |k+1,f+1,n,l,acc,hl,hn,hf=>by
  rw[ym]at hn;have e:=PW (k+1) (n/10) (n % 10) (by omega) (by omega);rw[show 10*(n/10)+n % 10=n by omega]at e;unfold GK;rw[if_neg (by omega),TP k f (n/10) l _ (by rw[zw];omega) (by omega) (by omega),e,yc];rfl
theorem OV{n:Int}(h0:0≤n)(h1:n<9223372036854775808):Ht n 1=decDigits n.toNat:=by
 show GK 64 n.toNat 1 []=_;unfold GK;rw[if_neg (by simp)];rw[K2 63 (n.toNat/10) 1 _ (by simp) (by omega)];by_cases h:n.toNat<10
 ·rw[if_pos (by omega),decDigits_one h,show n.toNat % 10=n.toNat by omega]
 ·have e:=E4 (n.toNat/10) (n.toNat % 10) (by omega) (by omega);rw[show 10*(n.toNat/10)+n.toNat % 10=n.toNat by omega]at e;rw[if_neg (by omega),e]
theorem X1{n:Int}(h0:0≤n)(h1:n<1000000000):Ht n 9=Fx 9 n.toNat:=by
 show GK 64 n.toNat 9 []=_;rw[TP 8 64 n.toNat 9 [] rfl (by omega) (by decide),List.append_nil]
def CO(n d:Int):List UInt8:=A3 (Rat.divInt n d)
theorem Xf(n:Int):itoa n=(if n<0 then[45]else[])++decDigits n.natAbs:=by
 unfold itoa;split
 ·rfl
 ·rw[show n.toNat=n.natAbs by omega];rfl
end Go.Sp
end
section
namespace Go.Sp
def vR(a:Bool×List Int):Int:=if a.1=true then -Aq a.2 else Aq a.2
def Cy(a:Bool×List Int):Bool:=A4 a.2&&decide (a.2.length≤3000)&&(!a.1||decide (a.2≠[]))
def Hl(l:List Int)(i:Int):Int:=l.getD i.toNat 0
def fE(a b:List Int):Bool:=A4 a&&A4 b&&decide (a.length≤9000)&&decide (b.length≤9000)
def LA(a b:List Int):List Int:=BN (Aq a+Aq b)
def Gb(a b:List Int):List Int:=BN (Aq a-Aq b)
def LY(a b:Bool×List Int):Bool:=rN (vR a+vR b)
def Me(a b:Bool×List Int):List Int:=rW (vR a+vR b)
def G6(a b:Bool×List Int):Bool:=rN (vR a*vR b)
def Hc(a b:Bool×List Int):List Int:=rW (vR a*vR b)
def QG(a:Bool×List Int):Bool:=rN (-vR a)
def RM(a:Bool×List Int):List Int:=rW (-vR a)
def Jd(a:Bool×List Int):List UInt8:=AW (vR a)
def Hn(n d:Bool×List Int):List UInt8:=CO (vR n) (vR d)
def Y6(a:List UInt8):Int:=if DA a=true then HD a else 0
def SN(a:List UInt8):Int:=if DA a=true then QX a else 0
def Lh(a b:List UInt8):List UInt8:=A3 (AG a+AG b)
def H3(a b:List UInt8):List UInt8:=A3 (AG a-AG b)
def Mt(a b:List UInt8):List UInt8:=A3 (AG a*AG b)
def Pa(a:List UInt8):List UInt8:=A3 (AG a)⁻¹
def Te(a b:List UInt8):List UInt8:=A3 (AG a/AG b)
def Jy(a b:List UInt8):Int:=if AG a<AG b then -1 else if AG b<AG a then 1 else 0
def EM(a:List UInt8):Int:=if 600<(AZ (Ax a)).length∨600<(Pc a).length then 4 else 0
def Ed(a:List UInt8):Bool:=BI a&&decide (a.length≤3000)
def Zl(a:List UInt8):Bool:=Ed a&&decide (AG a≠0)
end Go.Sp
namespace Go.Pe
open Sp
open Go.Det
noncomputable section
noncomputable def Ue:Ao:=⟨[li,i64],fun i=>decide (0≤(i.2:Int)),[i64],fun i=>Hl i.1 i.2,false⟩
noncomputable def Uj:Ao:=⟨[li,li],fun i=>fE i.1 i.2,[li],fun i=>LA i.1 i.2,false⟩
noncomputable def US:Ao:=⟨[li,li],fun i=>fE i.1 i.2&&decide (Aq i.2≤Aq i.1),[li],fun i=>Gb i.1 i.2,false⟩
noncomputable def YQ:Ao:=⟨[I5,I5],fun i=>Cy i.1&&Cy i.2,[I5],fun i=>(LY i.1 i.2,Me i.1 i.2),false⟩
noncomputable def VS:Ao:=⟨[I5,I5],fun i=>Cy i.1&&Cy i.2,[I5],fun i=>(G6 i.1 i.2,Hc i.1 i.2),false⟩
noncomputable def Ww:Ao:=⟨[I5],fun a=>Cy a,[I5],fun a=>(QG a,RM a),false⟩
noncomputable def ZQ:Ao:=⟨[I5],fun a=>Cy a,[.str],fun a=>Jd a,false⟩
noncomputable def LD:Ao:=⟨[I5,I5],fun i=>Cy i.1&&Cy i.2&&decide (Sp.vR i.2≠0),[.str],fun i=>Hn i.1 i.2,false⟩
noncomputable def Zm:Ao:=⟨[i64,i64],fun i=>CS i.1&&CS i.2&&decide ((i.2:Int)≠0),[.str],fun i=>CO i.1 i.2,false⟩
noncomputable def MA:Ao:=⟨[.str],fun s=>BI s,[i64,i64,.bool],fun s=>(Y6 s,SN s,DA s),false⟩
noncomputable def Tl:Ao:=⟨[.str,.str],fun i=>BI i.1&&BI i.2,[.str],fun i=>Lh i.1 i.2,false⟩
noncomputable def Zh:Ao:=⟨[.str,.str],fun i=>BI i.1&&Ed i.2,[.str],fun i=>H3 i.1 i.2,false⟩
noncomputable def R6:Ao:=⟨[.str,.str],fun i=>BI i.1&&BI i.2,[.str],fun i=>Mt i.1 i.2,false⟩
noncomputable def nH:Ao:=⟨[.str],fun s=>Zl s,[.str],fun s=>Pa s,false⟩
noncomputable def lZ:Ao:=⟨[.str,.str],fun i=>BI i.1&&Zl i.2,[.str],fun i=>Te i.1 i.2,false⟩
noncomputable def aI:Ao:=⟨[.str,.str],fun i=>BI i.1&&Ed i.2,[i64],fun i=>Jy i.1 i.2,false⟩
noncomputable def QM:Ao:=⟨[.str],fun s=>decide (s.length≤1000000),[i64],fun s=>EM s,false⟩
noncomputable def wE:A5:=X7 []
noncomputable def R3:A5:=X7 [(229,Ue),(227,Qi)]
noncomputable def rH:A5:=X7 [(168,HS),(169,Uj),(170,Wd),(171,US),(172,W2),(164,PU)]
noncomputable def sP:A5:=X7 [(109,OJ)]
noncomputable def cZ:A5:=YK [(96,[3,7,9])] [] [(96,[(3,[2,3]),(7,[8,10]),(9,[8,10])])] [(166,Ww),(92,J0),(164,PU),(168,HS),(167,ZQ)]
noncomputable def X4:A5:=YK [(36,[3,5,7,11])] [] [(36,[(3,[0,1]),(5,[0,1]),(7,[0,1]),(11,[1,6])])] [(107,Kc),(96,LD),(108,mJ),(109,OJ)]
noncomputable def bK:A5:=YK [(27,[5]),(29,[5])] [] [(27,[(5,[0,1])]),(29,[(5,[0,1])])] [(95,MA),(36,Zm),(91,Qq),(97,YQ),(98,VS),(96,LD)]
noncomputable def sM:A5:=X7 [(94,nH),(29,R6),(27,Tl),(99,ZB)]
noncomputable def tI:A5:=X7 [(28,Zh),(41,QA),(89,Lr),(100,Vw),(101,dN),(102,WT)]
end
noncomputable def Uo:Ao:=⟨[],fun _=>true,[.bool],fun _=>true,false⟩
theorem cT:Ae AV 17 Uo:=by
 refine .vB ⟨by kernel_rfl,Ad (by kernel_rfl),fun F h args i hfz hlt hgh hargs _=>?_⟩;have ha:args=[]:=by
  have:=hargs (fun _=>none) 0;simpa [Ah,Uo]using this
 subst ha;refine⟨[(.bool true,h)],1,fun m hm=>?_,fun _=>⟨_,rfl⟩,fun x hx=>?_⟩
 ·obtain⟨m',rfl⟩:∃m',m=m'+1:=⟨m-1,by omega⟩;have hq:AV.spec 17=some fun args h=>bif kU h Ft then(match HP A7 17 args with|some v=>some (v,h)|none=>none)else none:=rfl
  rw[Bg];simp only[hq,oI hgh,cond_true];rfl
 ·cases List.mem_singleton.1 hx;exact⟨zY _,fun _ _=>rfl,hlt,F,fun _ _ h=>h,fun _ _ h=>.inl h,hfz,fun ρ N=>Dw _⟩
end Go.Pe
end
section
namespace Go.Sp
def Om(a:AT):Int:=if Bp (Ag (vI a))=[]then 0 else 64*((Bp (Ag (vI a))).length-1)+EG ((Bp (Ag (vI a))).getD ((Bp (Ag (vI a))).length-1) 0)
def D0(a:AT):Bool:=Py (vI a)
def H9(a:AD):Bool:=D0 a.1||D0 a.2
def Jm(a:AD):List UInt8:=if Cz a.2=true then AW (vI a.1)else AW (vI a.1)++47::AW (vI a.2)
def Kg(a:AD):List UInt8:=if H9 a=true then[]else Jm a
def Kl(a:AD):Int:=if H9 a=true then 4 else 0
def Ef:List (List UInt8)→Int
 |[]=>0
 |s::l=>if Ay s≠0 then Ay s else Ef l
def Mp(a b:List UInt8):Int:=Ef [a,b]
def fB(e:Int)(q:Rat):List UInt8:=if e≠0 then[]else if RH q=true then[]else A3 q
def fA(e:Int)(q:Rat):Int:=if e≠0 then e else if RH q=true then 4 else 0
def HV(a:List UInt8)(e:Int)(w:List UInt8)(bad:Int):Bool:=if (if bad=0 then EM w else bad)≠0 then decide (a=[])&&decide (e=(if bad=0 then EM w else bad))else decide (e=0)&&decide (a=w)
end Go.Sp
namespace Go.Pe
open Sp
open Go.Det
noncomputable section
noncomputable def bD:Ao:=⟨[BE],fun a=>Ba a,[i64],fun a=>Om a,false⟩
noncomputable def VL:Ao:=⟨[BE],fun a=>Ba a,[.bool],fun a=>D0 a,false⟩
noncomputable def QC:Ao:=⟨[.str,.str],fun i=>Rg i.1 i.2,[.str],fun i=>AZ i.1,false⟩
noncomputable def VY:Ao:=⟨[BK],fun a=>ya (a:AD),[.bool],fun a=>H9 a,false⟩
noncomputable def dT:Ao:=⟨[BK],fun a=>ya (a:AD),[.str],fun a=>Jm a,false⟩
noncomputable def WB:Ao:=⟨[BK],fun a=>ya (a:AD),[.str,i64],fun a=>(Kg a,Kl a),false⟩
noncomputable def WZ:Ao:=⟨[.list .str],fun l=>decide (zK (α:=List UInt8) l≤1000)&&List.all (α:=List UInt8) l (fun s=>decide (s.length≤1000000)),[i64],fun l=>Ef l,false⟩
noncomputable def Pz:Ao:=⟨[.str,i64,.str,i64],fun i=>decide (zK (α:=UInt8) i.2.2.1≤1000000),[.bool],fun i=>HV i.1 i.2.1 i.2.2.1 i.2.2.2,false⟩
noncomputable def pG:A5:=X7 []
noncomputable def vP:A5:=X7 [(218,NB),(247,Uq)]
noncomputable def oL:A5:=X7 [(248,bD),(200,qD),(214,QC)]
noncomputable def sC:A5:=X7 [(199,VL),(156,M9),(200,qD)]
noncomputable def rC:A5:=X7 [(131,VY),(132,dT)]
noncomputable def uK:A5:=X7 [(77,El),(173,Jn)]
noncomputable def tY:A5:=X7 [(93,QM)]
end
end Go.Pe
end
section
namespace Go.Sp
end Go.Sp
namespace Go.Pe
open Go.Det
noncomputable section
end
end Go.Pe
end
section
namespace Go.Sp
abbrev Dj:=List UInt8×List UInt8
def C6:Option Dj→List Dj→Int
 |_,[]=>0
 |o,p::l=>if Mp p.1 p.2≠0 then Mp p.1 p.2 else match o with
  |some q=>if Jy p.1 q.1≤0 then 11 else C6 (some p) l
  |none=>C6 (some p) l
def BH(t:List Dj):Int:=if t=[]then 12 else if 64<t.length then 5 else C6 none t
def fG(s:List UInt8):AD:=((F6 s,F9 s),(Fk s,Fl s))
def BL(p:Dj):AD×AD:=(fG p.1,fG p.2)
def Jh(t:List Dj):List (AD×AD):=if BH t≠0 then[]else t.map BL
def R0:Option (Rat×Rat)→List (Rat×Rat)→Rat→Rat
 |none,[],_=>0
 |some p,[],_=>p.2
 |o,b::l,x=>if b.1<x then R0 (some b) l x else match o with
  |none=>b.2
  |some a=>a.2+(b.2-a.2)*(x-a.1)/(b.1-a.1)
def EI(t:List Dj)(x:List UInt8):Rat:=R0 none (t.map fun p=>(AG p.1,AG p.2)) (AG x)
def K1(t:List Dj)(x:List UInt8):Int:=if BH t≠0 then BH t else Ay x
def aW(t:List Dj)(x:List UInt8):List UInt8:=fB (K1 t x) (EI t x)
def cK(t:List Dj)(x:List UInt8):Int:=fA (K1 t x) (EI t x)
def Ya(t:List Dj)(x:List UInt8):List UInt8:=A3 (EI t x)
def D1(k:Nat)(t:List Dj):Bool:=t.all fun p=>decide (p.1.length≤k)&&decide (p.2.length≤k)
def JB(t:List Dj)(n d:Int):Bool:=decide ((t.length:Int)≤n)&&t.all fun p=>A6 p.1 d&&A6 p.2 d
end Go.Sp
namespace Go.Pe
open Sp
open Go.Det
noncomputable section
abbrev Xe:Sh:=.pair .str .str
abbrev WK:Sh:=.pair BK BK
noncomputable def Se:Ao:=⟨[.list Xe],fun l=>decide (zK (α:=Dj) l≤1000)&&D1 1000000 l,[.list WK,i64],fun l=>(Jh l,BH l),false⟩
noncomputable def JW:Ao:=⟨[.list Xe],fun l=>decide (zK (α:=Dj) l≤1000)&&D1 1000000 l,[i64],fun l=>BH l,false⟩
noncomputable def VR:Ao:=⟨[.list Xe,.str],fun i=>decide (zK (α:=Dj) i.1≤1000)&&D1 300 i.1&&decide (zK (α:=UInt8) i.2≤300),[.str,i64],fun i=>(aW i.1 i.2,cK i.1 i.2),false⟩
noncomputable def Q5:Ao:=⟨[.list Xe,.str],fun i=>decide (zK (α:=Dj) i.1≤1000)&&D1 100 i.1&&decide (zK (α:=UInt8) i.2≤100)&&decide (K1 i.1 i.2=0),[.str],fun i=>Ya i.1 i.2,false⟩
noncomputable def Rm:Ao:=⟨[.list Xe,i64,i64],fun i=>decide ((i.2.1:Int)≤1000000)&&decide (0≤(i.2.2:Int))&&decide ((i.2.2:Int)≤1000),[.bool],fun i=>JB i.1 i.2.1 i.2.2,false⟩
noncomputable def oX:A5:=X7 [(83,Jz),(85,VF),(84,WZ),(87,aB),(88,YO)]
noncomputable def wN:A5:=X7 [(114,Se)]
noncomputable def YL:A5:=YK [(47,[12,13])] [] [(47,[(14,[6,8,27,28,29]),(12,[6,8,9,10]),(10,[6,8,9,10]),(8,[6,8,27,28,29]),(7,[6,8,27,28,29]),(5,[1,6]),(13,[8,10,11])])] [(114,Se),(83,Jz),(77,El),(87,aB),(88,YO),(80,We),(81,mC),(82,dH),(86,mW),(103,WB)]
noncomputable def fF:A5:=X7 [(24,El),(30,aI),(46,IM)]
noncomputable def tL:A5:=X7 [(30,aI),(26,lZ),(28,Zh),(29,R6),(27,Tl)]
end
end Go.Pe
end
section
namespace Go.Sp
end Go.Sp
namespace Go.Pe
open Go.Det
noncomputable section
noncomputable def U2:Ao:=⟨[.list Xe,.str],fun _=>true,[.bool],fun _=>true,false⟩
noncomputable def sN:A5:=YK [(8,[3])] [] [(8,[(10,[0,1,5,6]),(7,[0,1,5,6,7]),(3,[0,1])])] [(45,Rm),(46,IM),(17,Uo),(47,VR),(48,JW),(49,JW),(23,Jz),(24,El),(25,Pz),(50,Q5)]
end
end Go.Pe
end
section
namespace Go.Pe
open Sp
open Go.Det
noncomputable section
open List Int Prod
namespace T8
def T(l:List (List UInt8×List UInt8))(x:List UInt8):Tr:=tree sN false 9 8 (Ah ([zg (zi zd zd),zd]) (l,x))
def L1(v0:List (List UInt8×List UInt8))(v1:List UInt8):Tr:=re ((T [] []).L.R.L.R.L.R) (AI 62 [(0,.dat (zg (zi zd zd)) v0),(1,.dat zd v1)] [] 0)
theorem An(l:List (List UInt8×List UInt8))(x:List UInt8):T l x=let b':Tr:=.ite true (.leaf (.dat zl true) []) .fail;let a':Tr:=.ite (decide (69≤1000000)&&decide (0≤9)&&decide (9≤1000)) (.ite (!JB l 69 9) b' (.ite (decide (0≤9)&&decide (9≤1000)) (.ite (!A6 x 9) b' (L1 l x)) .fail)) .fail;.ite (decide ((length l:Int)>6)) (.ite (decide ((length l:Int)≤64)) b' a') a':=by kernel_rfl
theorem Ar(v0:List (List UInt8×List UInt8))(v1:List UInt8):stepT sN (L1 v0 v1)=let a':=[(0,.arr false 3 i64 [BH v0,Ay v1])];let b':=decide (length v0≤1000);let c':Tr:=.ite true (.leaf (.dat zl true) a') .fail;let d':=b'&&D1 1000000 v0;.ite (b'&&D1 300 v0&&decide (length v1≤300)) (.ite d' (.ite d' (.ite (BH v0 !=BH v0) (.leaf (.bl false) []) (.ite (decide (length v1≤1000000)) (.ite (decide (2≤2)&&true&&decide (2≤1000000)) (.ite (zM [BH v0,Ay v1] !=0) (.ite (decide (1≤1000000)) (.ite (HV (aW v0 v1) (cK v0 v1) [(48:UInt8)] (zM [BH v0,Ay v1])) c' (.leaf (.bl false) a')) .fail) (.ite (b'&&D1 100 v0&&decide (length v1≤100)&&decide (K1 v0 v1=0)) (.ite (decide (length (Ya v0 v1)≤1000000)) (.ite (HV (aW v0 v1) (cK v0 v1) (Ya v0 v1) 0) c' (.leaf (.bl false) a')) .fail) .fail)) .fail) .fail)) .fail) .fail) .fail:=by kernel_rfl
end T8
end
end Go.Pe
end
section
namespace Go.Pe
open Sp
open Go.Det
noncomputable section
open List Int Prod
namespace T47
def T(l:List (List UInt8×List UInt8))(x:List UInt8):Tr:=tree YL false 9 47 (Ah ([zg (zi zd zd),zd]) (l,x))
def L1(v6:List (((Int×List Int)×Int×List Int)×(Int×List Int)×Int×List Int))(v27:List (((Int×List Int)×Int×List Int)×(Int×List Int)×Int×List Int))(v28 v29 o0:Int)(o0_1:List Int)(o0_2:Int)(o0_3:List Int):Tr:=re ((T [] []).L.L.L.R.L) (AI 84 [(6,.dat (zg (zi (zi (zi i64 (zk (zn zf))) (zi i64 (zk (zn zf)))) (zi (zi i64 (zk (zn zf))) (zi i64 (zk (zn zf)))))) v6),(8,.ptr 0 0),(27,.dat (zg (zi (zi (zi i64 (zk (zn zf))) (zi i64 (zk (zn zf)))) (zi (zi i64 (zk (zn zf))) (zi i64 (zk (zn zf)))))) v27),(28,.dat i64 v28),(29,.dat i64 v29)] [(0,.box [.dat i64 o0,.dat (zk (zn zf)) o0_1,.dat i64 o0_2,.dat (zk (zn zf)) o0_3])] 1)
theorem An(l:List (List UInt8×List UInt8))(x:List UInt8):T l x=.ite (decide (length l≤1000)&&D1 1000000 l) (.ite (decide (length x≤1000000)) (.ite (decide (2≤2)&&true&&decide (2≤1000000)) (.ite (zM [BH l,Ay x] !=0) (.leaf (.tup [.dat zd [],.dat i64 (zM [BH l,Ay x])]) ([(0,.arr false 25 i64 [BH l,Ay x])])) (.ite (Hs x) (L1 (Jh l) (Jh l) ((↑(length (Jh l)):Int)) 0 (F6 x) (F9 x) (Fk x) (Fl x)) .fail)) .fail) .fail) .fail:=by kernel_rfl
def L2(v6:List (((Int×List Int)×Int×List Int)×(Int×List Int)×Int×List Int))(v9 o1:Int)(o1_1:List Int)(o1_2:Int)(o1_3:List Int)(o1_4:Int)(o1_5:List Int)(o1_6:Int)(o1_7:List Int)(o0:Int)(o0_1:List Int)(o0_2:Int)(o0_3:List Int):Tr:=re ((stepT YL (L1 [] [] 0 0 0 [] 0 [])).L.L.L.R.R) (AI 84 [(6,.dat (zg (zi (zi (zi i64 (zk (zn zf))) (zi i64 (zk (zn zf)))) (zi (zi i64 (zk (zn zf))) (zi i64 (zk (zn zf)))))) v6),(8,.ptr 0 0),(9,.dat i64 v9),(10,.ptr 1 0)] [(1,.box [.dat i64 o1,.dat (zk (zn zf)) o1_1,.dat i64 o1_2,.dat (zk (zn zf)) o1_3,.dat i64 o1_4,.dat (zk (zn zf)) o1_5,.dat i64 o1_6,.dat (zk (zn zf)) o1_7]),(0,.box [.dat i64 o0,.dat (zk (zn zf)) o0_1,.dat i64 o0_2,.dat (zk (zn zf)) o0_3])] 2)
theorem Ar(v6:List (((Int×List Int)×Int×List Int)×(Int×List Int)×Int×List Int))(v27:List (((Int×List Int)×Int×List Int)×(Int×List Int)×Int×List Int))(v28 v29 o0:Int)(o0_1:List Int)(o0_2:Int)(o0_3:List Int):stepT YL (L1 v6 v27 v28 v29 o0 o0_1 o0_2 o0_3)=let c':=zk (zn zf);let j':=(length v6:Int);let l':=(((0,[]),0,[]),(0,[]),0,[]);let a':=getD v27 (toNat v29) l';let b':=snd (getD v6 (toNat (zc .i64 (j'-1))) l');let e':=((fst (fst b'),snd (fst b')),fst (snd b'),snd (snd b'));let f':=fst (fst a');let g':=snd (fst a');let h':=fst (snd a');let i':=snd (snd a');let d':=((fst h',snd h'),fst i',snd i');let k':=((fst f',snd f'),fst g',snd g');.ite (decide (v29<v28)) (.ite (decide (0≤v29)&&decide (v29<(length v27:Int))) (.ite (ya ((o0,o0_1),o0_2,o0_3)&&ya k') (.ite (decide (J2 ((o0,o0_1),o0_2,o0_3) k'>0)) (L1 v6 v27 v28 (zc .i64 (v29+1)) o0 o0_1 o0_2 o0_3) (.ite (v29==0) (.ite (ya d') (.leaf (.tup [.dat zd (Kg d'),.dat i64 (Kl d')]) ([(1,.box [.dat i64 (fst f'),.dat c' (snd f'),.dat i64 (fst g'),.dat c' (snd g'),.dat i64 (fst h'),.dat c' (snd h'),.dat i64 (fst i'),.dat c' (snd i')]),(0,.box [.dat i64 o0,.dat c' o0_1,.dat i64 o0_2,.dat c' o0_3])])) .fail) (L2 v6 v29 (fst f') (snd f') (fst g') (snd g') (fst h') (snd h') (fst i') (snd i') o0 o0_1 o0_2 o0_3))) .fail) .fail) (.ite (decide (0≤zc .i64 (j'-1))&&decide (zc .i64 (j'-1)<j')) (.ite (ya e') (.leaf (.tup [.dat zd (Kg e'),.dat i64 (Kl e')]) ([(0,.box [.dat i64 o0,.dat c' o0_1,.dat i64 o0_2,.dat c' o0_3])])) .fail) .fail):=by kernel_rfl
def L3(o2:Int)(o2_1:List Int)(o2_2:Int)(o2_3:List Int)(o2_4:Int)(o2_5:List Int)(o2_6:Int)(o2_7:List Int)(o1:Int)(o1_1:List Int)(o1_2:Int)(o1_3:List Int)(o1_4:Int)(o1_5:List Int)(o1_6:Int)(o1_7:List Int)(o0:Int)(o0_1:List Int)(o0_2:Int)(o0_3:List Int):Tr:=re ((stepT YL (L2 [] 0 0 [] 0 [] 0 [] 0 [] 0 [] 0 [])).L) (AI 84 [(8,.ptr 0 0),(10,.ptr 1 0),(11,.ptr 2 0)] [(2,.box [.dat i64 o2,.dat (zk (zn zf)) o2_1,.dat i64 o2_2,.dat (zk (zn zf)) o2_3,.dat i64 o2_4,.dat (zk (zn zf)) o2_5,.dat i64 o2_6,.dat (zk (zn zf)) o2_7]),(1,.box [.dat i64 o1,.dat (zk (zn zf)) o1_1,.dat i64 o1_2,.dat (zk (zn zf)) o1_3,.dat i64 o1_4,.dat (zk (zn zf)) o1_5,.dat i64 o1_6,.dat (zk (zn zf)) o1_7]),(0,.box [.dat i64 o0,.dat (zk (zn zf)) o0_1,.dat i64 o0_2,.dat (zk (zn zf)) o0_3])] 3)
theorem A1(v6:List (((Int×List Int)×Int×List Int)×(Int×List Int)×Int×List Int))(v9 o1:Int)(o1_1:List Int)(o1_2:Int)(o1_3:List Int)(o1_4:Int)(o1_5:List Int)(o1_6:Int)(o1_7:List Int)(o0:Int)(o0_1:List Int)(o0_2:Int)(o0_3:List Int):stepT YL (L2 v6 v9 o1 o1_1 o1_2 o1_3 o1_4 o1_5 o1_6 o1_7 o0 o0_1 o0_2 o0_3)=let a':=getD v6 (toNat (zc .i64 (v9-1))) (((0,[]),0,[]),(0,[]),0,[]);.ite (decide (0≤zc .i64 (v9-1))&&decide (zc .i64 (v9-1)<(length v6:Int))) (L3 (fst (fst (fst a'))) (snd (fst (fst a'))) (fst (snd (fst a'))) (snd (snd (fst a'))) (fst (fst (snd a'))) (snd (fst (snd a'))) (fst (snd (snd a'))) (snd (snd (snd a'))) o1 o1_1 o1_2 o1_3 o1_4 o1_5 o1_6 o1_7 o0 o0_1 o0_2 o0_3) .fail:=by kernel_rfl
theorem CN(o2:Int)(o2_1:List Int)(o2_2:Int)(o2_3:List Int)(o2_4:Int)(o2_5:List Int)(o2_6:Int)(o2_7:List Int)(o1:Int)(o1_1:List Int)(o1_2:Int)(o1_3:List Int)(o1_4:Int)(o1_5:List Int)(o1_6:Int)(o1_7:List Int)(o0:Int)(o0_1:List Int)(o0_2:Int)(o0_3:List Int):stepT YL (L3 o2 o2_1 o2_2 o2_3 o2_4 o2_5 o2_6 o2_7 o1 o1_1 o1_2 o1_3 o1_4 o1_5 o1_6 o1_7 o0 o0_1 o0_2 o0_3)=let b':=zk (zn zf);let c':=((o2,o2_1),o2_2,o2_3);let d':=((o2_4,o2_5),o2_6,o2_7);let f':=((o1,o1_1),o1_2,o1_3);let g':=((o1_4,o1_5),o1_6,o1_7);let h':=((o0,o0_1),o0_2,o0_3);let e':=Vo (NS g' d') (NS h' c');let a':=Yf e' (NS f' c');let i':=Mn d' a';.ite (zN g'&&zN d') (.ite (zN h'&&zN c') (.ite (zN (NS g' d')&&zN (NS h' c')) (.ite (zN f'&&zN c') (.ite (zN e'&&zN (NS f' c')&&decide (zr (mX f' c',nC f' c')≠0)) (.ite (zN d'&&zN a') (.ite (ya i') (.leaf (.tup [.dat zd (Kg i'),.dat i64 (Kl i')]) ([(2,.box [.dat i64 o2,.dat b' o2_1,.dat i64 o2_2,.dat b' o2_3,.dat i64 o2_4,.dat b' o2_5,.dat i64 o2_6,.dat b' o2_7]),(1,.box [.dat i64 o1,.dat b' o1_1,.dat i64 o1_2,.dat b' o1_3,.dat i64 o1_4,.dat b' o1_5,.dat i64 o1_6,.dat b' o1_7]),(0,.box [.dat i64 o0,.dat b' o0_1,.dat i64 o0_2,.dat b' o0_3])])) .fail) .fail) .fail) .fail) .fail) .fail) .fail:=by kernel_rfl
end T47
end
end Go.Pe
end
section
namespace Go.Pe
open Sp
open Go.Det
noncomputable section
open List Int Prod
namespace T50
def T(l:List (List UInt8×List UInt8))(x:List UInt8):Tr:=tree tL false 9 50 (Ah ([zg (zi zd zd),zd]) (l,x))
def L1(v0:List (List UInt8×List UInt8))(v1:List UInt8)(v5:Int):Tr:=re ((T [] []).L.L.R) (AI 70 [(0,.dat (zg (zi zd zd)) v0),(1,.dat zd v1),(5,.dat i64 v5)] [] 0)
theorem An(l:List (List UInt8×List UInt8))(x:List UInt8):T l x=let a':=getD l 0 ([],[]);let b':=decide (0<(length l:Int));.ite b' (.ite (BI x&&Ed (fst a')) (.ite (decide (Jy x (fst a')≤0)) (.ite b' (.leaf (.dat zd (snd a')) []) .fail) (L1 l x 1)) .fail) .fail:=by kernel_rfl
theorem Ar(v0:List (List UInt8×List UInt8))(v1:List UInt8)(v5:Int):stepT tL (L1 v0 v1 v5)=let a':=getD v0 (toNat (zc .i64 (v5-1))) ([],[]);let b':=getD v0 (toNat v5) ([],[]);let d':=(length v0:Int);let e':=H3 v1 (fst a');let f':=decide (0≤v5)&&decide (v5<d');let g':=H3 (snd b') (snd a');let h':=H3 (fst b') (fst a');let c':=Te g' h';.ite (decide (v5<d')) (.ite f' (.ite (BI v1&&Ed (fst b')) (.ite (decide (Jy v1 (fst b')≤0)) (.ite (decide (0≤zc .i64 (v5-1))&&decide (zc .i64 (v5-1)<d')) (.ite f' (.ite (BI (snd b')&&Ed (snd a')) (.ite (BI (fst b')&&Ed (fst a')) (.ite (BI g'&&Zl h') (.ite (BI v1&&Ed (fst a')) (.ite (BI c'&&BI e') (.ite (BI (snd a')&&BI (Mt c' e')) (.leaf (.dat zd (Lh (snd a') (Mt c' e'))) ([(zo 0 1,.box [.dat zd (fst b'),.dat zd (snd b')]),(0,.box [.dat zd (fst a'),.dat zd (snd a')])])) .fail) .fail) .fail) .fail) .fail) .fail) .fail) .fail) (L1 v0 v1 (zc .i64 (v5+1)))) .fail) .fail) (.ite (decide (0≤zc .i64 (d'-1))&&decide (zc .i64 (d'-1)<d')) (.leaf (.dat zd (snd (getD v0 (toNat (zc .i64 (d'-1))) ([],[])))) []) .fail):=by kernel_rfl
end T50
end
end Go.Pe
end
section
namespace Go.Pe
open Sp
open Go.Det
noncomputable section
open List Int Prod
namespace T114
def T(l:List (List UInt8×List UInt8)):Tr:=tree oX false 9 114 (Ah ([zg (zi zd zd)]) l)
def L1(v23:List (List UInt8×List UInt8))(v24 v25:Int):Tr:=re ((T []).L.L.L.R) (AI 66 [(5,.nil),(23,.dat (zg (zi zd zd)) v23),(24,.dat i64 v24),(25,.dat i64 v25)] [] 0)
theorem An(l:List (List UInt8×List UInt8)):T l=let a':=(length l:Int);let b':=decide (a'>64);.ite true (.ite true (.ite (decide (2≤2)&&true&&decide (2≤1000000)) (.ite (zM [KX (a'==0) 12,KX b' 5] !=0) (.leaf (.tup [.nil,.dat i64 (zM [KX (a'==0) 12,KX b' 5])]) ([(0,.arr false 25 i64 [KX (a'==0) 12,KX b' 5])])) (L1 l (a') 0)) .fail) .fail) .fail:=by kernel_rfl
def L2(v5n:Nat)(v23:List (List UInt8×List UInt8))(v24 v25:Int)(o0:List (((Int×List Int)×Int×List Int)×(Int×List Int)×Int×List Int)):Tr:=re ((stepT oX (L1 [] 0 0)).L.L.L.R.L.L.R.L) (AI 66 [(5,.sl 0 8 0 v5n none),(23,.dat (zg (zi zd zd)) v23),(24,.dat i64 v24),(25,.dat i64 v25)] [(0,.arr false 142 (zi (zi (zi i64 (zk (zn zf))) (zi i64 (zk (zn zf)))) (zi (zi i64 (zk (zn zf))) (zi i64 (zk (zn zf))))) o0)] 1)
theorem Ar(v23:List (List UInt8×List UInt8))(v24 v25:Int):stepT oX (L1 v23 v24 v25)=let a':=getD v23 (toNat v25) ([],[]);.ite (decide (v25<v24)) (.ite (decide (0≤v25)&&decide (v25<(length v23:Int))) (.ite (decide (2≤2)&&true&&(decide (2≤1000)&&List.all [fst a',snd a'] fun s=>decide (length s≤1000000))) (.ite (Ef [fst a',snd a'] !=0) (.leaf (.tup [.nil,.dat i64 (Ef [fst a',snd a'])]) ([(zo 0 1,.arr false 22 zd [fst a',snd a']),(0,.box [.dat zd (fst a'),.dat zd (snd a')])])) (.ite (Hs (fst a')) (.ite (Hs (snd a')) (.ite (decide (v25>0)) .fail (.ite (decide (1≤1)&&decide (0<1)&&decide ((2*1+1000)*128≤281474976710656)) (L2 1 v23 v24 (zc .i64 (v25+1)) ([((fG (fst a')),(F6 (snd a'),F9 (snd a')),Fk (snd a'),Fl (snd a'))])) .fail)) .fail) .fail)) .fail) .fail) (.leaf (.tup [.nil,.dat i64 (0:Int)]) []):=by kernel_rfl
theorem A1(v5n:Nat)(v23:List (List UInt8×List UInt8))(v24 v25:Int)(o0:List (((Int×List Int)×Int×List Int)×(Int×List Int)×Int×List Int)):stepT oX (L2 v5n v23 v24 v25 o0)=let a':=getD v23 (toNat v25) ([],[]);let e':=zk (zn zf);let i':=zc .i64 (v25-1);let b':=fst (getD o0 (toNat i') (((0,[]),0,[]),(0,[]),0,[]));let c':=zi (zi i64 e') (zi i64 e');let g':=fG (fst a');let d':Tr:=.ite (decide (1≤1)&&true&&decide (v5n=length o0)&&decide ((2*(v5n+1)+1000)*128≤281474976710656)) (L2 (zo v5n 1) v23 v24 (zc .i64 (v25+1)) (o0++[(g',(F6 (snd a'),F9 (snd a')),Fk (snd a'),Fl (snd a'))])) .fail;let f':=((fst (fst b'),snd (fst b')),fst (snd b'),snd (snd b'));let h':=zi c' c';.ite (decide (v25<v24)) (.ite (decide (0≤v25)&&decide (v25<(length v23:Int))) (.ite (decide (2≤2)&&true&&(decide (2≤1000)&&List.all [fst a',snd a'] fun s=>decide (length s≤1000000))) (.ite (Ef [fst a',snd a'] !=0) (.leaf (.tup [.nil,.dat i64 (Ef [fst a',snd a'])]) ([(zo 1 1,.arr false 22 zd [fst a',snd a']),(1,.box [.dat zd (fst a'),.dat zd (snd a')]),(0,.arr false 142 h' o0)])) (.ite (Hs (fst a')) (.ite (Hs (snd a')) (.ite (decide (v25>0)) (.ite (decide (0≤zc .i64 (v25-1))&&decide (zc .i64 (v25-1)<(↑v5n:Int))) (.ite (decide (toNat i'<length o0)) (.ite (ya g'&&ya f') (.ite (decide (J2 g' f'≤0)) (.leaf (.tup [.nil,.dat i64 (11:Int)]) ([(zo (zo 1 1) 1,.box [.dat i64 (F6 (fst a')),.dat e' (F9 (fst a')),.dat i64 (Fk (fst a')),.dat e' (Fl (fst a')),.dat i64 (F6 (snd a')),.dat e' (F9 (snd a')),.dat i64 (Fk (snd a')),.dat e' (Fl (snd a'))]),(zo 1 1,.arr false 22 zd [fst a',snd a']),(1,.box [.dat zd (fst a'),.dat zd (snd a')]),(0,.arr false 142 h' o0)])) d') .fail) .fail) .fail) d') .fail) .fail)) .fail) .fail) (.leaf (.tup [.sl 0 8 0 v5n none,.dat i64 (0:Int)]) ([(0,.arr false 142 h' o0)])):=by kernel_rfl
end T114
end
end Go.Pe
end
section
namespace Go.Pe
open Sp
open Go.Det
noncomputable section
open List Int Prod
namespace T49
def T(l:List (List UInt8×List UInt8)):Tr:=tree wN false 9 49 (Ah ([zg (zi zd zd)]) l)
theorem An(l:List (List UInt8×List UInt8)):T l=.ite (decide (length l≤1000)&&D1 1000000 l) (.leaf (.dat i64 (BH l)) []) .fail:=by kernel_rfl
end T49
namespace T48
def T(l:List (List UInt8×List UInt8)):Tr:=tree fF false 9 48 (Ah ([zg (zi zd zd)]) l)
def L1(v0:List (List UInt8×List UInt8))(v3:Int):Tr:=re ((T []).R.R) (AI 55 [(0,.dat (zg (zi zd zd)) v0),(3,.dat i64 v3)] [] 0)
theorem An(l:List (List UInt8×List UInt8)):T l=.ite ((length l:Int)==0) (.leaf (.dat i64 (12:Int)) []) (.ite (decide ((length l:Int)>64)) (.leaf (.dat i64 (5:Int)) []) (L1 l 0)):=by kernel_rfl
theorem Ar(v0:List (List UInt8×List UInt8))(v3:Int):stepT fF (L1 v0 v3)=let a':=getD v0 (toNat v3) ([],[]);let b':=L1 v0 (zc .i64 (v3+1));let c':=fst (getD v0 (toNat (zc .i64 (v3-1))) ([],[]));let k':=(length v0:Int);let d':Tr:=.ite (Ay (snd a') !=0) (.leaf (.dat i64 (Ay (snd a'))) []) b';let e':Tr:=.ite (Ay (fst a') !=0) (.leaf (.dat i64 (Ay (fst a'))) []) b';let f':=decide (0≤v3)&&decide (v3<k');let g':=decide (0≤zc .i64 (v3-1))&&decide (zc .i64 (v3-1)<k');let h':Tr:=.ite true (.leaf (.dat i64 (11:Int)) []) b';let i':=decide (Jy c' (fst a')≥0);let j':=BI c'&&Ed (fst a');.ite (decide (v3<k')) (.ite f' (.ite (decide (length (fst a')≤1000000)) (.ite (Ay (fst a')==0) (.ite f' (.ite (decide (length (snd a')≤1000000)) (.ite (Ay (snd a')==0) (.ite (decide (v3>0)) (.ite g' (.ite f' (.ite j' (.ite i' h' d') .fail) .fail) .fail) d') d') .fail) .fail) (.ite (Ay (fst a')==0) (.ite (decide (v3>0)) (.ite g' (.ite f' (.ite j' (.ite i' h' e') .fail) .fail) .fail) e') e')) .fail) .fail) (.leaf (.dat i64 (0:Int)) []):=by kernel_rfl
end T48
namespace T45
def T(l:List (List UInt8×List UInt8))(n d:Int):Tr:=tree fF false 9 45 (Ah ([zg (zi zd zd),zn zt,zn zt]) (l,n,d))
def L1(v0:List (List UInt8×List UInt8))(v2 v7:Int):Tr:=re ((T [] 0 0).R) (AI 36 [(0,.dat (zg (zi zd zd)) v0),(2,.dat i64 v2),(7,.dat i64 v7)] [] 0)
theorem An(l:List (List UInt8×List UInt8))(n d:Int):T l n d=.ite (decide ((length l:Int)>n)) (.leaf (.bl false) []) (L1 l d 0):=by kernel_rfl
theorem Ar(v0:List (List UInt8×List UInt8))(v2 v7:Int):stepT fF (L1 v0 v2 v7)=let a':=decide (v7<(length v0:Int));let b':=decide (0≤v2)&&decide (v2≤1000);let c':=getD v0 (toNat v7) ([],[]);.ite (a') (.ite (decide (0≤v7)&&a') (.ite b' (.ite (!A6 (fst c') v2) (.leaf (.bl false) []) (.ite (decide (0≤v7)&&a') (.ite b' (.ite (!A6 (snd c') v2) (.leaf (.bl false) []) (L1 v0 v2 (zc .i64 (v7+1)))) .fail) .fail)) .fail) .fail) (.leaf (.bl true) []):=by kernel_rfl
end T45
end
noncomputable section
open List Int Prod
namespace T23
def T(l:List Int):Tr:=tree pG false 9 23 (Ah ([zg i64]) l)
def L1(v0:List Int)(v3:Int):Tr:=re ((T [])) (AI 19 [(0,.dat (zg i64) v0),(3,.dat i64 v3)] [] 0)
theorem An(l:List Int):T l=L1 l 0:=by kernel_rfl
theorem Ar(v0:List Int)(v3:Int):stepT pG (L1 v0 v3)=let a':=decide (v3<(length v0:Int));.ite (a') (.ite (decide (0≤v3)&&a') (.ite (getD v0 (toNat v3) 0 !=0) (.ite (decide (0≤v3)&&a') (.leaf (.dat i64 (getD v0 (toNat v3) 0)) []) .fail) (L1 v0 (zc .i64 (v3+1)))) .fail) (.leaf (.dat i64 (0:Int)) []):=by kernel_rfl
end T23
end
end Go.Pe
end
section
namespace Go.Pe
open Sp
open Go.Det
noncomputable section
open List Int Prod
namespace T214
def T(s t:List UInt8):Tr:=tree pG false 9 214 (Ah ([zd,zd]) (s,t))
theorem An(s t:List UInt8):T s t=let a':=(length t:Int);let b':=decide (toNat a'≤length s);.ite (decide ((length s:Int)≥a')) (.ite (decide (0≤a')&&decide (0≤toNat a')&&b') (.ite (take (toNat a') s==t) (.ite (decide (0≤a')&&true&&b'&&decide (length s≤length s)) (.leaf (.dat zd (take (zG (length s) (toNat a')) (drop (toNat a') s))) []) .fail) (.leaf (.dat zd s) [])) .fail) (.leaf (.dat zd s) []):=by kernel_rfl
end T214
namespace T248
def T(a:Int×List Int):Tr:=tree vP false 9 248 (Ah ([zi i64 (zk (zn zf))]) a)
theorem An(a:Int×List Int):T a=let c':=[(0,.box [.dat i64 (fst a),.dat (zk (zn zf)) (snd a)])];let d':=Bp (Ag (zr (fst a,snd a)));let a':=(↑(length d'):Int);let b':=getD d' (toNat (zc .i64 (a'-1))) 0;.ite (Dt (fst a,snd a)) (.ite (a'==0) (.leaf (.dat i64 (0:Int)) c') (.ite (decide (0≤zc .i64 (a'-1))&&decide (zc .i64 (a'-1)<a')) (.ite (Sp.u64 b') (.leaf (.dat i64 (zc .i64 (zc .i64 (64*zc .i64 (a'-1))+EG b'))) c') .fail) .fail)) .fail:=by kernel_rfl
end T248
namespace T199
def T(a:Int×List Int):Tr:=tree oL false 9 199 (Ah ([zi i64 (zk (zn zf))]) a)
theorem An(a:Int×List Int):T a=let a':=[(0,.box [.dat i64 (fst a),.dat (zk (zn zf)) (snd a)])];let b':=AW (zr (fst a,snd a));.ite (Ba (fst a,snd a)) (.ite (decide (Om (fst a,snd a)>1800)) (.ite (Ba (fst a,snd a)) (.ite (Rg b' [(45:UInt8)]) (.leaf (.dat zl (decide ((↑(length (AZ b')):Int)>600))) a') .fail) .fail) (.leaf (.bl false) a')) .fail:=by kernel_rfl
end T199
namespace T131
def T(a:(Int×List Int)×Int×List Int):Tr:=tree sC false 9 131 (Ah ([zi (zi i64 (zk (zn zf))) (zi i64 (zk (zn zf)))]) a)
theorem An(a:(Int×List Int)×Int×List Int):T a=let b':=zk (zn zf);let c':=(fst (fst a),snd (fst a));let d':=(fst (snd a),snd (snd a));let a':=[(0,.box [.dat i64 (fst (fst a)),.dat b' (snd (fst a)),.dat i64 (fst (snd a)),.dat b' (snd (snd a))])];.ite (Ba c') (.ite (D0 c') (.leaf (.bl true) a') (.ite (Ba d') (.leaf (.dat zl (D0 d')) a') .fail)) .fail:=by kernel_rfl
end T131
namespace T132
def T(a:(Int×List Int)×Int×List Int):Tr:=tree sC false 9 132 (Ah ([zi (zi i64 (zk (zn zf))) (zi i64 (zk (zn zf)))]) a)
theorem An(a:(Int×List Int)×Int×List Int):T a=let b':=(fst (fst a),snd (fst a));let c':=(fst (snd a),snd (snd a));let d':=zk (zn zf);let a':=[(0,.box [.dat i64 (fst (fst a)),.dat d' (snd (fst a)),.dat i64 (fst (snd a)),.dat d' (snd (snd a))])];.ite true (.ite (Cz c') (.ite (Ba b') (.leaf (.dat zd (AW (zr b'))) a') .fail) (.ite (Ba b') (.ite (decide (length (AW (zr b'))+1≤4611686018427387904)) (.ite (Ba c') (.ite (decide (length (AW (zr b')++[(47:UInt8)])+length (AW (zr c'))≤4611686018427387904)) (.leaf (.dat zd (AW (zr b')++[(47:UInt8)]++AW (zr c'))) a') .fail) .fail) .fail) .fail)) .fail:=by kernel_rfl
end T132
namespace T103
def T(a:(Int×List Int)×Int×List Int):Tr:=tree rC false 9 103 (Ah ([zi (zi i64 (zk (zn zf))) (zi i64 (zk (zn zf)))]) a)
theorem An(a:(Int×List Int)×Int×List Int):T a=let b':=((fst (fst a),snd (fst a)),fst (snd a),snd (snd a));let c':=zk (zn zf);let a':=[(0,.box [.dat i64 (fst (fst a)),.dat c' (snd (fst a)),.dat i64 (fst (snd a)),.dat c' (snd (snd a))])];.ite (ya b') (.ite (H9 b') (.leaf (.tup [.dat zd [],.dat i64 (4:Int)]) a') (.ite (ya b') (.leaf (.tup [.dat zd (Jm b'),.dat i64 (0:Int)]) a') .fail)) .fail:=by kernel_rfl
end T103
namespace T84
def T(l:List (List UInt8)):Tr:=tree uK false 9 84 (Ah ([zg zd]) l)
def L1(v6:List (List UInt8))(v7 v8:Int):Tr:=re ((T [])) (AI 18 [(6,.dat (zg zd) v6),(7,.dat i64 v7),(8,.dat i64 v8)] [] 0)
theorem An(l:List (List UInt8)):T l=L1 l ((length l:Int)) 0:=by kernel_rfl
theorem Ar(v6:List (List UInt8))(v7 v8:Int):stepT uK (L1 v6 v7 v8)=let a':=getD v6 (toNat v8) [];.ite (decide (v8<v7)) (.ite (decide (0≤v8)&&decide (v8<(length v6:Int))) (.ite (decide (length a'≤1000000)) (.ite (Ay a' !=0) (.leaf (.dat i64 (Ay a')) []) (L1 v6 v7 (zc .i64 (v8+1)))) .fail) .fail) (.leaf (.dat i64 (0:Int)) []):=by kernel_rfl
end T84
namespace T25
def T(a:List UInt8)(e:Int)(w:List UInt8)(bad:Int):Tr:=tree tY false 9 25 (Ah ([zd,zn zt,zd,zn zt]) (a,e,w,bad))
theorem An(a:List UInt8)(e:Int)(w:List UInt8)(bad:Int):T a e w bad=let b':Tr:=.leaf (.bl false) [];let a':Tr:=.ite (e==0) (.leaf (.dat zl (a==w)) []) b';.ite (bad==0) (.ite (decide (length w≤1000000)) (.ite (EM w !=0) (.ite (a==[]) (.leaf (.dat zl (e==EM w)) []) b') a') .fail) (.ite (bad !=0) (.ite (a==[]) (.leaf (.dat zl (e==bad)) []) b') a'):=by kernel_rfl
end T25
end
end Go.Pe
end
section
namespace Go.Pe
open Sp
open Go.Det
namespace T200
variable {Q:PV→Ob→Prop}
theorem Aj(neg:Bool)(V:Nat)(h0:0<V)(hV:Small V)(hG:(Cb (V+1) V).length≤1000000)(hfin:Exit neg (Cb (V+1) V) Q):Ends Pj (L1 neg (Bp (V:Int)) 1 [1000000000000000000]) Q:=by
 have hlt:V % 10^18<10^18:=yk _ (by decide);have hg:∀s,s=(if V/10^18=0 then zm (V % 10^18)else Fx 18 (V % 10^18))→[s]++(if V/10^18=0 then[]else Cb V (V/10^18))=Cb (V+1) V:=by
  rintro s rfl;have eg:Cb (V+1) V=if V<10^18 then[zm V]else Fx 18 (V % 10^18)::Cb V (V/10^18):=rfl
  rw[eg];by_cases c:V<10^18
  ·rw[if_pos c,if_pos (by omega),if_pos (by omega),Nat.mod_eq_of_lt c];rfl
  ·rw[if_neg c,if_neg (by omega),if_neg (by omega)];rfl
 have next:∀s,s=(if V/10^18=0 then zm (V % 10^18)else Fx 18 (V % 10^18))→Ends Pj (L2 neg (Bp ((V/10^18:Nat):Int)) 1 1 [s] [1000000000000000000]) Q:=
  fun s hs=>AS neg _ hG hfin V (V/10^18) [s] (by omega) (hV.le (Nat.div_le_self _ _)) (hg s hs)
 refine zR (Ar ..) (ze (decide_eq_true (by have:=Ip h0;omega)) (ze (Aa rfl hV.div) ?_));rw[Sn,Su];rcases Nat.eq_zero_or_pos (V % 10^18)with r0|r0
 ·have q0:V/10^18≠0:=by omega
  rw[r0,show((0:Nat):Int)=0 from rfl,KI];refine zq rfl (ze (decide_eq_true (by have:=Ip (V:=V/10^18) (by omega);omega)) (ze rfl (ze rfl (ze rfl (next _ ?_)))));have hp:=Q2 0 (by decide);rw[yd (by omega)]at hp;rw[if_neg q0,r0, ←hp];rfl
 ·rw[Ss (r:=((V % 10^18:Nat):Int)) (by omega) (by omega)];have hgd:List.getD [((V % 10^18:Nat):Int)] 0 0=((V % 10^18:Nat):Int):=rfl;rw[hgd,LH];have hd:=RU hlt;have hr18:((V % 10^18:Nat):Int)<1000000000000000000:=by omega
  have h18:0<(zm (V % 10^18)).length:=by
   rw[zZ,Lib.nDigits];split<;>omega
  refine ze rfl (ze rfl (ze (Aa (Aa (decide_eq_true (zO _)) (decide_eq_true hr18)) rfl) ?_));rw[wr _ (by omega) (by omega)];by_cases q0:V/10^18=0
  ·rw[q0];refine zq (by rw[show((0:Nat):Int)=0 from rfl,KI];rfl) (ze rfl ?_);have:=next _ rfl;rw[if_pos q0,q0]at this;exact this
  ·have hpad:=Q2 _ hlt;refine ze (decide_eq_true (by have:=Ip (V:=V/10^18) (by omega);omega)) (ze (Aa (Aa (decide_eq_true (by omega)) (decide_eq_true (by omega))) rfl) (ze (decide_eq_true ?_) (ze rfl (next _ ?_))))
   ·rw[←zy,hpad];unfold Fx;rw[zy,List.length_replicate];omega
   ·rw[if_neg q0];exact hpad
end T200
end Go.Pe
end
section
namespace Go.Pe
open Sp
open Go.Det
theorem rF(n:Nat):(18446744073709551616:Nat)^n≤10^(20*n):=by
 rw[Nat.pow_mul];exact Nat.pow_le_pow_left (by decide) n
theorem XB{V k:Nat}(h:(V:Int)<(Ak:Int)^k):V<18446744073709551616^k:=by
 rw[←QN k]at h;exact z8.mp h
theorem Xy{V k:Nat}(h:(V:Int)<(Ak:Int)^k)(hk:1≤k):(zm V).length≤20*k:=by
 rw[zZ];obtain⟨j,hj⟩:∃j,20*k=j+1:=⟨20*k-1,by omega⟩;have h3:=Nat.lt_of_lt_of_le (XB h) (rF k);rw[hj]at h3 ⊢;exact MG j V h3
theorem GQ{V:Nat}(h:Small V):(zm V).length≤180000:=Xy (k:=9000) h.h (by decide)
theorem LJ:∀(f v:Nat) (s:List UInt8),s∈Cb f v→0<s.length
 |0,v,s,h=>by cases h
 |f+1,v,s,h=>by
  have eg:Cb (f+1) v=if v<10^18 then[zm v]else Fx 18 (v % 10^18)::Cb f (v/10^18):=rfl
  have hd:∀r,0<(zm r).length:=fun r=>by rw[zZ,Lib.nDigits];split<;>omega
  rw[eg]at h;split at h
  ·rw[List.mem_singleton]at h;subst h;exact hd _
  ·rcases List.mem_cons.1 h with rfl|h
   ·unfold Fx;rw[zy];have:=hd (v % 10^18);omega
   ·exact LJ f _ s h
theorem On:∀(l:List (List UInt8)),(∀s∈l,0<s.length)→l.length≤l.flatten.length
 |[],_=>zY _
 |s::l,h=>by
  have h1:=On l fun x hx=>h x (List.mem_cons_of_mem _ hx)
  have h2:=h s (List.mem_cons_self ..);rw[List.flatten_cons,zy,zw];omega
theorem YJ{V:Nat}(h:0<V):AW (-(V:Int))=45::zm V:=Lib.itoa_neg V h
theorem gJ(hfmt:Ae AV 249 TA):∀g sp,Pj.sp g=some sp→Ae AV g sp:=Ac jE (Ac (T218.ok EW) (Ac Qd (Ac hfmt (Ac Yt (fun g sp h=>by cases h)))))
namespace T200
variable {Q:PV→Ob→Prop}
theorem XR(neg:Bool){V:Nat}(hV:Small V)(hq:∀ob,Q (.dat .str (if neg=true then 45::zm V else zm V)) ob):Exit neg (Cb (V+1) V) Q:=by
 have hne:=LJ (V+1) V;have ht:=HK (V+1) V (by omega);have hd:=GQ hV;have hl:=On _ hne;have hr:(Cb (V+1) V).flatten.length=(zm V).length:=by
  rw[←ht,zL,zL,List.map_reverse,List.sum_reverse]
 have hpos:0<(Cb (V+1) V).length:=by
  have eg:Cb (V+1) V=if V<10^18 then[zm V]else Fx 18 (V % 10^18)::Cb V (V/10^18):=rfl
  rw[eg];split<;>simp
 generalize Cb (V+1) V=G at*;unfold Exit;refine zu (fun c=>ze rfl (ze rfl ?_)) (fun c=>?_)
 ·rw[if_pos c]at hq;rw[wr _ (by omega) (by omega)];exact Es G (45::zm V) (by rw[zw];omega) (by omega) hq G.length [45] _ 1 (zY _) rfl rfl (by decide) (by rw[List.take_length,ht];rfl)
 ·rw[if_neg (by rw[c];decide)]at hq;rw[wr _ (by omega) (by omega)];obtain⟨i,hi⟩:∃i,i+1=G.length:=⟨G.length-1,by omega⟩;exact EY G (zm V) (by omega) (by omega) hq i hi _ (by omega) (hne _ (List.getElem_mem _)) ht
theorem ok(hfmt:Ae AV 249 TA):Ae AV 200 qD:=by
 refine AB (X:=Pj) rfl (gJ hfmt) (d:=9) (by kernel_rfl) (by kernel_rfl) (by kernel_rfl) (fun(a:Int×List Int) ha=>?_) (Ad (by kernel_rfl));have ha:Ba a=true:=ha;have hk:=(B1 ha).1;have hr:=(DE hk).1;refine zC (An a) (zu (fun c=>ze (Ds hr.1 hr.2) (zh (zI rfl rfl ?_))) (fun c=>ze hk ?_))
 ·have c:a.2=[]:=by simpa using c
  show AW a.1=AW (zr a);rw[Bn c]
 ·have c:a.2≠[]:=by rintro k;rw[k]at c;simp at c
  have hb:=bounds ha;have hbig:(9223372036854775808:Int)≤Ag (zr a):=by
   obtain⟨_,hw⟩:=DE hk;obtain⟨s,w⟩:=a;rcases hw with hw|⟨_,_,h3⟩
   ·exact absurd hw c
   ·rw[T6 c,Ai];have h3:9223372036854775808≤Am w:=h3;split<;>omega
  obtain⟨V,hV⟩:=zz (AH (zr a));have hVa:=Ai (zr a);rw[hV]at hb hbig hVa ⊢;have hs:Small V:=⟨hb⟩;have hd:=GQ hs;have hp:0<V:=by omega
  have hl:=On _ (LJ (V+1) V);have ht:=HK (V+1) V (by omega);have hlen:(Cb (V+1) V).flatten.length=(zm V).length:=by
   rw[←ht,zL,zL,List.map_reverse,List.sum_reverse]
  refine Aj _ V hp hs (by omega) (XR _ hs fun ob=>zI rfl rfl ?_);show(if decide (zr a<0)=true then 45::zm V else zm V)=AW (zr a);by_cases n:zr a<0
  ·rw[if_pos (decide_eq_true n),show zr a= -(V:Int)from by omega,YJ hp]
  ·rw[if_neg (by simpa using n),show zr a=(V:Int)from by omega,LH]
end T200
end Go.Pe
end
section
namespace Go.Pe
open Sp
open Go.Det
theorem UD{k:Nat}{n d:Int}(hd:d≠0)(h1:Ag n<(Ak:Int)^k)(h2:Ag d<(Ak:Int)^k):KP k (Rat.divInt n d):=by
 unfold KP;rw[Rat.num_divInt,Rat.den_divInt,if_neg hd];constructor
 ·refine Int.lt_of_le_of_lt Vj ?_;rw[IK];have:Ag d.sign=1:=by rw[Ai,Int.natAbs_sign_of_ne_zero hd];rfl
  rw[this,Int.one_mul];exact h1
 ·refine Int.lt_of_le_of_lt ?_ h2;rw[Ai];exact Int.ofNat_le.mpr (Nat.div_le_self _ _)
theorem gP{f:AD}(h:zN f=true)(h0:zr f.1≠0):zN (S5 f)=true:=by
 obtain⟨a1,a2,la1,la2,a0⟩:=FU h;exact(MC a2 a1 h0).De (UD h0 la2 la1)
theorem lC{f:AD}(h:zN f=true):zN (qE f)=true:=by
 obtain⟨a1,a2,la1,la2,a0⟩:=FU h;unfold zN ya at*;have hk:=Uu (k:=4000) (B1 a1).1 (by omega) (by omega) (UH (B1 a1).1 la1);exact Aa (Aa (FF hk.1 (by show Ag (zr (CR f.1))<_;rw[Io,H4];exact la1)) (FF (B1 a2).1 la2)) (decide_eq_true a0)
theorem WQ:∀g sp,uF.sp g=some sp→Ae AV g sp:=Ac T160.ok (Ac T80.ok (Ac T82.ok (Ac T161.ok (fun g sp h=>by cases h))))
theorem T81.ok:Ae AV 81 mC:=by
 refine AB (X:=uF) rfl WQ (d:=9) (by kernel_rfl) (by kernel_rfl) (by kernel_rfl) (fun(i:((Int×List Int)×(Int×List Int))×((Int×List Int)×(Int×List Int))) hi=>?_) (Ad (by kernel_rfl));obtain⟨a,b⟩:=i;have hi:(zN a&&zN b)=true:=hi;rw[zj]at hi;obtain⟨b1,b2,lb1,lb2,b0⟩:=FU hi.2;exact zC (T81.An a b) (ze (B1 b1).1 (ze (Aa hi.1 (lC hi.2)) (zh (zI rfl rfl rfl))))
theorem T86.ok:Ae AV 86 mW:=by
 refine AB (X:=uF) rfl WQ (d:=9) (by kernel_rfl) (by kernel_rfl) (by kernel_rfl) (fun(i:((Int×List Int)×(Int×List Int))×((Int×List Int)×(Int×List Int))) hi=>?_) (Ad (by kernel_rfl));obtain⟨a,b⟩:=i;have hi:(zN a&&zN b&&decide (zr b.1≠0))=true:=hi;rw[zj,zj,decide_eq_true_eq]at hi;exact zC (T86.An a b) (ze (Aa hi.1.2 (decide_eq_true hi.2)) (ze (Aa hi.1.1 (gP hi.1.2 hi.2)) (zh (zI rfl rfl rfl))))
end Go.Pe
end
section
namespace Go.Sp
theorem Dc{a:Bool×List Int}(h:Cy a=true):A4 a.2=true∧a.2.length≤3000∧(a.1=true→a.2≠[]):=by
 unfold Cy at h;rw[zj,zj,decide_eq_true_eq,Bool.or_eq_true,decide_eq_true_eq,Bool.not_eq_true']at h;refine⟨h.1.1,h.1.2,fun k=>?_⟩;rcases h.2 with x|x
 ·rw[k]at x;cases x
 ·exact x
theorem FV{a:Bool×List Int}(h:Cy a=true):Ag (vR a)=Aq a.2∧0≤Aq a.2:=by
 obtain⟨h1,h2,h3⟩:=Dc h;have h0:=Az (b:=B9) (by decide) (Bj h1).2.1;have h0:0≤Aq a.2:=h0;refine⟨?_,h0⟩;unfold vR;rw[Ai];split<;>omega
theorem OQ{a:Bool×List Int}(h:Cy a=true):a.1=rN (vR a):=by
 obtain⟨h1,h2,h3⟩:=Dc h;obtain⟨_,h0⟩:=FV h;unfold rN vR;cases ha:a.1 with
 |false=>rw[if_neg (by decide)];symm;rw[decide_eq_false_iff_not];omega
 |true=>
  rw[if_pos rfl];symm;rw[decide_eq_true_eq];have:=II (b:=B9) (by decide) (Bj h1).2.1 (Bj h1).2.2 (h3 ha);have:0<Aq a.2:=this;omega
theorem nU{a:Bool×List Int}(h:Cy a=true):a.2=rW (vR a):=by
 unfold rW;rw[(FV h).1];exact Ih (b:=B9) (by decide) (Bj (Dc h).1).2.1 (Bj (Dc h).1).2.2
theorem mB{a:Bool×List Int}(h:Cy a=true):a=(rN (vR a),rW (vR a)):=Prod.ext (OQ h) (nU h)
theorem Un(k:Nat):(B9:Int)^k=10^(9*k):=by
 have:(B9:Int)=10^9:=by decide
 rw[this, ←Int.pow_mul]
theorem iL{n:Int}{k:Nat}(h:n.natAbs<10^(9*k)):Ag n<(B9:Int)^k:=by
 rw[Ai,Un];have:((10^(9*k):Nat):Int)=(10:Int)^(9*k):=by simp
 rw[←this];exact z8.mpr h
theorem Mv(n:Int):0≤Ag n:=by rw[Ai];omega
theorem Js(n:Int):Aq (rW n)=Ag n:=CE (b:=B9) (by decide) (Mv n)
theorem EB(n:Int):vR (rN n,rW n)=n:=by
 unfold vR;show(if rN n=true then -Aq (rW n)else Aq (rW n))=n;rw[Js,Ai];unfold rN;by_cases h:n<0
 ·rw[if_pos (decide_eq_true h)];omega
 ·rw[if_neg (by simpa using h)];omega
theorem QQ{n:Int}(h:n.natAbs<10^27000):Cy (rN n,rW n)=true:=by
 have k:27000=9*3000:=rfl;rw[k]at h;obtain⟨h1,_,h3,h4⟩:=Gw (n:=Ag n) (k:=3000) (Mv n) (iL h) (by decide);unfold Cy;have h5:A4 (rW n)=true:=h1;have h6:(rW n).length≤3000:=h4;rw[h5,decide_eq_true h6];cases hb:rN n with
 |false=>rfl
 |true=>
  have:rW n≠[]:=by
   intro e;have h7:=Js n;rw[e]at h7;have h7:0=Ag n:=h7;unfold rN at hb;have hb:=of_decide_eq_true hb;rw[Ai]at h7;omega
  rw[decide_eq_true this];rfl
theorem YP(k:Nat):((10^k:Nat):Int)=(10:Int)^k:=by rw[zJ];rfl
theorem pA{x:Nat}(j k:Nat)(h:j≤k)(hx:x<10^j):x<10^k:=Nat.lt_of_lt_of_le hx (Nat.pow_le_pow_right (by decide) h)
theorem qW{a:Bool×List Int}(h:Cy a=true):(vR a).natAbs<10^27000:=by
 obtain⟨h1,h2,h3⟩:=Dc h;have h4:=Bo (b:=B9) (by decide) (Bj h1).2.1;have h5:(B9:Int)^a.2.length≤(B9:Int)^3000:=AL (by decide) h2;have h6:Ag (vR a)<(B9:Int)^3000:=by rw[(FV h).1];exact zH h4 h5
 rw[Ai,Un]at h6;have:=YP (9*3000);rw[←this]at h6;have k:27000=9*3000:=rfl;rw[k];exact z8.mp h6
theorem Y8{neg:Bool}{w:List Int}{n:Int}(hd:Av B9 w)(hv:Aq w=Ag n)(hn:n≠0→neg=rN n):(B5 neg w,Au w)=(rN n,rW n):=by
 have h:=Go.Pe.Lv (neg:=neg) hd hv;rw[h];have:(if neg=true then -Ag n else Ag n)=n:=by
  by_cases h0:n=0
  ·rw[h0];unfold Ag;split<;>simp
  ·rw[hn h0];unfold rN;rw[Ai];by_cases h:n<0
   ·rw[if_pos (decide_eq_true h)];omega
   ·rw[if_neg (by simpa using h)];omega
 rw[this]
theorem Ep{s:List UInt8}(h:BI s=true):Cy (Bx s,Br s)=true∧vR (Bx s,Br s)=A8 s∧Cy (Bh s,Bd s)=true∧vR (Bh s,Bd s)=AJ s∧(AG s).num=A8 s∧((AG s).den:Int)=AJ s∧Hs s=true∧(A8 s).natAbs<10^4000∧(AJ s).natAbs<10^4000:=by
 obtain⟨h1,h2⟩:=Hi h;obtain⟨s1,s2⟩:=Qr h;have e:(AG s).num=A8 s∧((AG s).den:Int)=AJ s:=by
  have:=JF (AG s);rw[h1]at this;exact⟨this.1.symm,this.2.symm⟩
 have l1:(A8 s).natAbs<10^4000:=by rw[←e.1];exact s1
 have l2:(AJ s).natAbs<10^4000:=by rw[←e.2,zP];exact s2
 have m:∀x:Nat,x<10^4000→x<10^27000:=fun x hx=>pA 4000 27000 (by decide) hx
 refine⟨QQ (m _ l1),EB _,QQ (m _ l2),EB _,e.1,e.2,?_,l1,l2⟩;obtain⟨c1,c2,c3⟩:=Ib (AG s);rw[h1]at c1 c2 c3;have k1:=Go.Pe.T77.CP s;unfold Hs D3;rw[decide_eq_true (p:=s.length≤5999) (by omega),decide_eq_true (p:=(Ax s).length≤5999) (by omega),decide_eq_true (p:=(AO s).length≤5999) (by omega),zW,zW,Bool.and_true,zj];refine⟨?_,?_⟩
 ·obtain⟨i1,i2,i3,i4⟩:=Ej (AG s).num;rw[c1];unfold AZ at i2;split at i2
  ·next c=>rw[if_pos c,i2];exact DS _
  ·next c=>rw[if_neg c,i2];exact DS _
 ·rw[c2];split
  ·rfl
  ·rw[if_neg (E3 (DS _))];exact DS _
end Go.Sp
end
section
namespace Go.Pe
open Sp
open Go.Det
theorem U0{x:Int}{k:Nat}(h:x.natAbs<10^k):Ag x<(Ak:Int)^k:=by
 have h4:((10^k:Nat):Int)=(10:Int)^k:=zJ ..;rw[Ai];refine zH ?_ (dU k);rw[←h4];exact z8.mpr h
theorem G3{q:Rat}{k:Nat}(h:Gr k q)(hk:k≤4000):KP 4000 q:=by
 obtain⟨h1,h2⟩:=h.mono hk;have h3:=U0 (k:=4000) (x:=(q.den:Int)) (by rw[zP];exact h2);rw[Ai,zP]at h3;exact⟨U0 h1,h3⟩
def XY(s:List UInt8):AD:=((F6 s,F9 s),(Fk s,Fl s))
theorem J7{s:List UInt8}(h:BI s=true):D8 (XY s) (AG s):=by
 obtain⟨_,_,_,_,e1,e2,_,l1,l2⟩:=Ep h;have m:∀x:Int,x.natAbs<10^4000→Ag x<(Ak:Int)^9000:=fun x hx=>zH (U0 hx) (AL (by decide) (by decide))
 exact⟨(B1 (Fp (Du (m _ l1)))).1,(B1 (Fp (Du (m _ l2)))).1,(JS _).trans e1.symm,(JS _).trans e2.symm⟩
theorem XI{d:AT}(h:Dt d=true):Cz d=decide (zr d=1):=by
 unfold Cz;rw[Bool.eq_iff_iff,zj,decide_eq_true_eq,decide_eq_true_eq,decide_eq_true_eq];refine⟨fun⟨h1,h2⟩=>by rw[Bn h1];exact h2,fun e=>?_⟩;by_cases c:d.2=[]
 ·rw[Bn c]at e;exact⟨c,e⟩
 ·obtain⟨_,hw⟩:=DE h;obtain⟨s,w⟩:=d;rcases hw with hw|⟨_,_,h3⟩
  ·exact absurd hw c
  ·rw[T6 c]at e;have h3:9223372036854775808≤Am w:=h3;split at e<;>omega
theorem YI{f:AD}{q:Rat}(h:D8 f q):H9 f=RH q:=by
 unfold H9 D0 RH;rw[h.vn,h.vd]
theorem Y7{f:AD}{q:Rat}(h:D8 f q):Jm f=A3 q:=by
 unfold Jm A3;rw[XI h.d,h.vn,h.vd];have e:decide ((q.den:Int)=1)=true↔q.den=1:=by rw[decide_eq_true_eq];omega
 by_cases c:q.den=1
 ·rw[if_pos (e.2 c),if_pos c];rfl
 ·rw[if_neg (fun k=>c (e.1 k)),if_neg c];show yn q.num++47::yn ((q.den:Nat):Int)=_;rw[Lib.itoa_nonneg]
theorem VK{f:AD}{q:Rat}(h:D8 f q):Kg f=fB 0 q∧Kl f=fA 0 q:=by
 unfold Kg Kl fB fA;rw[YI h,Y7 h];exact⟨rfl,rfl⟩
theorem D8.Dy{f:AD}{q:Rat}(h:D8 f q)(hs:KP 4000 q):ya f=true:=by
 have:=h.De hs;unfold zN at this;rw[zj]at this;exact this.1
theorem D8.HH{f:AD}{q:Rat}(h:D8 f q):decide (zr f.1≠0)=decide (q≠0):=by
 rw[h.vn,decide_eq_decide,ne_eq,Rat.num_eq_zero]
theorem D8.cmp{f g:AD}{p q:Rat}(hf:D8 f p)(hg:D8 g q):J2 f g=if p<q then -1 else if q<p then 1 else 0:=by
 unfold J2 BX;rw[hf.vn,hf.vd,hg.vn,hg.vd];have h1:p<q↔p.num*(q.den:Int)<q.num*(p.den:Int):=Rat.lt_iff ..;have h2:q<p↔q.num*(p.den:Int)<p.num*(q.den:Int):=Rat.lt_iff ..;by_cases c:p<q
 ·rw[if_pos c,if_pos (h1.1 c)]
 ·rw[if_neg c,if_neg (fun k=>c (h1.2 k))];by_cases d:q<p
  ·rw[if_pos d,if_pos (h2.1 d)]
  ·rw[if_neg d,if_neg (fun k=>d (h2.2 k))]
end Go.Pe
end
section
namespace Go.Sp
theorem cO{n:Int}(h:0≤n):n+1≤2^(EG n).toNat:=by
 unfold EG;split
 ·have:n=0:=by omega
  subst this;decide
 ·have hb:=Nat.lt_log2_self (n:=n.toNat);have e:((n.toNat.log2:Int)+1).toNat=n.toNat.log2+1:=by omega
  have e2:((2^(n.toNat.log2+1):Nat):Int)=(2:Int)^(n.toNat.log2+1):=zJ ..;rw[e, ←e2];generalize 2^(n.toNat.log2+1)=P at*;omega
theorem oH{w:List Int}(hd:Av Ak w){k:Nat}(hl:w.length=k+1):val Ak w<(Ak:Int)^k*(w.getD k 0+1):=by
 have h1:=B7 (Ak:Int) w k (by omega);have h2:=Bo (b:=(Ak:Int)) (by decide) (AM hd k);rw[List.length_take,Nat.min_eq_left (by omega)]at h2;have h3:w.drop k=[w.getD k 0]:=by
  rw[B3 (by omega),zA (by omega)]
 rw[h3]at h1;have h4:val Ak [w.getD k 0]=w.getD k 0:=by
  show w.getD k 0+(Ak:Int)*0=_;omega
 rw[h4]at h1;rw[yi,Int.mul_one];omega
theorem Vh(k:Nat):((10^k:Nat):Int)=(10:Int)^k:=by rw[zJ];rfl
theorem bZ(k:Nat):2^(3*k)≤10^k:=by rw[Nat.pow_mul];exact Nat.pow_le_pow_left (by decide) k
theorem dO(k:Nat):(2:Int)^(3*k)≤10^k:=by
 have h2:((2^(3*k):Nat):Int)≤((10^k:Nat):Int):=Int.ofNat_le.2 (bZ k);rw[zJ,zJ]at h2;exact h2
theorem gE:(2:Int)^1800≤10^600:=by
 have h:=dO 600;have k:3*600=1800:=rfl;rw[k]at h;exact h
theorem jT{a:AT}(h:Om a≤1800):D0 a=false:=by
 have a0:0≤Ag (vI a):=by rw[Ai];omega
 have hv:=CE (b:=Ak) (by decide) a0;have hd:=ET (b:=Ak) (by decide) (Ag (vI a));have key:Ag (vI a)<2^1800:=by
  unfold Om at h;have hv:val Ak (Bp (Ag (vI a)))=Ag (vI a):=hv;have hd:Av Ak (Bp (Ag (vI a))):=hd;generalize Bp (Ag (vI a))=w at*;rw[←hv];by_cases hw:w=[]
  ·subst hw;show(0:Int)<_;exact Int.pow_pos (by decide)
  ·rw[if_neg hw]at h;obtain⟨k,hk⟩:∃k,w.length=k+1:=⟨w.length-1,by have:=z7.2 hw;omega⟩;have ht:=oH hd hk;have g:=Jp (b:=(Ak:Int)) (by decide) hd k;have hp:=cO g.1;have hl:=(Go.Pe.Q4 g.1 (by have:(Ak:Int)=18446744073709551616:=rfl;omega)).1;rw[hk,zQ,show((k+1:Nat):Int)-1=(k:Int)by omega]at h;have hB:(0:Int)<(Ak:Int)^k:=AN (by decide) k;have h5:=zF hp (yo hB);have e1:(Ak:Int)^k=2^(64*k):=by
    have:(Ak:Int)=2^64:=by decide
    rw[this, ←Int.pow_mul]
   rw[e1, ←Int.pow_add]at h5;rw[e1]at ht;have h6:(2:Int)^(64*k+(EG (w.getD k 0)).toNat)≤2^1800:=AL (by decide) (by omega);exact zH ht (Int.le_trans h5 h6)
 have h7:=zH key gE;unfold D0 Py;rw[decide_eq_false_iff_not];have:(vI a).natAbs<10^600:=by
  rw[Ai]at h7;have e:=Vh 600;rw[←e]at h7;exact z8.mp h7
 have:=E6 this (by decide);omega
end Go.Sp
end
section
namespace Go.Sp
theorem aY(q:Rat):Pc (A3 q)=zm q.den:=by
 obtain⟨_,c2,c3⟩:=Ib q;unfold Pc;rw[c2,c3];by_cases h:q.den=1
 ·rw[if_neg (by simpa using h),h,yd (by decide)];rfl
 ·rw[if_pos (decide_eq_true h),if_neg h]
theorem T0(q:Rat):EM (A3 q)=if RH q=true then 4 else 0:=by
 obtain⟨c1,_,_⟩:=Ib q;unfold EM;rw[aY,c1,(Ej q.num).2.1];have hb:RH q=true↔600<(zm q.num.natAbs).length∨600<(zm q.den).length:=by
  unfold RH Py;rw[Bool.or_eq_true,decide_eq_true_eq,decide_eq_true_eq,zP]
 by_cases h:RH q=true
 ·rw[if_pos (hb.1 h),if_pos h]
 ·rw[if_neg (fun k=>h (hb.2 k)),if_neg h]
theorem fM(q:Rat):HV (fB 0 q) (fA 0 q) (A3 q) 0=true:=by
 unfold HV fB fA;rw[T0];by_cases h:RH q=true
 ·simp[h]
 ·simp[h]
theorem dY{e:Int}(h:e≠0)(q:Rat)(w:List UInt8):HV (fB e q) (fA e q) w e=true:=by
 unfold HV fB fA;simp[h]
theorem VC(a b:List UInt8):Mp a b=if Ay a≠0 then Ay a else Ay b:=by
 show(if Ay a≠0 then Ay a else if Ay b≠0 then Ay b else 0)=_;by_cases h:Ay a≠0
 ·rw[if_pos h,if_pos h]
 ·rw[if_neg h,if_neg h];by_cases k:Ay b≠0
  ·rw[if_pos k]
  ·rw[if_neg k];omega
theorem IC{a b:List UInt8}(h:Mp a b=0):Ay a=0∧Ay b=0:=by
 rw[VC]at h;by_cases k:Ay a≠0
 ·rw[if_pos k]at h;exact absurd h k
 ·rw[if_neg k]at h;exact⟨by omega,h⟩
theorem Po:A3 0=[48]:=by
 unfold A3;rw[if_pos (show Rat.den 0=1 from rfl)];show yn 0=[48];unfold yn;rw[if_neg (by decide),show(0:Int).toNat=0 from rfl,yd (by decide)];rfl
theorem KO{s:List UInt8}(h:BI s=true):s=[48]↔AG s=0:=by
 obtain⟨h1,_⟩:=Hi h;constructor
 ·rintro rfl;rw[←Po,DF]
 ·intro e;rw[←h1,e,Po]
theorem Iu{s:List UInt8}(h:Ed s=true):BI s=true∧s.length≤3000:=by
 unfold Ed at h;rwa [zj,decide_eq_true_eq]at h
theorem qQ{s:List UInt8}(h:Ed s=true)(h0:s≠[48]):Zl s=true:=by
 unfold Zl;rw[h,zW];exact decide_eq_true fun e=>h0 ((KO (Iu h).1).2 e)
theorem eA{s:List UInt8}(h:Zl s=true):Ed s=true∧AG s≠0:=by
 unfold Zl at h;rwa [zj,decide_eq_true_eq]at h
theorem Tx{q:Rat}{k:Nat}(h:Gr k q)(hk:k≤400000):(A3 q).length≤1000000:=by
 have:=Ov (h.mono (show k≤k+1 by omega)) (by omega);omega
end Go.Sp
end
section
namespace Go.Pe
open Sp
open Go.Det
theorem Xa:∀g sp,pG.sp g=some sp→Ae AV g sp:=fun g sp h=>by cases h
theorem T214.ok:Ae AV 214 QC:=by
 refine AB (X:=pG) rfl Xa (d:=9) (by kernel_rfl) (by kernel_rfl) (by kernel_rfl) (fun(i:List UInt8×List UInt8) hi=>?_) (Ad (by kernel_rfl));obtain⟨s,t⟩:=i;have hi:(decide (t=[45])&&decide (s.length≤1000000))=true:=hi;rw[zj,decide_eq_true_eq,decide_eq_true_eq]at hi;obtain⟨rfl,hl⟩:=hi;have hq:∀v ob,v=AZ s→Af QC (s,[45]) (.dat .str v) ob:=fun v ob h=>zI rfl rfl h
 refine zC (T214.An s [45]) ?_;conv=>zeta
 cases s with
 |nil=>exact zq rfl (zh (hq _ _ rfl))
 |cons c r=>
  have e1:Int.toNat (([(45:UInt8)].length:Nat):Int)=1:=rfl;have e2:ye 1 (c::r)=[c]:=rfl;have e3:ye (zG (c::r).length 1) (yp 1 (c::r))=r:=zB (zY _);have g0:(c::r).getD 0 0=c:=rfl;rw[e1,e2,e3];refine ze (decide_eq_true (by simp;omega)) (ze (by simp) (zu (fun d=>ze (by simp) (zh (hq _ _ ?_))) (fun d=>zh (hq _ _ ?_))))
  ·have hc:c=45:=by simpa using d
   unfold AZ;rw[g0,if_pos hc];rfl
  ·have hc:c≠45:=by simpa using d
   unfold AZ;rw[g0,if_neg hc]
theorem fP:∀g sp,vP.sp g=some sp→Ae AV g sp:=Ac (T218.ok EW) (Ac T247.ok (fun g sp h=>by cases h))
theorem iE{a:AT}(h:Ba a=true):(Bp (Ag (zr a))).length≤9000:=by
 have hb:=bounds h;have h0:=AH (zr a);refine MW Ak (by decide) 9000 _ _ ?_;have e:((Ak^9000:Nat):Int)=(Ak:Int)^9000:=QN 9000;rw[←e]at hb;generalize Ak^9000=P at*;omega
theorem T248.ok:Ae AV 248 bD:=by
 refine AB (X:=vP) rfl fP (d:=9) (by kernel_rfl) (by kernel_rfl) (by kernel_rfl) (fun(a:Int×List Int) ha=>?_) (Ad (by kernel_rfl));have ha:Ba a=true:=ha;have hk:=(B1 ha).1;have hl:=iE ha;have hd:=ET (b:=Ak) (by decide) (Ag (zr a));have hd:Av Ak (Bp (Ag (zr a))):=hd;have hq:∀v ob,v=Om a→Af bD a (.dat i64 v) ob:=fun v ob h=>zI rfl rfl h
 unfold Om at hq;refine zC (T248.An a) (ze hk ?_);have ea:(Prod.fst a,Prod.snd a)=a:=rfl;rw[ea];generalize Bp (Ag (zr a))=w at*;refine zu (fun c=>zh (hq _ _ ?_)) (fun c=>?_)
 ·have:w=[]:=yf.1 (by have:(w.length:Int)=0:=(by simpa using c);omega);rw[if_pos this]
 ·have c:(w.length:Int)≠0:=by simpa using c
  have hn:w≠[]:=by rintro rfl;exact c rfl
  have g:=AR hd (w.length-1);have e1:zc .i64 ((w.length:Int)-1)=((w.length-1:Nat):Int):=by rw[wr _ (by omega) (by omega)];omega
  have l2:=Q4 (Sp.AX g).1 (Sp.AX g).2;rw[e1,zp,wr (64*_) (by omega) (by omega),wr _ (by omega) (by omega)];refine ze (Aa (decide_eq_true (by omega)) (decide_eq_true (by omega))) (ze g (zh (hq _ _ ?_)));rw[if_neg hn];omega
theorem ZN:∀g sp,oL.sp g=some sp→Ae AV g sp:=Ac T248.ok (Ac (T200.ok dX) (Ac T214.ok (fun g sp h=>by cases h)))
theorem eJ(n:Int):AZ (AW n)=zm n.natAbs:=(Ej n).2.1
theorem Np{a:AT}(h:Ba a=true):(AW (zr a)).length≤180001:=by
 have hb:=bounds h;have ha:=Ai (zr a);have h1:(zm (zr a).natAbs).length≤180000:=GQ ⟨by rw[←ha];exact hb⟩;unfold AW yn;split
 ·rw[zw];omega
 ·rw[show(zr a).toNat=(zr a).natAbs by omega];omega
theorem T199.ok:Ae AV 199 VL:=by
 refine AB (X:=oL) rfl ZN (d:=9) (by kernel_rfl) (by kernel_rfl) (by kernel_rfl) (fun(a:Int×List Int) ha=>?_) (Ad (by kernel_rfl));have ha:Ba a=true:=ha;have hl:=Np ha;have hq:∀v ob,v=D0 a→Af VL a (.dat .bool v) ob:=fun v ob h=>zI rfl rfl h
 have hqb:∀v ob,v=D0 a→Af VL a (.bl v) ob:=fun v ob h=>zI rfl rfl h
 refine zC (T199.An a) (ze ha (zu (fun c=>ze ha (ze (Aa (decide_eq_true rfl) (decide_eq_true (by show(AW (zr a)).length≤1000000;omega))) (zh (hq _ _ ?_)))) (fun c=>zh (hqb _ _ ?_))))
 ·show decide (((AZ (AW (zr a))).length:Int)>600)=D0 a;rw[eJ];unfold D0 Py;rw[decide_eq_decide];omega
 ·have c:=of_decide_eq_false c;have c:¬Om a>1800:=c;exact(jT (by omega)).symm
theorem Zs{a:AT}(h:Mo a=true):Ba a=true:=by
 unfold Mo at h;rw[zj,decide_eq_true_eq]at h;unfold Ba;rw[h.1,zW];exact decide_eq_true (by omega)
theorem Zx{a:AD}(h:ya a=true):Ba a.1=true∧Ba a.2=true:=by
 unfold ya at h;rw[zj]at h;exact⟨Zs h.1,Zs h.2⟩
theorem WG:∀g sp,sC.sp g=some sp→Ae AV g sp:=Ac T199.ok (Ac T156.ok (Ac (T200.ok dX) (fun g sp h=>by cases h)))
theorem T131.ok:Ae AV 131 VY:=by
 refine AB (X:=sC) rfl WG (d:=9) (by kernel_rfl) (by kernel_rfl) (by kernel_rfl) (fun(a:(Int×List Int)×(Int×List Int)) ha=>?_) (Ad (by kernel_rfl));obtain⟨h1,h2⟩:=Zx (a:=a) ha;refine zC (T131.An a) (ze h1 (zu (fun c=>zh (zI rfl rfl ?_)) (fun c=>ze h2 (zh (zI rfl rfl ?_)))))
 ·have c:D0 a.1=true:=c;show true=(D0 a.1||D0 a.2);rw[c];rfl
 ·have c:D0 a.1=false:=c;show D0 a.2=(D0 a.1||D0 a.2);rw[c];rfl
theorem T132.ok:Ae AV 132 dT:=by
 refine AB (X:=sC) rfl WG (d:=9) (by kernel_rfl) (by kernel_rfl) (by kernel_rfl) (fun(a:(Int×List Int)×(Int×List Int)) ha=>?_) (Ad (by kernel_rfl));obtain⟨h1,h2⟩:=Zx (a:=a) ha;have l1:=Np h1;have l2:=Np h2;refine zC (T132.An a) (ze rfl (zu (fun c=>ze h1 (zh (zI rfl rfl ?_))) (fun c=>ze h1 (ze (decide_eq_true (by show(AW (zr a.1)).length+1≤_;omega)) (ze h2 (ze (decide_eq_true (by rw[zy,List.length_singleton];show(AW (zr a.1)).length+1+(AW (zr a.2)).length≤_;omega)) (zh (zI rfl rfl ?_))))))))
 ·have c:Cz a.2=true:=c;show AW (zr a.1)=Jm a;unfold Jm;rw[if_pos c]
 ·have c:Cz a.2=false:=c;show AW (zr a.1)++[47]++AW (zr a.2)=Jm a;unfold Jm;rw[if_neg (by rw[c];decide),yc];rfl
theorem bV:∀g sp,rC.sp g=some sp→Ae AV g sp:=Ac T131.ok (Ac T132.ok (fun g sp h=>by cases h))
theorem T103.ok:Ae AV 103 WB:=by
 refine AB (X:=rC) rfl bV (d:=9) (by kernel_rfl) (by kernel_rfl) (by kernel_rfl) (fun(a:(Int×List Int)×(Int×List Int)) ha=>?_) (Ad (by kernel_rfl));refine zC (T103.An a) (ze ha (zu (fun c=>zh (zI rfl rfl ?_)) (fun c=>ze ha (zh (zI rfl rfl ?_)))))
 ·have c:H9 a=true:=c;show([],(4:Int))=(Kg a,Kl a);unfold Kg Kl;rw[if_pos c,if_pos c]
 ·have c:H9 a=false:=c;show(Jm a,(0:Int))=(Kg a,Kl a);unfold Kg Kl;rw[if_neg (by rw[c];decide),if_neg (by rw[c];decide)]
theorem jV:∀g sp,uK.sp g=some sp→Ae AV g sp:=Ac T77.ok (Ac T173.ok (fun g sp h=>by cases h))
namespace T84
theorem Aj{Q:PV→Ob→Prop}(l:List (List UInt8))(hl:l.length≤1000)(hs:∀s∈l,s.length≤1000000):∀(r:List (List UInt8)) (i:Nat),l.drop i=r→i≤l.length→(∀ob,Q (.dat i64 (Ef r)) ob)→Ends uK (L1 l (l.length:Int) (i:Int)) Q
 |[],i,h,hi,hq=>by
  have:=drop_nil h hi;exact zR (Ar ..) (zq (decide_eq_false (by omega)) (zh (hq _)))
 |x::r,i,h,hi,hq=>by
  obtain⟨g1,g2,g3⟩:=drop_cons (d:=([]:List UInt8)) h;have hx:x∈l:=List.mem_of_mem_drop (by rw[h];exact List.mem_cons_self ..);have e1:zc .i64 ((i:Int)+1)=((i+1:Nat):Int):=by rw[wr _ (by omega) (by omega)];omega
  unfold Ef at hq;refine zR (Ar ..) ?_;conv=>zeta
  rw[zp,g2,e1];refine ze (decide_eq_true (by omega)) (ze (Aa (decide_eq_true (by omega)) (decide_eq_true (by omega))) (ze (decide_eq_true (hs x hx)) (zu (fun c=>zh ?_) (fun c=>Aj l hl hs r (i+1) g3 g1 ?_))))
  ·have c:Ay x≠0:=by simpa using c
   rw[if_pos c]at hq;exact hq _
  ·have c:Ay x=0:=by simpa using c
   rw[if_neg (by rw[c];decide)]at hq;exact hq
theorem ok:Ae AV 84 WZ:=by
 refine AB (X:=uK) rfl jV (d:=9) (by kernel_rfl) (by kernel_rfl) (by kernel_rfl) (fun(l:List (List UInt8)) hi=>?_) (Ad (by kernel_rfl));have hi:(decide (l.length≤1000)&&l.all fun s=>decide (s.length≤1000000))=true:=hi;rw[zj,decide_eq_true_eq,List.all_eq_true]at hi;exact zC (An l) (Aj l hi.1 (fun s h=>of_decide_eq_true (hi.2 s h)) l 0 rfl (Nat.zero_le _) (fun ob=>zI rfl rfl rfl))
end T84
end Go.Pe
end
section
namespace Go.Sp
structure Nu(k:Nat)(s:List UInt8)(q:Rat):Prop where
 t:s=A3 q
 z:Gr k q
theorem Nu.rat{k:Nat}{s:List UInt8}{q:Rat}(h:Nu k s q):AG s=q:=by rw[h.t,DF]
theorem Nu.num{k:Nat}{s:List UInt8}{q:Rat}(h:Nu k s q)(hk:k≤1999):BI s=true:=by rw[h.t];exact Pv h.z hk
theorem Nu.Ed{k:Nat}{s:List UInt8}{q:Rat}(h:Nu k s q)(hk:k≤1400):Sp.Ed s=true:=by
 unfold Sp.Ed;rw[h.num (by omega),zW,decide_eq_true_eq,h.t];have:=Ov (h.z.mono (show k≤k+1 by omega)) (by omega);omega
theorem Nu.KO{k:Nat}{s:List UInt8}{q:Rat}(h:Nu k s q)(hk:k≤1999):s=[48]↔q=0:=by
 rw[Sp.KO (h.num hk),h.rat]
theorem S6{a:List UInt8}(h:Ay a=0):Nu 600 a (AG a):=by
 obtain⟨t,_,_,z⟩:=PE h;exact⟨t.symm,z⟩
theorem Y5(p q:Rat):(if q<p then(-1:Int)else if p<q then 1 else 0)= -(if p<q then(-1:Int)else if q<p then 1 else 0):=by
 by_cases h:p<q
 ·have:¬q<p:=Rat.not_lt.2 (Rat.le_of_lt h);rw[if_neg this,if_pos h,if_pos h];rfl
 ·rw[if_neg h,if_neg h];split<;>rfl
end Go.Sp
end
section
namespace Go.Sp
end Go.Sp
end
section
namespace Go.Pe
open Sp
open Go.Det
theorem oS{e:Int}(h:e≠0)(q:Rat):([],e)=(fB e q,fA e q):=by
 unfold fB fA;rw[if_pos h,if_pos h]
theorem oT{f:AD}{q:Rat}(h:D8 f q){e:Int}(he:e=0):(Kg f,Kl f)=(fB e q,fA e q):=by
 rw[he,(VK h).1,(VK h).2]
theorem D8.div{f g:AD}{p q:Rat}(hf:D8 f p)(hg:D8 g q)(sp:KP 4000 p)(sq:KP 4000 q)(si:KP 4000 q⁻¹)(h0:q≠0):D8 (Yf f g) (p/q):=by
 rw[Rat.div_def];exact D8.mul hf (D8.inv hg sq h0) sp si
theorem Lf(x y:Int):zM [x,y]=if x≠0 then x else y:=by
 by_cases h:x≠0
 ·rw[if_pos h];unfold zM
  simp[h]
 ·rw[if_neg h];have h:x=0:=by omega
  subst h;unfold zM zM zM
  simp;intro k;exact k.symm
end Go.Pe
end
section
namespace Go.Pe
open Sp
open Go.Det
noncomputable section
open List Int Prod
namespace T27
def T(a b:List UInt8):Tr:=tree bK false 9 27 (Ah ([zd,zd]) (a,b))
def L1(v0 v1:List UInt8):Tr:=re ((T [] []).L.L.L.R) (AI 63 [(0,.dat zd v0),(1,.dat zd v1)] [] 0)
theorem An(a b:List UInt8):T a b=let a':=zc .i64 (zc .i64 (Y6 a*SN b)+zc .i64 (Y6 b*SN a));let b':=zc .i64 (SN a*SN b);.ite (BI a) (.ite (BI b) (.ite (DA a) (.ite (DA b) (.ite (CS a'&&CS b'&&decide (zc .i64 (SN a*SN b)≠0)) (.leaf (.dat zd (CO a' b')) []) .fail) (L1 a b)) (L1 a b)) .fail) .fail:=by kernel_rfl
theorem Ar(v0 v1:List UInt8):stepT bK (L1 v0 v1)=let b':=(G6 (Bx v0,Br v0) (Bh v1,Bd v1),Hc (Bx v0,Br v0) (Bh v1,Bd v1));let c':=(G6 (Bx v1,Br v1) (Bh v0,Bd v0),Hc (Bx v1,Br v1) (Bh v0,Bd v0));let d':=(G6 (Bh v0,Bd v0) (Bh v1,Bd v1),Hc (Bh v0,Bd v0) (Bh v1,Bd v1));let a':=(LY b' c',Me b' c');.ite (Hs v0) (.ite (Hs v1) (.ite (Cy (Bx v0,Br v0)&&Cy (Bh v1,Bd v1)) (.ite (Cy (Bx v1,Br v1)&&Cy (Bh v0,Bd v0)) (.ite (Cy b'&&Cy c') (.ite (Cy (Bh v0,Bd v0)&&Cy (Bh v1,Bd v1)) (.ite (Cy a'&&Cy d'&&decide (Sp.vR d'≠0)) (.leaf (.dat zd (Hn a' d')) ([(zo (zo (zo 0 1) 1) 1,.box [.dat zl (Bh v1),.dat (zg i64) (Bd v1)]),(zo (zo 0 1) 1,.box [.dat zl (Bx v1),.dat (zg i64) (Br v1)]),(zo 0 1,.box [.dat zl (Bh v0),.dat (zg i64) (Bd v0)]),(0,.box [.dat zl (Bx v0),.dat (zg i64) (Br v0)])])) .fail) .fail) .fail) .fail) .fail) .fail) .fail:=by kernel_rfl
end T27
namespace T29
def T(a b:List UInt8):Tr:=tree bK false 9 29 (Ah ([zd,zd]) (a,b))
def L1(v0 v1:List UInt8):Tr:=re ((T [] []).L.L.L.R) (AI 55 [(0,.dat zd v0),(1,.dat zd v1)] [] 0)
theorem An(a b:List UInt8):T a b=let a':=zc .i64 (Y6 a*Y6 b);let b':=zc .i64 (SN a*SN b);.ite (BI a) (.ite (BI b) (.ite (DA a) (.ite (DA b) (.ite (CS a'&&CS b'&&decide (zc .i64 (SN a*SN b)≠0)) (.leaf (.dat zd (CO a' b')) []) .fail) (L1 a b)) (L1 a b)) .fail) .fail:=by kernel_rfl
theorem Ar(v0 v1:List UInt8):stepT bK (L1 v0 v1)=let a':=(G6 (Bh v0,Bd v0) (Bh v1,Bd v1),Hc (Bh v0,Bd v0) (Bh v1,Bd v1));let b':=(G6 (Bx v0,Br v0) (Bx v1,Br v1),Hc (Bx v0,Br v0) (Bx v1,Br v1));.ite (Hs v0) (.ite (Hs v1) (.ite (Cy (Bx v0,Br v0)&&Cy (Bx v1,Br v1)) (.ite (Cy (Bh v0,Bd v0)&&Cy (Bh v1,Bd v1)) (.ite (Cy b'&&Cy a'&&decide (Sp.vR a'≠0)) (.leaf (.dat zd (Hn b' a')) ([(zo (zo (zo 0 1) 1) 1,.box [.dat zl (Bh v1),.dat (zg i64) (Bd v1)]),(zo (zo 0 1) 1,.box [.dat zl (Bx v1),.dat (zg i64) (Br v1)]),(zo 0 1,.box [.dat zl (Bh v0),.dat (zg i64) (Bd v0)]),(0,.box [.dat zl (Bx v0),.dat (zg i64) (Br v0)])])) .fail) .fail) .fail) .fail) .fail:=by kernel_rfl
end T29
namespace T94
def T(a:List UInt8):Tr:=tree bK false 9 94 (Ah ([zd]) a)
theorem An(a:List UInt8):T a=.ite (Hs a) (.ite (Cy (Bh a,Bd a)&&Cy (Bx a,Br a)&&decide (Sp.vR (Bx a,Br a)≠0)) (.leaf (.dat zd (Hn (Bh a,Bd a) (Bx a,Br a))) ([(zo 0 1,.box [.dat zl (Bh a),.dat (zg i64) (Bd a)]),(0,.box [.dat zl (Bx a),.dat (zg i64) (Br a)])])) .fail) .fail:=by kernel_rfl
end T94
namespace T28
def T(a b:List UInt8):Tr:=tree sM false 9 28 (Ah ([zd,zd]) (a,b))
theorem An(a b:List UInt8):T a b=.ite (decide (length b≤1000000)) (.ite (BI a&&BI (J4 b)) (.leaf (.dat zd (Lh a (J4 b))) []) .fail) .fail:=by kernel_rfl
end T28
namespace T26
def T(a b:List UInt8):Tr:=tree sM false 9 26 (Ah ([zd,zd]) (a,b))
theorem An(a b:List UInt8):T a b=.ite (Zl b) (.ite (BI a&&BI (Pa b)) (.leaf (.dat zd (Mt a (Pa b))) []) .fail) .fail:=by kernel_rfl
end T26
namespace T30
def T(a b:List UInt8):Tr:=tree tI false 9 30 (Ah ([zd,zd]) (a,b))
theorem An(a b:List UInt8):T a b=.ite (BI a&&Ed b) (.ite (decide (length (H3 a b)≤1000000)) (.leaf (.dat i64 (Gk (H3 a b))) []) .fail) .fail:=by kernel_rfl
end T30
namespace T93
def T(a:List UInt8):Tr:=tree tI false 9 93 (Ah ([zd]) a)
theorem An(a:List UInt8):T a=let a':=decide (length a≤1000000);let b':Tr:=.leaf (.dat i64 (4:Int)) [];.ite a' (.ite (decide (length (Ax a)≤1000000)) (.ite (decide ((↑(length (AZ (Ax a))):Int)>600)) b' (.ite a' (.ite (decide ((↑(length (Pc a)):Int)>600)) b' (.leaf (.dat i64 (0:Int)) [])) .fail)) .fail) .fail:=by kernel_rfl
end T93
end
end Go.Pe
end
section
namespace Go.Pe
open Sp
open Go.Det
noncomputable section
open List Int Prod
namespace T229
def T(a:List Int)(i:Int):Tr:=tree wE false 9 229 (Ah ([zg i64,zn zt]) (a,i))
theorem An(a:List Int)(i:Int):T a i=.ite (decide (i<(length a:Int))) (.ite (decide (0≤i)&&decide (i<(length a:Int))) (.leaf (.dat i64 (getD a (toNat i) 0)) []) .fail) (.leaf (.dat i64 (0:Int)) []):=by kernel_rfl
end T229
namespace T169
def T(a b:List Int):Tr:=tree R3 false 9 169 (Ah ([zg i64,zg i64]) (a,b))
def L1(v0 v1:List Int)(v6 v7:Int):Tr:=re ((T [] [])) (AI 42 [(0,.dat (zg i64) v0),(1,.dat (zg i64) v1),(5,.nil),(6,.dat i64 v6),(7,.dat i64 v7)] [] 0)
theorem An(a b:List Int):T a b=L1 a b 0 0:=by kernel_rfl
def L2(v0 v1:List Int)(v5n:Nat)(v6 v7:Int)(o0:List Int):Tr:=re ((stepT R3 (L1 [] [] 0 0)).L.L.L.L.L.L) (AI 42 [(0,.dat (zg i64) v0),(1,.dat (zg i64) v1),(5,.sl 0 1 0 v5n none),(6,.dat i64 v6),(7,.dat i64 v7)] [(0,.arr false 3 i64 o0)] 1)
theorem Ar(v0 v1:List Int)(v6 v7:Int):stepT R3 (L1 v0 v1 v6 v7)=.ite (decide (v7<(length v0:Int))) (.ite (decide (0≤v7)) (.ite (decide (0≤v7)) (.ite true (.ite (decide (1≤1)&&decide (0<1)&&decide ((2*1+1000)*8≤281474976710656)) (.ite true (L2 v0 v1 1 (zc .i64 (zS (zc .i64 (zc .i64 (Hl v0 v7+Hl v1 v7)+v6)) 1000000000)) (zc .i64 (v7+1)) ([zD (zc .i64 (zc .i64 (Hl v0 v7+Hl v1 v7)+v6)) 1000000000])) .fail) .fail) .fail) .fail) .fail) (.ite (decide (v7<(length v1:Int))) (.ite (decide (0≤v7)) (.ite (decide (0≤v7)) (.ite true (.ite (decide (1≤1)&&decide (0<1)&&decide ((2*1+1000)*8≤281474976710656)) (.ite true (L2 v0 v1 1 (zc .i64 (zS (zc .i64 (zc .i64 (Hl v0 v7+Hl v1 v7)+v6)) 1000000000)) (zc .i64 (v7+1)) ([zD (zc .i64 (zc .i64 (Hl v0 v7+Hl v1 v7)+v6)) 1000000000])) .fail) .fail) .fail) .fail) .fail) (.ite (decide (v6>0)) (.ite (decide (0≤v7)) (.ite (decide (0≤v7)) (.ite true (.ite (decide (1≤1)&&decide (0<1)&&decide ((2*1+1000)*8≤281474976710656)) (.ite true (L2 v0 v1 1 (zc .i64 (zS (zc .i64 (zc .i64 (Hl v0 v7+Hl v1 v7)+v6)) 1000000000)) (zc .i64 (v7+1)) ([zD (zc .i64 (zc .i64 (Hl v0 v7+Hl v1 v7)+v6)) 1000000000])) .fail) .fail) .fail) .fail) .fail) (.leaf .nil []))):=by kernel_rfl
theorem A1(v0 v1:List Int)(v5n:Nat)(v6 v7:Int)(o0:List Int):stepT R3 (L2 v0 v1 v5n v6 v7 o0)=.ite (decide (v7<(length v0:Int))) (.ite (decide (0≤v7)) (.ite (decide (0≤v7)) (.ite true (.ite (decide (1≤1)&&true&&decide (v5n=length o0)&&decide ((2*(v5n+1)+1000)*8≤281474976710656)) (.ite true (L2 v0 v1 (zo v5n 1) (zc .i64 (zS (zc .i64 (zc .i64 (Hl v0 v7+Hl v1 v7)+v6)) 1000000000)) (zc .i64 (v7+1)) (o0++[zD (zc .i64 (zc .i64 (Hl v0 v7+Hl v1 v7)+v6)) 1000000000])) .fail) .fail) .fail) .fail) .fail) (.ite (decide (v7<(length v1:Int))) (.ite (decide (0≤v7)) (.ite (decide (0≤v7)) (.ite true (.ite (decide (1≤1)&&true&&decide (v5n=length o0)&&decide ((2*(v5n+1)+1000)*8≤281474976710656)) (.ite true (L2 v0 v1 (zo v5n 1) (zc .i64 (zS (zc .i64 (zc .i64 (Hl v0 v7+Hl v1 v7)+v6)) 1000000000)) (zc .i64 (v7+1)) (o0++[zD (zc .i64 (zc .i64 (Hl v0 v7+Hl v1 v7)+v6)) 1000000000])) .fail) .fail) .fail) .fail) .fail) (.ite (decide (v6>0)) (.ite (decide (0≤v7)) (.ite (decide (0≤v7)) (.ite true (.ite (decide (1≤1)&&true&&decide (v5n=length o0)&&decide ((2*(v5n+1)+1000)*8≤281474976710656)) (.ite true (L2 v0 v1 (zo v5n 1) (zc .i64 (zS (zc .i64 (zc .i64 (Hl v0 v7+Hl v1 v7)+v6)) 1000000000)) (zc .i64 (v7+1)) (o0++[zD (zc .i64 (zc .i64 (Hl v0 v7+Hl v1 v7)+v6)) 1000000000])) .fail) .fail) .fail) .fail) .fail) (.leaf (.sl 0 1 0 v5n none) ([(0,.arr false 3 i64 o0)])))):=by kernel_rfl
end T169
namespace T171
def T(a b:List Int):Tr:=tree R3 false 9 171 (Ah ([zg i64,zg i64]) (a,b))
def L1(v0 v1:List Int)(v6 v7:Int):Tr:=re ((T [] [])) (AI 35 [(0,.dat (zg i64) v0),(1,.dat (zg i64) v1),(5,.nil),(6,.dat i64 v6),(7,.dat i64 v7)] [] 0)
theorem An(a b:List Int):T a b=L1 a b 0 0:=by kernel_rfl
def L2(v0 v1:List Int)(v5n:Nat)(v6 v7:Int)(o0:List Int):Tr:=re ((stepT R3 (L1 [] [] 0 0)).L.L.L.L.L) (AI 35 [(0,.dat (zg i64) v0),(1,.dat (zg i64) v1),(5,.sl 0 1 0 v5n none),(6,.dat i64 v6),(7,.dat i64 v7)] [(0,.arr false 3 i64 o0)] 1)
theorem Ar(v0 v1:List Int)(v6 v7:Int):stepT R3 (L1 v0 v1 v6 v7)=.ite (decide (v7<(length v0:Int))) (.ite (decide (0≤v7)&&decide (v7<(length v0:Int))) (.ite (decide (0≤v7)) (.ite (decide (zc .i64 (zc .i64 (getD v0 (toNat v7) 0-Hl v1 v7)-v6)<0)) (.ite (decide (1≤1)&&decide (0<1)&&decide ((2*1+1000)*8≤281474976710656)) (L2 v0 v1 1 1 (zc .i64 (v7+1)) ([zc .i64 (zc .i64 (zc .i64 (getD v0 (toNat v7) 0-Hl v1 v7)-v6)+1000000000)])) .fail) (.ite (decide (1≤1)&&decide (0<1)&&decide ((2*1+1000)*8≤281474976710656)) (L2 v0 v1 1 0 (zc .i64 (v7+1)) ([zc .i64 (zc .i64 (getD v0 (toNat v7) 0-Hl v1 v7)-v6)])) .fail)) .fail) .fail) (.ite true (.leaf (.dat (zg i64) (Au [])) []) .fail):=by kernel_rfl
theorem A1(v0 v1:List Int)(v5n:Nat)(v6 v7:Int)(o0:List Int):stepT R3 (L2 v0 v1 v5n v6 v7 o0)=.ite (decide (v7<(length v0:Int))) (.ite (decide (0≤v7)&&decide (v7<(length v0:Int))) (.ite (decide (0≤v7)) (.ite (decide (zc .i64 (zc .i64 (getD v0 (toNat v7) 0-Hl v1 v7)-v6)<0)) (.ite (decide (1≤1)&&true&&decide (v5n=length o0)&&decide ((2*(v5n+1)+1000)*8≤281474976710656)) (L2 v0 v1 (zo v5n 1) 1 (zc .i64 (v7+1)) (o0++[zc .i64 (zc .i64 (zc .i64 (getD v0 (toNat v7) 0-Hl v1 v7)-v6)+1000000000)])) .fail) (.ite (decide (1≤1)&&true&&decide (v5n=length o0)&&decide ((2*(v5n+1)+1000)*8≤281474976710656)) (L2 v0 v1 (zo v5n 1) 0 (zc .i64 (v7+1)) (o0++[zc .i64 (zc .i64 (getD v0 (toNat v7) 0-Hl v1 v7)-v6)])) .fail)) .fail) .fail) (.ite (decide (0+v5n≤length o0)&&true&&decide (length (take v5n o0)≤20000)) (.leaf (.dat (zg i64) (Au (take v5n o0))) ([(0,.arr true 3 i64 o0)])) .fail):=by kernel_rfl
end T171
namespace T97
def T(a b:Bool×List Int):Tr:=tree rH false 9 97 (Ah ([zi zl (zg i64),zi zl (zg i64)]) (a,b))
theorem An(a b:Bool×List Int):T a b=.ite (fst a==fst b) (.ite (fE (snd a) (snd b)) (.ite (decide (length (LA (snd a) (snd b))≤20000)) (.leaf (PV.agg [.dat zl (B5 (fst a) (LA (snd a) (snd b))),.dat (zg i64) (Au (LA (snd a) (snd b)))]) ([(zo (zo 0 1) 1,.box [.dat zl (B5 (fst a) (LA (snd a) (snd b))),.dat (zg i64) (Au (LA (snd a) (snd b)))]),(zo 0 1,.box [.dat zl (fst b),.dat (zg i64) (snd b)]),(0,.box [.dat zl (fst a),.dat (zg i64) (snd a)])])) .fail) .fail) (.ite (A4 (snd a)&&A4 (snd b)) (.ite (decide (BX (Aq (snd a)) (Aq (snd b))≥0)) (.ite (fE (snd a) (snd b)&&decide (Aq (snd b)≤Aq (snd a))) (.ite (decide (length (Gb (snd a) (snd b))≤20000)) (.leaf (PV.agg [.dat zl (B5 (fst a) (Gb (snd a) (snd b))),.dat (zg i64) (Au (Gb (snd a) (snd b)))]) ([(zo (zo 0 1) 1,.box [.dat zl (B5 (fst a) (Gb (snd a) (snd b))),.dat (zg i64) (Au (Gb (snd a) (snd b)))]),(zo 0 1,.box [.dat zl (fst b),.dat (zg i64) (snd b)]),(0,.box [.dat zl (fst a),.dat (zg i64) (snd a)])])) .fail) .fail) (.ite (fE (snd b) (snd a)&&decide (Aq (snd a)≤Aq (snd b))) (.ite (decide (length (Gb (snd b) (snd a))≤20000)) (.leaf (PV.agg [.dat zl (B5 (fst b) (Gb (snd b) (snd a))),.dat (zg i64) (Au (Gb (snd b) (snd a)))]) ([(zo (zo 0 1) 1,.box [.dat zl (B5 (fst b) (Gb (snd b) (snd a))),.dat (zg i64) (Au (Gb (snd b) (snd a)))]),(zo 0 1,.box [.dat zl (fst b),.dat (zg i64) (snd b)]),(0,.box [.dat zl (fst a),.dat (zg i64) (snd a)])])) .fail) .fail)) .fail):=by kernel_rfl
end T97
namespace T98
def T(a b:Bool×List Int):Tr:=tree rH false 9 98 (Ah ([zi zl (zg i64),zi zl (zg i64)]) (a,b))
theorem An(a b:Bool×List Int):T a b=.ite (Sp.hR (snd a)&&Sp.hR (snd b)) (.ite (decide (length (BN (Aq (snd a)*Aq (snd b)))≤20000)) (.leaf (PV.agg [.dat zl (B5 (!fst a==fst b) (BN (Aq (snd a)*Aq (snd b)))),.dat (zg i64) (Au (BN (Aq (snd a)*Aq (snd b))))]) ([(zo (zo 0 1) 1,.box [.dat zl (B5 (!fst a==fst b) (BN (Aq (snd a)*Aq (snd b)))),.dat (zg i64) (Au (BN (Aq (snd a)*Aq (snd b))))]),(zo 0 1,.box [.dat zl (fst b),.dat (zg i64) (snd b)]),(0,.box [.dat zl (fst a),.dat (zg i64) (snd a)])])) .fail) .fail:=by kernel_rfl
end T98
namespace T166
def T(a:Bool×List Int):Tr:=tree rH false 9 166 (Ah ([zi zl (zg i64)]) a)
theorem An(a:Bool×List Int):T a=.ite (decide (length (snd a)≤20000)) (.leaf (PV.agg [.dat zl (B5 (!fst a) (snd a)),.dat (zg i64) (Au (snd a))]) ([(zo 0 1,.box [.dat zl (B5 (!fst a) (snd a)),.dat (zg i64) (Au (snd a))]),(0,.box [.dat zl (fst a),.dat (zg i64) (snd a)])])) .fail:=by kernel_rfl
end T166
namespace T167
def T(a:Bool×List Int):Tr:=tree sP false 9 167 (Ah ([zi zl (zg i64)]) a)
def L1(v3:List UInt8)(v4:Int)(o0:Bool)(o0_1:List Int):Tr:=re ((T (false,[])).R.L.L) (AI 39 [(1,.ptr 0 0),(3,.dat zd v3),(4,.dat i64 v4)] [(0,.box [.dat zl o0,.dat (zg i64) o0_1])] 1)
theorem An(a:Bool×List Int):T a=.ite ((↑(length (snd a)):Int)==0) (.leaf (.dat zd [(48:UInt8)]) ([(0,.box [.dat zl (fst a),.dat (zg i64) (snd a)])])) (.ite (decide (0≤zc .i64 ((↑(length (snd a)):Int)-1))&&decide (zc .i64 ((↑(length (snd a)):Int)-1)<(↑(length (snd a)):Int))) (.ite (decide (0≤getD (snd a) (toNat (zc .i64 ((↑(length (snd a)):Int)-1))) 0)&&decide (getD (snd a) (toNat (zc .i64 ((↑(length (snd a)):Int)-1))) 0<9223372036854775808)&&decide (0≤1)&&decide (1≤20)) (L1 (Ht (getD (snd a) (toNat (zc .i64 ((↑(length (snd a)):Int)-1))) 0) 1) (zc .i64 ((↑(length (snd a)):Int)-2)) (fst a) (snd a)) .fail) .fail):=by kernel_rfl
theorem Ar(v3:List UInt8)(v4:Int)(o0:Bool)(o0_1:List Int):stepT sP (L1 v3 v4 o0 o0_1)=.ite (decide (v4≥0)) (.ite (decide (0≤v4)&&decide (v4<(length o0_1:Int))) (.ite (decide (0≤getD o0_1 (toNat v4) 0)&&decide (getD o0_1 (toNat v4) 0<9223372036854775808)&&decide (0≤9)&&decide (9≤20)) (.ite (decide (length v3+length (Ht (getD o0_1 (toNat v4) 0) 9)≤4611686018427387904)) (L1 (v3++Ht (getD o0_1 (toNat v4) 0) 9) (zc .i64 (v4-1)) o0 o0_1) .fail) .fail) .fail) (.ite o0 (.ite (decide (1+length v3≤4611686018427387904)) (.leaf (.dat zd ([(45:UInt8)]++v3)) ([(0,.box [.dat zl o0,.dat (zg i64) o0_1])])) .fail) (.leaf (.dat zd v3) ([(0,.box [.dat zl o0,.dat (zg i64) o0_1])]))):=by kernel_rfl
end T167
namespace T96
def T(a b:Bool×List Int):Tr:=tree cZ false 9 96 (Ah ([zi zl (zg i64),zi zl (zg i64)]) (a,b))
def L1(o1:Bool)(o1_1:List Int)(o0:Bool)(o0_1:List Int):Tr:=re ((T (false,[]) (false,[])).L.L.L) (AI 57 [(2,.ptr 0 0),(3,.ptr 1 0)] [(1,.box [.dat zl o1,.dat (zg i64) o1_1]),(0,.box [.dat zl o0,.dat (zg i64) o0_1])] 2)
theorem An(a b:Bool×List Int):T a b=.ite (fst b) (.ite (Cy (fst a,snd a)) (.ite (Cy (fst b,snd b)) (L1 (QG (fst b,snd b)) (RM (fst b,snd b)) (QG (fst a,snd a)) (RM (fst a,snd a))) .fail) .fail) (L1 (fst b) (snd b) (fst a) (snd a)):=by kernel_rfl
def L2(v8:List Int)(v10:List UInt8):Tr:=re ((stepT cZ (L1 false [] false [])).L.L.L.L.L) (AI 57 [(8,.dat (zg i64) v8),(10,.dat zd v10)] [] 0)
theorem Ar(o1:Bool)(o1_1:List Int)(o0:Bool)(o0_1:List Int):stepT cZ (L1 o1 o1_1 o0 o0_1)=.ite (A4 o0_1&&A4 o1_1&&decide (length o0_1≤9000)&&decide (length o1_1≤9000)) (.ite (A4 o0_1&&A4 (Cd o0_1 o1_1)&&decide (length o0_1≤9000)&&decide (length (Cd o0_1 o1_1)≤9000)&&decide (0<Aq (Cd o0_1 o1_1))) (.ite (A4 o1_1&&A4 (Cd o0_1 o1_1)&&decide (length o1_1≤9000)&&decide (length (Cd o0_1 o1_1)≤9000)&&decide (0<Aq (Cd o0_1 o1_1))) (.ite (decide (length (BN (Aq o0_1/Aq (Cd o0_1 o1_1)))≤20000)) (.ite (Cy (B5 o0 (BN (Aq o0_1/Aq (Cd o0_1 o1_1))),Au (BN (Aq o0_1/Aq (Cd o0_1 o1_1))))) (L2 (BN (Aq o1_1/Aq (Cd o0_1 o1_1))) (Jd (B5 o0 (BN (Aq o0_1/Aq (Cd o0_1 o1_1))),Au (BN (Aq o0_1/Aq (Cd o0_1 o1_1)))))) .fail) .fail) .fail) .fail) .fail:=by kernel_rfl
def L3(v8:List Int)(v10:List UInt8):Tr:=re ((stepT cZ (L2 [] [])).L.L.R) (AI 57 [(8,.dat (zg i64) v8),(10,.dat zd v10)] [] 0)
theorem A1(v8:List Int)(v10:List UInt8):stepT cZ (L2 v8 v10)=.ite ((length v8:Int)==1) (.ite (decide (0<(length v8:Int))) (.ite (getD v8 0 0==1) (.leaf (.dat zd v10) []) (L3 v8 v10)) .fail) (L3 v8 v10):=by kernel_rfl
theorem CN(v8:List Int)(v10:List UInt8):stepT cZ (L3 v8 v10)=.ite (decide (length v10+1≤4611686018427387904)) (.ite (decide (length v8≤20000)) (.ite (Cy (B5 false v8,Au v8)) (.ite (decide (length (v10++[(47:UInt8)])+length (Jd (B5 false v8,Au v8))≤4611686018427387904)) (.leaf (.dat zd (v10++[(47:UInt8)]++Jd (B5 false v8,Au v8))) []) .fail) .fail) .fail) .fail:=by kernel_rfl
end T96
namespace T36
def T(n d:Int):Tr:=tree X4 false 9 36 (Ah ([zn zt,zn zt]) (n,d))
def L1(v0 v1:Int):Tr:=re ((T 0 0).R.R.R.R) (AI 61 [(0,.dat i64 v0),(1,.dat i64 v1)] [] 0)
theorem An(n d:Int):T n d=.ite (decide (n<(-4000000000000000000))) (.ite (CS n) (.ite (CS d) (.ite (Cy (zT n,zU n)&&Cy (zT d,zU d)&&decide (Sp.vR (zT d,zU d)≠0)) (.leaf (.dat zd (Hn (zT n,zU n) (zT d,zU d))) []) .fail) .fail) .fail) (.ite (decide (n>4000000000000000000)) (.ite (CS n) (.ite (CS d) (.ite (Cy (zT n,zU n)&&Cy (zT d,zU d)&&decide (Sp.vR (zT d,zU d)≠0)) (.leaf (.dat zd (Hn (zT n,zU n) (zT d,zU d))) []) .fail) .fail) .fail) (.ite (decide (d<(-4000000000000000000))) (.ite (CS n) (.ite (CS d) (.ite (Cy (zT n,zU n)&&Cy (zT d,zU d)&&decide (Sp.vR (zT d,zU d)≠0)) (.leaf (.dat zd (Hn (zT n,zU n) (zT d,zU d))) []) .fail) .fail) .fail) (.ite (decide (d>4000000000000000000)) (.ite (CS n) (.ite (CS d) (.ite (Cy (zT n,zU n)&&Cy (zT d,zU d)&&decide (Sp.vR (zT d,zU d)≠0)) (.leaf (.dat zd (Hn (zT n,zU n) (zT d,zU d))) []) .fail) .fail) .fail) (L1 n d)))):=by kernel_rfl
def L2(v0 v1:Int):Tr:=re ((stepT X4 (L1 0 0)).L) (AI 61 [(0,.dat i64 v0),(1,.dat i64 v1)] [] 0)
theorem Ar(v0 v1:Int):stepT X4 (L1 v0 v1)=.ite (decide (v1<0)) (L2 (zc .i64 (0-v0)) (zc .i64 (0-v1))) (L2 v0 v1):=by kernel_rfl
def L3(v0 v1:Int):Tr:=re ((stepT X4 (L2 0 0)).L.L.L) (AI 61 [(0,.dat i64 v0),(1,.dat i64 v1)] [] 0)
theorem A1(v0 v1:Int):stepT X4 (L2 v0 v1)=.ite (tO (imax v0 (zc .i64 (0-v0))) v1) (.ite (decide (Sp.gI (imax v0 (zc .i64 (0-v0))) v1≠0)) (.ite (decide (Sp.gI (imax v0 (zc .i64 (0-v0))) v1≠0)) (L3 (zc .i64 (zS v0 (Sp.gI (imax v0 (zc .i64 (0-v0))) v1))) (zc .i64 (zS v1 (Sp.gI (imax v0 (zc .i64 (0-v0))) v1)))) .fail) .fail) .fail:=by kernel_rfl
def L4(v1:Int)(v6:List UInt8):Tr:=re ((stepT X4 (L3 0 0)).L.L.L) (AI 61 [(1,.dat i64 v1),(6,.dat zd v6)] [] 0)
theorem CN(v0 v1:Int):stepT X4 (L3 v0 v1)=.ite (decide (v0<0)) (.ite (decide (0≤imax v0 (zc .i64 (0-v0)))&&decide (imax v0 (zc .i64 (0-v0))<9223372036854775808)&&decide (0≤1)&&decide (1≤20)) (.ite (decide (1+length (Ht (imax v0 (zc .i64 (0-v0))) 1)≤4611686018427387904)) (L4 v1 ([(45:UInt8)]++Ht (imax v0 (zc .i64 (0-v0))) 1)) .fail) .fail) (.ite (decide (0≤imax v0 (zc .i64 (0-v0)))&&decide (imax v0 (zc .i64 (0-v0))<9223372036854775808)&&decide (0≤1)&&decide (1≤20)) (.ite (decide (0+length (Ht (imax v0 (zc .i64 (0-v0))) 1)≤4611686018427387904)) (L4 v1 ([]++Ht (imax v0 (zc .i64 (0-v0))) 1)) .fail) .fail):=by kernel_rfl
theorem Dm(v1:Int)(v6:List UInt8):stepT X4 (L4 v1 v6)=.ite (decide (v1>1)) (.ite (decide (length v6+1≤4611686018427387904)) (.ite (decide (0≤v1)&&decide (v1<9223372036854775808)&&decide (0≤1)&&decide (1≤20)) (.ite (decide (length (v6++[(47:UInt8)])+length (Ht v1 1)≤4611686018427387904)) (.leaf (.dat zd (v6++[(47:UInt8)]++Ht v1 1)) []) .fail) .fail) .fail) (.leaf (.dat zd v6) []):=by kernel_rfl
end T36
end
end Go.Pe
end
section
namespace Go.Pe
open Sp
open Go.Det
noncomputable section
open List Int Prod
namespace T108
def T(a b:Int):Tr:=tree I4 false 9 108 (Ah ([zn zt,zn zt]) (a,b))
def L1(v0 v1:Int):Tr:=re ((T 0 0)) (AI 12 [(0,.dat i64 v0),(1,.dat i64 v1)] [] 0)
theorem An(a b:Int):T a b=L1 a b:=by kernel_rfl
theorem Ar(v0 v1:Int):stepT I4 (L1 v0 v1)=.ite (decide (v1>0)) (.ite (decide (v1≠0)) (L1 v1 (zD v0 v1)) .fail) (.leaf (.dat i64 v0) []):=by kernel_rfl
end T108
namespace T41
def T(s:List UInt8):Tr:=tree I4 false 9 41 (Ah ([zd]) s)
theorem An(s:List UInt8):T s=let a':Tr:=.leaf (.dat i64 (1:Int)) [];.ite (s==[(48:UInt8)]) (.leaf (.dat i64 (0:Int)) []) (.ite (decide ((length s:Int)>0)) (.ite (decide (0<(length s:Int))) (.ite ((↑(UInt8.toNat (getD s 0 (0:UInt8))):Int)==45) (.leaf (.dat i64 (-1:Int)) []) a') .fail) a'):=by kernel_rfl
end T41
namespace T99
def T(s:List UInt8):Tr:=tree wH false 9 99 (Ah ([zd]) s)
theorem An(s:List UInt8):T s=let a':=decide (length s≤1000000);.ite a' (.ite (decide (Gk s<0)) (.ite (decide (1≤length s)&&decide (length s≤length s)) (.leaf (.dat zd (take (zG (length s) 1) (drop 1 s))) []) .fail) (.ite a' (.ite (Gk s==0) (.leaf (.dat zd s) []) (.ite (decide (1+length s≤4611686018427387904)) (.leaf (.dat zd ([(45:UInt8)]++s)) []) .fail)) .fail)) .fail:=by kernel_rfl
end T99
namespace T109
def T(n l:Int):Tr:=tree I4 false 9 109 (Ah ([zn zt,zn zt]) (n,l))
def L1(v0 v1:Int)(v5:List UInt8):Tr:=re ((T 0 0)) (AI 25 [(0,.dat i64 v0),(1,.dat i64 v1),(5,.dat zd v5)] [] 0)
theorem An(n l:Int):T n l=L1 n l []:=by kernel_rfl
theorem Ar(v0 v1:Int)(v5:List UInt8):stepT I4 (L1 v0 v1 v5)=let c':=zc .i64 (zD v0 10+1);let d':=toNat (zD v0 10);let b':=drop d' [(48:UInt8),(49:UInt8),(50:UInt8),(51:UInt8),(52:UInt8),(53:UInt8),(54:UInt8),(55:UInt8),(56:UInt8),(57:UInt8)];let a':Tr:=.ite true (.ite true (.ite (decide (0≤zD v0 10)&&decide (0≤zc .i64 (zD v0 10+1))&&decide (toNat (zD v0 10)≤toNat c')&&decide (toNat c'≤10)) (.ite (decide (length (take (zG (toNat c') d') b')+length v5≤4611686018427387904)) (.ite true (L1 (zc .i64 (zS v0 10)) v1 (take (zG (toNat c') d') b'++v5)) .fail) .fail) .fail) .fail) .fail;.ite (decide (v0>0)) a' (.ite (decide ((length v5:Int)<v1)) a' (.leaf (.dat zd v5) [])):=by kernel_rfl
end T109
namespace T95
def T(s:List UInt8):Tr:=tree Ml false 9 95 (Ah ([zd]) s)
def L1(v5:List UInt8)(v6:Bool):Tr:=re ((T []).R.L.L) (AI 54 [(5,.dat zd v5),(6,.dat zl v6)] [] 0)
def L2(v5:List UInt8):Tr:=re ((T []).R.R) (AI 54 [(5,.dat zd v5),(6,.bl false)] [] 0)
theorem An(s:List UInt8):T s=let a':=(length s:Int);.ite (decide (a'>20)) (.leaf (.tup [.dat i64 (0:Int),.dat i64 (0:Int),.bl false]) []) (.ite (decide (a'>0)) (.ite (decide (0<a')) (L1 s ((↑(UInt8.toNat (getD s 0 (0:UInt8))):Int)==45)) .fail) (L2 s)):=by kernel_rfl
def L3(v5:List UInt8)(v6:Bool):Tr:=re ((stepT Ml (L1 [] false)).L.L) (AI 54 [(5,.dat zd v5),(6,.dat zl v6)] [] 0)
theorem Ar(v5:List UInt8)(v6:Bool):stepT Ml (L1 v5 v6)=.ite v6 (.ite (decide (1≤length v5)&&decide (length v5≤length v5)) (L3 (take (zG (length v5) 1) (drop 1 v5)) v6) .fail) (L3 v5 v6):=by kernel_rfl
def L4(v5:List UInt8):Tr:=re ((stepT Ml (L2 []))) (AI 54 [(5,.dat zd v5),(6,.bl false)] [] 0)
theorem A1(v5:List UInt8):stepT Ml (L2 v5)=L4 v5:=by kernel_rfl
def L5(v5:List UInt8)(v6:Bool)(v7 v8 v9:Int):Tr:=re ((stepT Ml (L3 [] false)).L.R.R.L.L) (AI 54 [(5,.dat zd v5),(6,.dat zl v6),(7,.dat i64 v7),(8,.dat i64 v8),(9,.dat i64 v9)] [] 0)
theorem CN(v5:List UInt8)(v6:Bool):stepT Ml (L3 v5 v6)=let a':Tr:=.leaf (.tup [.dat i64 (0:Int),.dat i64 (0:Int),.bl false]) [];let b':=AY v5;.ite (decide (length v5≤1000000)) (.ite (decide (AY v5>9)) a' (.ite (decide (zc .i64 ((length v5:Int)-AY v5)>10)) a' (.ite (decide (0≤AY v5)&&decide (0≤toNat b')&&decide (toNat b'≤length v5)) (.ite (Dx (take (toNat b') v5)) (L5 v5 v6 b' (Bv (take (toNat b') v5)) 1) .fail) .fail))) .fail:=by kernel_rfl
def L6(v5:List UInt8)(v7 v8 v9:Int):Tr:=re ((stepT Ml (L4 [])).L.R.R.L.L) (AI 54 [(5,.dat zd v5),(6,.bl false),(7,.dat i64 v7),(8,.dat i64 v8),(9,.dat i64 v9)] [] 0)
theorem Dm(v5:List UInt8):stepT Ml (L4 v5)=let a':Tr:=.leaf (.tup [.dat i64 (0:Int),.dat i64 (0:Int),.bl false]) [];let b':=AY v5;.ite (decide (length v5≤1000000)) (.ite (decide (AY v5>9)) a' (.ite (decide (zc .i64 ((length v5:Int)-AY v5)>10)) a' (.ite (decide (0≤AY v5)&&decide (0≤toNat b')&&decide (toNat b'≤length v5)) (.ite (Dx (take (toNat b') v5)) (L6 v5 b' (Bv (take (toNat b') v5)) 1) .fail) .fail))) .fail:=by kernel_rfl
def L7(v6:Bool)(v8 v9:Int):Tr:=re ((stepT Ml (L5 [] false 0 0 0)).L.L.L) (AI 54 [(6,.dat zl v6),(8,.dat i64 v8),(9,.dat i64 v9)] [] 0)
theorem Gy(v5:List UInt8)(v6:Bool)(v7 v8 v9:Int):stepT Ml (L5 v5 v6 v7 v8 v9)=let b':=zc .i64 (v7+1);let a':=take (zG (length v5) (toNat b')) (drop (toNat b') v5);.ite (decide (v7<(length v5:Int))) (.ite (decide (0≤zc .i64 (v7+1))&&true&&decide (toNat b'≤length v5)&&decide (length v5≤length v5)) (.ite (Dx a') (L7 v6 v8 (Bv a')) .fail) .fail) (L7 v6 v8 v9):=by kernel_rfl
def L8(v8 v9:Int):Tr:=re ((stepT Ml (L6 [] 0 0 0)).L.L.L) (AI 54 [(6,.bl false),(8,.dat i64 v8),(9,.dat i64 v9)] [] 0)
theorem Hr(v5:List UInt8)(v7 v8 v9:Int):stepT Ml (L6 v5 v7 v8 v9)=let b':=zc .i64 (v7+1);let a':=take (zG (length v5) (toNat b')) (drop (toNat b') v5);.ite (decide (v7<(length v5:Int))) (.ite (decide (0≤zc .i64 (v7+1))&&true&&decide (toNat b'≤length v5)&&decide (length v5≤length v5)) (.ite (Dx a') (L8 v8 (Bv a')) .fail) .fail) (L8 v8 v9):=by kernel_rfl
theorem FH(v6:Bool)(v8 v9:Int):stepT Ml (L7 v6 v8 v9)=.ite v6 (.leaf (.tup [.dat i64 (zc .i64 (0-v8)),.dat i64 v9,.bl true]) []) (.leaf (.tup [.dat i64 v8,.dat i64 v9,.bl true]) []):=by kernel_rfl
theorem Jb(v8 v9:Int):stepT Ml (L8 v8 v9)=.leaf (.tup [.dat i64 v8,.dat i64 v9,.bl true]) []:=by kernel_rfl
end T95
end
end Go.Pe
end
section
namespace Go.Pe
open Sp
open Go.Det
noncomputable section
open List Int Prod
namespace T100
def T(a:List UInt8):Tr:=tree I4 false 9 100 (Ah ([zd]) a)
theorem An(a:List UInt8):T a=let a':Tr:=.ite (decide (1≤length a)&&decide (length a≤length a)) (.leaf (.dat zd (take (zG (length a) 1) (drop 1 a))) []) .fail;let b':Tr:=.ite false a' (.leaf (.dat zd a) []);.ite (a==[(48:UInt8)]) b' (.ite (decide ((length a:Int)>0)) (.ite (decide (0<(length a:Int))) (.ite ((↑(UInt8.toNat (getD a 0 (0:UInt8))):Int)==45) (.ite true a' (.leaf (.dat zd a) [])) b') .fail) b'):=by kernel_rfl
end T100
namespace T101
def T(a:List UInt8):Tr:=tree uD false 9 101 (Ah ([zd]) a)
theorem An(a:List UInt8):T a=.ite (decide (length a≤1000000)) (.ite (decide (0≤AY a)&&decide (0≤toNat (AY a))&&decide (toNat (AY a)≤length a)) (.leaf (.dat zd (take (toNat (AY a)) a)) []) .fail) .fail:=by kernel_rfl
end T101
namespace T102
def T(a:List UInt8):Tr:=tree uD false 9 102 (Ah ([zd]) a)
theorem An(a:List UInt8):T a=let a':=zc .i64 (AY a+1);.ite (decide (length a≤1000000)) (.ite (AY a==(length a:Int)) (.leaf (.dat zd [(49:UInt8)]) []) (.ite (decide (0≤zc .i64 (AY a+1))&&true&&decide (toNat a'≤length a)&&decide (length a≤length a)) (.leaf (.dat zd (take (zG (length a) (toNat a')) (drop (toNat a') a))) []) .fail)) .fail:=by kernel_rfl
end T102
namespace T31
def T(a:List UInt8)(n:Int):Tr:=tree wC false 9 31 (Ah ([zd,zn zt]) (a,n))
theorem An(a:List UInt8)(n:Int):T a n=let a':=decide (length a≤1000000);let b':Tr:=.leaf (.bl false) [];.ite (decide ((length a:Int)≤zc .i64 (zc .i64 (2*n)+2))) (.ite a' (.ite (Ay a==0) (.ite a' (.ite (decide (length (Ax a)≤1000000)) (.ite (decide ((↑(length (AZ (Ax a))):Int)≤n)) (.ite a' (.leaf (.dat zl (decide ((↑(length (Pc a)):Int)≤n))) []) .fail) b') .fail) .fail) b') .fail) b':=by kernel_rfl
end T31
namespace T46
def T(a:List UInt8)(n:Int):Tr:=tree wT false 9 46 (Ah ([zd,zn zt]) (a,n))
theorem An(a:List UInt8)(n:Int):T a n=.ite (decide ((length a:Int)≤40)) (.ite (decide (length a≤1000000)) (.ite (Ay a !=0) (.leaf (.bl true) []) (.ite (decide (0≤n)&&decide (n≤1000)) (.leaf (.dat zl (Pd a n)) []) .fail)) .fail) (.leaf (.bl false) []):=by kernel_rfl
end T46
end
end Go.Pe
end
section
namespace Go.Pe
open Sp
open Go.Det
theorem VU:∀g sp,uD.sp g=some sp→Ae AV g sp:=Ac T89.ok (fun g sp h=>by cases h)
theorem T100.ok:Ae AV 100 Vw:=by
 refine AB (X:=I4) rfl EU (d:=9) (by kernel_rfl) (by kernel_rfl) (by kernel_rfl) (fun(a:List UInt8) hl=>?_) (Ad (by kernel_rfl));have hl:a.length≤1000000:=of_decide_eq_true hl;have hq:∀s ob,s=AZ a→Af Vw a (.dat .str s) ob:=fun s ob h=>zI rfl rfl h
 refine zC (T100.An a) (zu (fun c=>zq rfl (zh (hq _ _ ?_))) (fun c=>?_))
 ·have c:a=[48]:=by simpa using c
  subst c;rfl
 ·cases a with
  |nil=>exact zq rfl (zq rfl (zh (hq _ _ rfl)))
  |cons x r=>
   have g0:(x::r).getD 0 0=x:=rfl;have e:(yp 1 (x::r)).take (zG (x::r).length 1)=r:=by show r.take ((r.length+1)-1)=r;rw[zQ];exact List.take_length
   rw[g0,e];refine ze (by simp) (ze (by simp) (zu (fun d=>ze rfl (ze (by simp) (zh (hq _ _ ?_)))) (fun d=>zq rfl (zh (hq _ _ ?_)))))
   ·have hc:x=45:=by
     have:(x.toNat:Int)=45:=by simpa using d
     exact UInt8.toNat_inj.1 (by show _=45;omega)
    unfold AZ;rw[g0,if_pos hc];rfl
   ·have hc:x≠45:=by rintro rfl;exact absurd d (by decide)
    unfold AZ;rw[g0,if_neg hc]
theorem T101.ok:Ae AV 101 dN:=by
 refine AB (X:=uD) rfl VU (d:=9) (by kernel_rfl) (by kernel_rfl) (by kernel_rfl) (fun(a:List UInt8) hl=>?_) (Ad (by kernel_rfl));have hle:=(T77.CP a).1;refine zC (T101.An a) (ze hl ?_);rw[show AY a=((Ax a).length:Int)from rfl,zp];exact ze (by simp;omega) (zh (zI rfl rfl (BG a).1.symm))
theorem T102.ok:Ae AV 102 WT:=by
 refine AB (X:=uD) rfl VU (d:=9) (by kernel_rfl) (by kernel_rfl) (by kernel_rfl) (fun(a:List UInt8) hl=>?_) (Ad (by kernel_rfl));have hl':a.length≤1000000:=of_decide_eq_true hl;obtain⟨c1,c2,c3⟩:=BG a;have hq:∀s ob,s=Pc a→Af WT a (.dat .str s) ob:=fun s ob h=>zI rfl rfl h
 have hle:=(T77.CP a).1;have es:AY a=((Ax a).length:Int):=rfl;refine zC (T102.An a) (ze hl ?_);rw[es];cases hc:Bm a with
 |false=>
  refine ze (by rw[(c3 hc).1];simp) (zh (hq _ _ ?_));unfold Pc;rw[hc];rfl
 |true=>
  obtain⟨k1,k2⟩:=c2 hc;have e1:zc .i64 (((Ax a).length:Int)+1)=(((Ax a).length+1:Nat):Int):=by rw[wr _ (by omega) (by omega)];omega
  have e2:(a.drop ((Ax a).length+1)).take (zG a.length ((Ax a).length+1))=a.drop ((Ax a).length+1):=zB (by rw[zE];exact zY _);rw[e1,zp,e2];refine zq (by simp;omega) (ze (by simp;omega) (zh (hq _ _ ?_)));unfold Pc;rw[hc,k2];rfl
theorem iF:∀g sp,wC.sp g=some sp→Ae AV g sp:=Ac T24.ok (Ac T100.ok (Ac T101.ok (Ac T102.ok (fun g sp h=>by cases h))))
theorem T31.ok:Ae AV 31 Z0:=by
 refine AB (X:=wC) rfl iF (d:=9) (by kernel_rfl) (by kernel_rfl) (by kernel_rfl) (fun(i:List UInt8×Int) hi=>?_) (Ad (by kernel_rfl));obtain⟨a,n⟩:=i;have hi:(decide (0≤n)&&decide (n≤1000))=true:=hi;rw[zj,decide_eq_true_eq,decide_eq_true_eq]at hi;obtain⟨h0,h1⟩:=hi;have hq:∀v b ob,v=.bl b∨v=.dat .bool b→b=Pd a n→Af Z0 (a,n) v ob:=by
  rintro v b ob (rfl|rfl) hb
  ·exact zI rfl rfl hb
  ·exact zI rfl rfl hb
 have e1:zc .i64 (zc .i64 (2*n)+2)=2*n+2:=by rw[wr (2*n) (by omega) (by omega)];exact wr _ (by omega) (by omega)
 have hle:=(T77.CP a).1;refine zC (T31.An a n) ?_;conv=>zeta
 rw[e1];by_cases hl:a.length≤1000000
 case neg=>
  have c:decide ((a.length:Int)≤2*n+2)=false:=decide_eq_false (by omega);refine zq c (zh (hq _ _ _ (.inl rfl) ?_));unfold Pd;rw[c];rfl
 refine zu (fun c=>ze (decide_eq_true hl) (zu (fun d=>ze (decide_eq_true hl) (ze (decide_eq_true (by omega)) (zu (fun e=>ze (decide_eq_true hl) (zh (hq _ _ _ (.inr rfl) ?_))) (fun e=>zh (hq _ _ _ (.inl rfl) ?_))))) (fun d=>zh (hq _ _ _ (.inl rfl) ?_)))) (fun c=>zh (hq _ _ _ (.inl rfl) ?_))
 ·have d:Ay a=0:=by simpa using d
  unfold Pd;rw[c,e,decide_eq_true d];rfl
 ·unfold Pd;rw[e];simp
 ·have d:Ay a≠0:=by simpa using d
  unfold Pd;rw[decide_eq_false d];simp
 ·unfold Pd;rw[c];rfl
theorem jB:∀g sp,wT.sp g=some sp→Ae AV g sp:=Ac T24.ok (Ac T31.ok (fun g sp h=>by cases h))
theorem T46.ok:Ae AV 46 IM:=by
 refine AB (X:=wT) rfl jB (d:=9) (by kernel_rfl) (by kernel_rfl) (by kernel_rfl) (fun(i:List UInt8×Int) hi=>?_) (Ad (by kernel_rfl));obtain⟨a,n⟩:=i;have hi':(decide (0≤n)&&decide (n≤1000))=true:=hi;rw[zj,decide_eq_true_eq,decide_eq_true_eq]at hi';obtain⟨h0,h1⟩:=hi';have hq:∀v b ob,v=.bl b∨v=.dat .bool b→b=A6 a n→Af IM (a,n) v ob:=by
  rintro v b ob (rfl|rfl) hb
  ·exact zI rfl rfl hb
  ·exact zI rfl rfl hb
 refine zC (T46.An a n) (zu (fun c=>ze (decide_eq_true (by have:=of_decide_eq_true c;omega)) (zu (fun d=>zh (hq _ _ _ (.inl rfl) ?_)) (fun d=>ze (Aa (decide_eq_true h0) (decide_eq_true h1)) (zh (hq _ _ _ (.inr rfl) ?_))))) (fun c=>zh (hq _ _ _ (.inl rfl) ?_)))
 ·have c:=of_decide_eq_true c;have d:Ay a≠0:=by simpa using d
  unfold A6;rw[decide_eq_true (p:=a.length≤40) (by omega),decide_eq_true d];rfl
 ·have c:=of_decide_eq_true c;have d:Ay a=0:=by simpa using d
  unfold A6;rw[decide_eq_true (p:=a.length≤40) (by omega),decide_eq_false (fun h=>h d)];rfl
 ·have c:=of_decide_eq_false c;unfold A6;rw[decide_eq_false (p:=a.length≤40) (by omega)];rfl
end Go.Pe
end
section
namespace Go.Pe
open Sp
open Go.Det
namespace T108
variable {Q:PV→Ob→Prop}
theorem Aj(g:Nat)(hq:∀ob,Q (.dat i64 (g:Int)) ob):∀(f x y:Nat),y<f→Nat.gcd x y=g→Ends I4 (L1 (x:Int) (y:Int)) Q
 |0,x,y,h,_=>by omega
 |f+1,x,y,hy,hg=>by
  refine zR (Ar ..) ?_;conv=>zeta
  by_cases h0:y=0
  ·subst h0;rw[Nat.gcd_zero_right]at hg;subst hg;exact zq rfl (zh (hq _))
  ·have e:zD (x:Int) (y:Int)=((x % y:Nat):Int):=by rw[yb (zO x)];rfl
   rw[e];have hlt:x % y<y:=yk _ (by omega);exact ze (by simp;omega) (ze (by simp;omega) (Aj g hq f y (x % y) (by omega) (by rw[Nat.gcd_comm, ←Nat.gcd_rec,Nat.gcd_comm];exact hg)))
theorem ok:Ae AV 108 mJ:=by
 refine AB (X:=I4) rfl EU (d:=9) (by kernel_rfl) (by kernel_rfl) (by kernel_rfl) (fun(i:Int×Int) hi=>?_) (Ad (by kernel_rfl));obtain⟨a,b⟩:=i;have hi:(decide (0≤a)&&decide (a<9223372036854775808)&&decide (0≤b)&&decide (b<9223372036854775808))=true:=hi;rw[zj,zj,zj,decide_eq_true_eq,decide_eq_true_eq,decide_eq_true_eq,decide_eq_true_eq]at hi;obtain⟨⟨⟨a0,_⟩,b0⟩,_⟩:=hi;obtain⟨x,rfl⟩:=zz a0;obtain⟨y,rfl⟩:=zz b0;refine zC (An x y) (Aj (Nat.gcd x y) (fun ob=>zI rfl rfl ?_) (y+1) x y (Nat.lt_succ_self _) rfl);show((Nat.gcd x y:Nat):Int)=Sp.gI (x:Int) (y:Int);rw[F8];rfl
end T108
namespace T41
theorem ok:Ae AV 41 QA:=by
 refine AB (X:=I4) rfl EU (d:=9) (by kernel_rfl) (by kernel_rfl) (by kernel_rfl) (fun(s:List UInt8) hl=>?_) (Ad (by kernel_rfl));have hq:∀v ob,v=Gk s→Af QA s (.dat i64 v) ob:=fun v ob hb=>zI rfl rfl hb
 refine zC (An s) (zu (fun c=>zh (hq _ _ ?_)) (fun c=>?_))
 ·have c:s=[48]:=by simpa using c
  unfold Gk;rw[if_pos c]
 ·have c:¬s=[48]:=by simpa using c
  cases s with
  |nil=>exact zq rfl (zh (hq _ _ rfl))
  |cons x r=>
   have g0:(x::r).getD 0 0=x:=rfl;rw[g0];refine ze (by simp) (ze (by simp) (zu (fun d=>zh (hq _ _ ?_)) (fun d=>zh (hq _ _ ?_))))
   ·have hx:x=45:=by
     have:(x.toNat:Int)=45:=by simpa using d
     exact UInt8.toNat_inj.1 (by show _=45;omega)
    unfold Gk;rw[if_neg c,g0,if_pos hx]
   ·have hx:x≠45:=by rintro rfl;exact absurd d (by decide)
    unfold Gk;rw[if_neg c,g0,if_neg hx]
end T41
theorem kY:∀g sp,wH.sp g=some sp→Ae AV g sp:=Ac T41.ok (fun g sp h=>by cases h)
theorem T99.ok:Ae AV 99 ZB:=by
 refine AB (X:=wH) rfl kY (d:=9) (by kernel_rfl) (by kernel_rfl) (by kernel_rfl) (fun(s:List UInt8) hl=>?_) (Ad (by kernel_rfl));have hl:s.length≤1000000:=of_decide_eq_true hl;have hq:∀v ob,v=J4 s→Af ZB s (.dat .str v) ob:=fun v ob hb=>zI rfl rfl hb
 refine zC (T99.An s) (ze (decide_eq_true hl) ?_);unfold J4 at hq;unfold Gk;by_cases c:s=[48]
 ·rw[if_pos c];rw[if_pos c]at hq;exact zq rfl (ze (decide_eq_true hl) (ze rfl (zh (hq _ _ rfl))))
 ·rw[if_neg c];rw[if_neg c]at hq;by_cases d:s.getD 0 0=45
  ·rw[if_pos d];rw[if_pos d]at hq;have hn:s≠[]:=by rintro rfl;exact absurd d (by decide)
   have hp:1≤s.length:=z7.2 hn;refine ze rfl (ze (by simp;omega) (zh (hq _ _ ?_)));exact zB (by rw[zE];exact zY _)
  ·rw[if_neg d];rw[if_neg d]at hq;exact zq rfl (ze (decide_eq_true hl) (zq rfl (ze (by simp;omega) (zh (hq _ _ rfl)))))
namespace T109
theorem Xn:∀k:Fin 10,ye (zG (k.1+1) k.1) (yp k.1 [(48:UInt8),49,50,51,52,53,54,55,56,57])=[zX (48+k.1)]:=by decide
theorem Aj{Q:PV→Ob→Prop}(l:Nat)(hl:l≤20):∀(f n:Nat) (acc:List UInt8),n<9223372036854775808→n<10^f→l≤acc.length+f→acc.length+f≤64→(∀ob,Q (.dat .str (GK (f+1) n l acc)) ob)→Ends I4 (L1 (n:Int) (l:Int) acc) Q:=by
 intro f;induction f with
 |zero=>
  intro n acc hn hf hle h64 hq;have h0:n=0:=by rw[Nat.pow_zero]at hf;omega
  subst h0;unfold GK at hq;rw[if_pos ⟨rfl,by omega⟩]at hq;exact zR (Ar ..) (zq rfl (zq (by simp;omega) (zh (hq _))))
 |succ f ih=>
  intro n acc hn hf hle h64 hq;have e1:zD (n:Int) 10=((n % 10:Nat):Int):=by rw[yb (zO n)];rfl
  have e2:zc .i64 (((n % 10:Nat):Int)+1)=((n % 10+1:Nat):Int):=by rw[wr _ (by omega) (by omega)];omega
  have e3:zc .i64 (zS (n:Int) 10)=((n/10:Nat):Int):=by rw[Int.tdiv_eq_ediv_of_nonneg (zO n),wr _ (by omega) (by omega)];rfl
  have hd:=Xn ⟨n % 10,yk _ (by decide)⟩;have hd:ye (zG (n % 10+1) (n % 10)) (yp (n % 10) [(48:UInt8),49,50,51,52,53,54,55,56,57])=[zX (48+n % 10)]:=hd;have hm:n % 10<10:=yk _ (by decide);rw[ym]at hf;refine zR (Ar ..) ?_;conv=>zeta
  rw[e1,e2,e3,zp,zp,hd];by_cases hz:n=0∧l≤acc.length
  ·obtain⟨z1,z2⟩:=hz;subst z1;unfold GK at hq;rw[if_pos ⟨rfl,z2⟩]at hq;exact zq rfl (zq (by simp;omega) (zh (hq _)))
  ·have hq2:∀ob,Q (.dat .str (GK (f+1) (n/10) l (zX (48+n % 10)::acc))) ob:=by
    intro ob;have:=hq ob;unfold GK at this;rw[if_neg hz]at this;exact this
   have go:Ends I4 (L1 ((n/10:Nat):Int) (l:Int) ([zX (48+n % 10)]++acc)) Q:=ih (n/10) (zX (48+n % 10)::acc) (by omega) (by omega) (by rw[zw];omega) (by rw[zw];omega) hq2;refine zu (fun _=>?_) (fun c=>ze ?_ ?_)
   ·exact ze rfl (ze rfl (ze (by simp;omega) (ze (by simp;omega) (ze rfl go))))
   ·have c:=of_decide_eq_false c;exact decide_eq_true (by omega)
   ·exact ze rfl (ze rfl (ze (by simp;omega) (ze (by simp;omega) (ze rfl go))))
theorem ok:Ae AV 109 OJ:=by
 refine AB (X:=I4) rfl EU (d:=9) (by kernel_rfl) (by kernel_rfl) (by kernel_rfl) (fun(i:Int×Int) hi=>?_) (Ad (by kernel_rfl));obtain⟨a,b⟩:=i;have hi:(decide (0≤a)&&decide (a<9223372036854775808)&&decide (0≤b)&&decide (b≤20))=true:=hi;rw[zj,zj,zj,decide_eq_true_eq,decide_eq_true_eq,decide_eq_true_eq,decide_eq_true_eq]at hi;obtain⟨⟨⟨a0,a1⟩,b0⟩,b1⟩:=hi;obtain⟨x,rfl⟩:=zz a0;obtain⟨y,rfl⟩:=zz b0;refine zC (An x y) (Aj y (by omega) 63 x [] (by omega) (by omega) (by show y≤0+63;omega) (by decide) (fun ob=>zI rfl rfl ?_));show GK 64 x y []=GK 64 (x:Int).toNat (y:Int).toNat [];rw[zp,zp]
end T109
theorem fV:∀g sp,Ml.sp g=some sp→Ae AV g sp:=Ac T165.ok (Ac T89.ok (fun g sp h=>by cases h))
namespace T95
variable {Q:PV→Ob→Prop}
theorem Cc(neg:Bool)(n d:Int)(h0:0≤n)(h1:n<1000000000)(hq:∀ob,Q (.tup [.dat i64 (if neg=true then -n else n),.dat i64 d,.bl true]) ob):Ends Ml (L7 neg n d) Q:=by
 refine zR (FH ..) ?_;conv=>zeta
 cases neg with
 |true=>
  refine ze rfl (zh ?_);rw[wr _ (by omega) (by omega),Int.zero_sub];exact hq _
 |false=>exact zq rfl (zh (hq _))
theorem Ck(s:List UInt8)(neg:Bool)(n:Int)(h0:0≤n)(h1:n<1000000000)(hl:s.length≤20)(lb:(zV s).length≤9)(db:Al (zV s)=true)(hq:∀ob,Q (.tup [.dat i64 (if neg=true then -n else n),.dat i64 (if Bm s=true then AA 0 (zV s)else 1),.bl true]) ob):Ends Ml (L5 s neg (AY s) n 1) Q:=by
 obtain⟨c1,c2,c3⟩:=BG s;refine zR (Gy ..) ?_;conv=>zeta
 have es:AY s=((Ax s).length:Int):=rfl;have hle:=(T77.CP s).1;cases hc:Bm s with
 |true=>
  rw[hc]at hq;obtain⟨k1,k2⟩:=c2 hc;have e3:zc .i64 (AY s+1)=(((Ax s).length+1:Nat):Int):=by rw[es,wr _ (by omega) (by omega)];omega
  have hl2:(zV s).length=s.length-((Ax s).length+1):=by rw[k2,zE]
  have et:(zV s).take (zG s.length ((Ax s).length+1))=zV s:=zB (by show _≤s.length-_;omega);rw[e3,zp, ←k2,et];exact ze (by simp[es];omega) (ze (by simp;omega) (ze (T163.BU db (by omega)) (Cc neg n _ h0 h1 hq)))
 |false=>
  obtain⟨k1,k2⟩:=c3 hc;rw[hc]at hq;exact zq (by simp[es,k1]) (Cc neg n 1 h0 h1 hq)
theorem Cs(s:List UInt8)(neg:Bool)(hl:s.length≤20)(la:(Ax s).length≤9)(lb:(zV s).length≤9)(da:Al (Ax s)=true)(db:Al (zV s)=true)(hq:∀n ob,n=AA 0 (Ax s)→Q (.tup [.dat i64 (if neg=true then -n else n),.dat i64 (if Bm s=true then AA 0 (zV s)else 1),.bl true]) ob):Ends Ml (L3 s neg ) Q:=by
 obtain⟨c1,c2,c3⟩:=BG s;have es:AY s=((Ax s).length:Int):=rfl;have hle:=(T77.CP s).1;have hlen:s.length-(Ax s).length≤10:=by
  cases hc:Bm s with
  |true=>
   obtain⟨k1,k2⟩:=c2 hc;have:(zV s).length=s.length-((Ax s).length+1):=by rw[k2,zE]
   omega
  |false=>rw[(c3 hc).1];omega
 have et:ye (Int.toNat (AY s)) s=Ax s:=by rw[es,zp];exact c1.symm
 obtain⟨v0,v1⟩:=T163.Cj da la;refine zR (CN ..) ?_;conv=>zeta
 rw[et];refine ze (by simp;omega) (zq (by simp[es];omega) (zq ?_ (ze (by simp[es];omega) (ze (T163.BU da (by omega)) ?_))))
 ·rw[es,wr _ (by omega) (by omega)];exact decide_eq_false (by omega)
 ·exact Ck s neg (AA 0 (Ax s)) v0 v1 hl lb db (fun ob=>hq _ ob rfl)
theorem EY(n d:Int)(hq:∀ob,Q (.tup [.dat i64 n,.dat i64 d,.bl true]) ob):Ends Ml (L8 n d) Q:=by
 refine zR (Jb ..) ?_;conv=>zeta
 exact zh (hq _)
theorem Es(s:List UInt8)(n:Int)(hl:s.length≤20)(lb:(zV s).length≤9)(db:Al (zV s)=true)(hq:∀ob,Q (.tup [.dat i64 n,.dat i64 (if Bm s=true then AA 0 (zV s)else 1),.bl true]) ob):Ends Ml (L6 s (AY s) n 1) Q:=by
 obtain⟨c1,c2,c3⟩:=BG s;refine zR (Hr ..) ?_;conv=>zeta
 have es:AY s=((Ax s).length:Int):=rfl;have hle:=(T77.CP s).1;cases hc:Bm s with
 |true=>
  rw[hc]at hq;obtain⟨k1,k2⟩:=c2 hc;have e3:zc .i64 (AY s+1)=(((Ax s).length+1:Nat):Int):=by rw[es,wr _ (by omega) (by omega)];omega
  have hl2:(zV s).length=s.length-((Ax s).length+1):=by rw[k2,zE]
  have et:(zV s).take (zG s.length ((Ax s).length+1))=zV s:=zB (by show _≤s.length-_;omega);rw[e3,zp, ←k2,et];exact ze (by simp[es];omega) (ze (by simp;omega) (ze (T163.BU db (by omega)) (EY n _ hq)))
 |false=>
  obtain⟨k1,k2⟩:=c3 hc;rw[hc]at hq;exact zq (by simp[es,k1]) (EY n 1 hq)
theorem BR(s:List UInt8)(hl:s.length≤20)(la:(Ax s).length≤9)(lb:(zV s).length≤9)(da:Al (Ax s)=true)(db:Al (zV s)=true)(hq:∀n ob,n=AA 0 (Ax s)→Q (.tup [.dat i64 n,.dat i64 (if Bm s=true then AA 0 (zV s)else 1),.bl true]) ob):Ends Ml (L4 s ) Q:=by
 obtain⟨c1,c2,c3⟩:=BG s;have es:AY s=((Ax s).length:Int):=rfl;have hle:=(T77.CP s).1;have hlen:s.length-(Ax s).length≤10:=by
  cases hc:Bm s with
  |true=>
   obtain⟨k1,k2⟩:=c2 hc;have:(zV s).length=s.length-((Ax s).length+1):=by rw[k2,zE]
   omega
  |false=>rw[(c3 hc).1];omega
 have et:ye (Int.toNat (AY s)) s=Ax s:=by rw[es,zp];exact c1.symm
 obtain⟨v0,v1⟩:=T163.Cj da la;refine zR (Dm ..) ?_;conv=>zeta
 rw[et];refine ze (by simp;omega) (zq (by simp[es];omega) (zq ?_ (ze (by simp[es];omega) (ze (T163.BU da (by omega)) ?_))))
 ·rw[es,wr _ (by omega) (by omega)];exact decide_eq_false (by omega)
 ·exact Es s (AA 0 (Ax s)) hl lb db (fun ob=>hq _ ob rfl)
end T95
end Go.Pe
end
section
namespace Go.Sp
theorem Gt(a:List Int)(i:Nat):val B9 (a.drop i)=a.getD i 0+1000000000*val B9 (a.drop (i+1)):=by
 by_cases h:i<a.length
 ·rw[B3 h];rfl
 ·rw[zA (by omega),zA (by omega),show a.getD i 0=0 by rw[List.getD_eq_getElem?_getD,List.getElem?_eq_none (by omega)];rfl];rfl
structure Ff(a b:List Int)(i:Nat)(o:List Int)(c:Int):Prop where
 len:o.length=i
 d:Av B9 o
 c01:0≤c∧c≤1
 v:val B9 o+(B9:Int)^i*(c+val B9 (a.drop i)+val B9 (b.drop i))=Aq a+Aq b
 top:a.length≤i→b.length≤i→i=0∨(B9:Int)^(i-1)≤val B9 o+(B9:Int)^i*c
theorem Ff.start(a b:List Int):Ff a b 0 [] 0:=⟨rfl,(fun x hx=>by cases hx),by decide,by
 show 0+(B9:Int)^0*(0+val B9 a+val B9 b)=val B9 a+val B9 b;rw[Int.pow_zero,Int.one_mul];omega,fun _ _=>.inl rfl⟩
theorem Bu{a:List Int}(h:A4 a=true)(i:Nat):0≤a.getD i 0∧a.getD i 0<1000000000:=FX (Bj h).2.1 i
theorem RJ{a:List Int}(h:A4 a=true){i:Nat}(h1:i<a.length)(h2:a.length≤i+1):1≤a.getD i 0:=by
 have:=(Go.Pe.FQ (Bj h).2.1 (Bj h).2.2 (k:=i) (by omega)).1;omega
theorem Ff.step{a b:List Int}{i:Nat}{o:List Int}{c:Int}(h:Ff a b i o c)(ha:A4 a=true)(hb:A4 b=true)(hc:i<a.length∨i<b.length∨0<c):
  Ff a b (i+1) (o++[(a.getD i 0+b.getD i 0+c) % 1000000000]) ((a.getD i 0+b.getD i 0+c)/1000000000):=by
 obtain⟨x0,x1⟩:=Bu ha i;obtain⟨y0,y1⟩:=Bu hb i;obtain⟨c0,c1⟩:=h.c01;have hv:=h.v;rw[Gt a i,Gt b i]at hv;have hs:1≤a.getD i 0+b.getD i 0+c∨¬(a.length≤i+1∧b.length≤i+1):=by
  by_cases k:a.length≤i+1∧b.length≤i+1
  ·refine .inl ?_;rcases hc with hc|hc|hc
   ·have:=RJ ha hc k.1;omega
   ·have:=RJ hb hc k.2;omega
   ·omega
  ·exact .inr k
 have ho:=Az (b:=B9) (by decide) h.d;have hP:=AN (b:=B9) (by decide) i;generalize a.getD i 0=x at*;generalize b.getD i 0=y at*;have hval:val B9 (o++[(x+y+c) % 1000000000])=val B9 o+(B9:Int)^i*((x+y+c) % 1000000000):=by rw[B6,h.len]
 refine⟨by rw[zy,h.len];rfl,ER h.d (by omega),by omega,?_,fun k1 k2=>.inr ?_⟩
 ·rw[hval,Jl,yj, ←yi, ←hv];congr 2;omega
 ·rw[hval,Jl,yj, ←yi,zQ];have e:(x+y+c) % 1000000000+1000000000*((x+y+c)/1000000000)=x+y+c:=by omega
  rw[e];rcases hs with hs|hs
  ·have:=zF hs (yo hP);rw[Int.mul_one]at this;omega
  ·exact absurd ⟨k1,k2⟩ hs
theorem tX{o:List Int}(hd:Av B9 o)(h:o=[]∨(B9:Int)^(o.length-1)≤val B9 o):nz o:=by
 rcases h with rfl|h
 ·unfold nz;simp
 ·intro e;have hn:o≠[]:=by rintro rfl;simp at e
  have e2:o=o.dropLast++[0]:=by
   have h1:=(List.dropLast_concat_getLast hn).symm;rw[List.getLast?_eq_some_getLast hn]at e;rw[Option.some.inj e]at h1;exact h1
  have hl:o.length=o.dropLast.length+1:=by rw[List.length_dropLast];have:=z7.2 hn;omega
  have hv:val B9 o=val B9 o.dropLast:=by
   conv=>lhs;rw[e2]
   rw[B6,yg,yh]
  have hd2:Av B9 o.dropLast:=fun x hx=>hd x (by rw[e2];exact List.mem_append_left _ hx)
  have:=Bo (b:=B9) (by decide) hd2;rw[hv,hl,zQ]at h;omega
theorem Ff.fin{a b:List Int}{i:Nat}{o:List Int}(h:Ff a b i o 0)(h1:a.length≤i)(h2:b.length≤i):o=LA a b:=by
 have hv:=h.v;rw[zA h1,zA h2]at hv;have hv:val B9 o+(B9:Int)^i*(0+0+0)=Aq a+Aq b:=hv;rw[show(0+0+0:Int)=0 from rfl,yg,yh]at hv;have ht:=h.top h1 h2;rw[yg,yh, ←h.len]at ht;have hn:nz o:=tX h.d (by
  rcases ht with k|k
  ·exact .inl (yf.1 k)
  ·exact .inr k)
 unfold LA;rw[←hv];exact Ih (b:=B9) (by decide) h.d hn
structure FT(a b:List Int)(i:Nat)(o:List Int)(c:Int):Prop where
 len:o.length=i
 d:Av B9 o
 c01:0≤c∧c≤1
 v:val B9 o+(B9:Int)^i*(val B9 (a.drop i)-val B9 (b.drop i)-c)=Aq a-Aq b
theorem FT.start(a b:List Int):FT a b 0 [] 0:=⟨rfl,(fun x hx=>by cases hx),by decide,by
 show 0+(B9:Int)^0*(val B9 a-val B9 b-0)=val B9 a-val B9 b;rw[Int.pow_zero,Int.one_mul];omega⟩
theorem FT.step{a b:List Int}{i:Nat}{o:List Int}{c:Int}(h:FT a b i o c)(ha:A4 a=true)(hb:A4 b=true)(d c':Int)(hd:(a.getD i 0-b.getD i 0-c<0∧d=a.getD i 0-b.getD i 0-c+1000000000∧c'=1)∨(¬a.getD i 0-b.getD i 0-c<0∧d=a.getD i 0-b.getD i 0-c∧c'=0)):
  FT a b (i+1) (o++[d]) c':=by
 obtain⟨x0,x1⟩:=Bu ha i;obtain⟨y0,y1⟩:=Bu hb i;obtain⟨c0,c1⟩:=h.c01;have hv:=h.v;rw[Gt a i,Gt b i]at hv;generalize a.getD i 0=x at*;generalize b.getD i 0=y at*;refine⟨by rw[zy,h.len];rfl,ER h.d (by omega),by omega,?_⟩;rw[B6,h.len,Jl,yj, ←yi, ←hv];congr 2;omega
theorem FT.fin{a b:List Int}{o:List Int}{c:Int}(h:FT a b a.length o c)(hb:A4 b=true)(hle:Aq b≤Aq a):Au o=Gb a b:=by
 have hv:=h.v;rw[List.drop_length]at hv;have h0:=Az (b:=B9) (by decide) (Eb (Bj hb).2.1 a.length);have hlt:=Bo (b:=B9) (by decide) h.d;rw[h.len]at hlt;obtain⟨c0,c1⟩:=h.c01;have hP:=AN (b:=B9) (by decide) a.length;have hv:val B9 o+(B9:Int)^a.length*(0-val B9 (b.drop a.length)-c)=Aq a-Aq b:=hv;generalize val B9 (b.drop a.length)=z at*;have hz:0-z-c=0:=by
  rcases Int.lt_or_le (0-z-c) 0 with k|k
  ·have:=zF (show 0-z-c≤ -1 by omega) (yo hP);rw[Int.mul_neg,Int.mul_one]at this;omega
  ·omega
 rw[hz,yg,yh]at hv;unfold Gb;rw[Fj h.d, ←hv];rfl
end Go.Sp
end
