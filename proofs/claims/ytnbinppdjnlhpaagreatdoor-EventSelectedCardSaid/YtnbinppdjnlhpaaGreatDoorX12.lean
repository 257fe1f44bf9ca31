import Derived.Test.YtnbinppdjnlhpaaGreatDoorX11
import Derived.Test.YtnbinppdjnlhpaaGreatDoorX10
/- A part of a proof (no law is stated here). Made by program out of texts by AI agents. -/
open Go.IntKind renaming wrap → zc, i64 → zk, u64 → zn, u8 → zu, u16 → zw
open Go.Pe.Sh renaming str → zd, bool → ze, list → zf, pair → zg, int → zj, nlist → zr
open Nat renaming add → zh, sub → zm
open UInt8 renaming toNat → zi
open Option renaming getD → zl, some → zC
open Go.Fn renaming func → zo
open Go.Sp renaming first → zp, Sub → zq, out → zy
open Int renaming tmod → zt, tdiv → zx
open Go.Pe.PV renaming agg → zz, fn → zB
open List renaming map → zA
section
namespace Go.Sp
def fA(n:Int):List UInt8:=if n<0 then[45]else[]
def iJ(d:Int):List UInt8:=if 1<d then 47::B4 d 1 else[]
def dG(n d:Int):List UInt8:=fA (zx n (gI (Ah n) d))++B4 (Ah (zx n (gI (Ah n) d))) 1++iJ (zx d (gI (Ah n) d))
def jZ(n d:Int):List UInt8:=if d<0 then dG (-n) (-d)else dG n d
def mM(n d:Int):Bool:=decide (-4000000000000000000≤n)&&decide (n≤4000000000000000000)&&decide (-4000000000000000000≤d)&&decide (d≤4000000000000000000)&&decide (d≠0)
def AX(a:List UInt8):Bool:=Gy a&&decide (AJ a≠0)
def Pc(a b:List UInt8):List UInt8:=jZ (A0 a*AJ b+A0 b*AJ a) (AJ a*AJ b)
def CI(a b:List UInt8):Int:=BB (A0 a*AJ b) (A0 b*AJ a)
end Go.Sp
namespace Go.Pe
open Sp
open Go.Det
noncomputable section
noncomputable def gE:As:=⟨[i64,i64],fun i=>mM i.1 i.2,[.str],fun i=>jZ i.1 i.2,false⟩
noncomputable def eJ:As:=⟨[.str,.str],fun i=>AX i.1&&AX i.2,[.str],fun i=>Pc i.1 i.2,false⟩
noncomputable def eN:As:=⟨[.str,.str],fun i=>AX i.1&&AX i.2,[.str],fun i=>Pc i.1 (Ju i.2),false⟩
noncomputable def Uj:As:=⟨[.str,.str],fun i=>AX i.1&&AX i.2,[i64],fun i=>CI i.1 i.2,false⟩
noncomputable def lI:As:=⟨[N6,N6],fun _=>false,[.str],fun _=>[],false⟩
noncomputable def mT:As:=⟨[N6,N6],fun _=>false,[N6],fun i=>(i.1.1,i.1.2),false⟩
noncomputable def nA:AW:=X7 [(272,dJ),(273,RU),(208,I1),(213,lI)]
noncomputable def nX:AW:=X7 [(211,TH),(212,gE),(169,Pj),(213,lI),(214,mT),(215,mT)]
noncomputable def oO:AW:=X7 [(173,eJ),(174,Wu)]
noncomputable def oE:AW:=X7 [(131,eN),(130,PZ)]
end
end Go.Pe
end
section
namespace Go.Sp
abbrev AK:=List UInt8×List UInt8×Bool
def B8(l:List AK):List (List UInt8):=l.map (·.1)
def GJ(x:AK):Bool:=decide (x.1.length≤40)&&Br x.2.1 6
def E2(l:List AK):Bool:=decide (l.length≤205)&&l.all GJ
def D6(l:List AK)(n:Int):Bool:= !((decide ((l.length:Int)>n)&&decide (l.length≤200))||decide (205<l.length))&&l.all GJ
def bO:List UInt8:=[45,49,48]
def R1:List UInt8:=[53,52]
def S2(a:List UInt8):Bool:=decide (CI a bO<0)||decide (CI a R1>0)
def NX(seen:List (List UInt8))(x:AK):Int:=NS (C1 seen x.1) (NS (Bm x.2.1) (if S2 x.2.1=true then 3 else 0))
def I6(seen:List (List UInt8)):List AK→Int
 |[]=>0
 |x::r=>NS (NX seen x) (I6 (seen++[x.1]) r)
def A6(l:List AK):Int:=if 200<l.length then 5 else I6 [] l
end Go.Sp
namespace Go.Pe
open Go.Det
noncomputable section
abbrev G7:Sh:=.pair .str (.pair .str .bool)
noncomputable def JG:As:=⟨[.list G7,i64],fun _=>true,[.bool],fun i=>Sp.D6 i.1 i.2,false⟩
noncomputable def Ui:As:=⟨[.list G7],fun l=>Sp.E2 l,[Vz],fun l=>Sp.B8 l,false⟩
noncomputable def EC:As:=⟨[.list G7],fun l=>Sp.E2 l,[i64],fun l=>Sp.A6 l,false⟩
noncomputable def Wj:AW:=X7 [(126,J5)]
noncomputable def kM:AW:=X7 [(112,EI),(128,E5),(55,Uj),(127,Ui)]
end
end Go.Pe
end
section
namespace Go.Sp
def ix(l:List AK)(i:Int):List UInt8:=(l.getD i.toNat ([],[],false)).2.1
def DN(l:List AK)(o:List Int)(x:Int):List Int→List Int
 |[]=>x::o
 |y::r=>if CI (ix l y) (ix l x)>0 then DN l (y::o) x r else r.reverse++y::x::o
def He(l:List AK)(o:List Int)(x:Int):List Int:=DN l [] x o.reverse
def D7(l:List AK)(a:List Int):List Int:=a.foldl (He l) []
def gM(l:List AK)(a:List Int):Bool:=decide (l.length≤205)&&decide (a.length≤205)&&a.all fun i=>decide (0≤i)&&decide (i<(l.length:Int))&&AX (ix l i)
end Go.Sp
namespace Go.Pe
open Go.Det
noncomputable section
noncomputable def W9:As:=⟨[.list G7,Cq],fun i=>Sp.gM i.1 i.2,[Cq],fun i=>Sp.D7 i.1 i.2,false⟩
noncomputable def VY:AW:=X7 [(55,Uj)]
end
end Go.Pe
end
section
namespace Go.Sp
def Sg(i:Nat):List AK→List Int
 |[]=>[]
 |x::r=>if x.2.2=true then(i:Int)::Sg (i+1) r else Sg (i+1) r
def OQ(i:Nat):List AK→List Int
 |[]=>[]
 |x::r=>if x.2.2=true then OQ (i+1) r else(i:Int)::OQ (i+1) r
def pick(o b:List Int):List Int:=b.map fun k=>o.getD k.toNat 0
def EX(l:List AK)(key:Int):List Int:=pick (OQ 0 l) (Cg (OQ 0 l).length key)
def MO:List UInt8:=[105,110,100,101,120]
def S6:List UInt8:=[98,97,108,108,111,116]
def D0(l:List AK)(rule:List UInt8)(key:Int):List Int:=Sg 0 l++(if rule=MO then D7 l (EX l key)else EX l key)
def Di(l:List AK)(n:Int)(rule:List UInt8)(key:Int):Int:=NS (A6 l) (NS (out n 0 200) (NS (if rule=S6∨rule=MO then 0 else 13) (out key 1 2147483646)))
def DW(l:List AK)(n:Int)(rule:List UInt8)(key:Int):List Int×List Int×Int:=
 if Di l n rule key≠0 then([],[],Di l n rule key)else((D0 l rule key).take n.toNat,(D0 l rule key).drop n.toNat,0)
def NY(l:List AK)(a:List Int):Bool:=decide (l.length≤205)&&decide (a.length≤19)&&a.all fun i=>decide (0≤i)&&decide (i<(l.length:Int))&&Br (ix l i) 6&&decide (Bm (ix l i)=0)
def Zd(l:List AK):Bool:=E2 l&&(decide (l.length≤12)||decide (200<l.length))
def Kg(n:Int):List Int→List Bool→Bool
 |[],_=>true
 |k::r,seen=>if k<0 then false else if k≥n then false else if seen.getD k.toNat false=true then false else Kg n r (seen.set k.toNat true)
def Gb(a b:List Int)(n:Int):Bool:=decide ((a.length:Int)+b.length=n)&&Kg n (a++b) (List.replicate n.toNat false)
end Go.Sp
namespace Go.Pe
open Go.Det
noncomputable section
noncomputable def eL:As:=⟨[.list G7],fun l=>Sp.E2 l,[.list G7],fun l=>l,false⟩
noncomputable def Lm:As:=⟨[.list G7,i64,.str,i64],fun i=>Sp.Zd i.1,[Cq,Cq,i64],fun i=>Sp.DW i.1 i.2.1 i.2.2.1 i.2.2.2,false⟩
noncomputable def TD:As:=⟨[Cq,Cq,i64],fun i=>decide (i.1.length≤300)&&decide (i.2.1.length≤300)&&decide (0≤(i.2.2:Int))&&decide ((i.2.2:Int)≤300),[.bool],fun i=>Sp.Gb i.1 i.2.1 i.2.2,false⟩
noncomputable def pZ:List (FuncId×As):=(60,EC)::(89,SS)::(90,B2)::(88,GS)::nE
noncomputable def O4:Fi:=⟨[.list G7],3,i64,fun l a=>Sp.NY l a,fun l a=>Sp.D7 l a⟩
noncomputable def K2:AW:=X7 [(137,Xy),(138,Wr),(271,fW)]
noncomputable def Gu:AW:=AW.wr (eQ [(52,[12,20])] [(52,[(12,[(13,i64)]),(20,[(16,i64)])])] [(52,[(20,[1,12,16]),(12,[0,1,2,3,12,13]),(15,[0,1,2,12,13,16,59,60,61]),(14,[0,1,2,12,13,16,59,60,61]),(11,[0,1,2,3,12,13,38,39,40]),(7,[0,1,2,3,12,13,38,39,40]),(6,[0,1,2,3,12,13,38,39,40]),(4,[0,1,2,3])])] pZ) [(129,O4)]
noncomputable def WB:AW:=X7 [(140,W9),(24,B2)]
end
noncomputable section
noncomputable def JA:AW:=eQ [(8,[6,9,15,22,25])] [(8,[(9,[(15,i64)]),(22,[(19,i64)])])] [(8,[(30,[15,21,24,26,216,217,218]),(29,[15,21,24,26,216,217,218]),(28,[15,21,24,216,217,218]),(27,[15,21,24,216,217,218]),(25,[15,21]),(22,[0,7,8,15,19]),(21,[0,7,8,15,19,2,166,167]),(18,[0,2,7,8,15,19,166,167]),(17,[0,2,7,8,15,19,166,167]),(15,[0,2,7,8,15]),(11,[0,2,7,8,15,16]),(12,[0,2,7,8,15,16]),(10,[0,2,7,8,15,16]),(9,[0,2,7,8,15]),(6,[0,2,4,7,8,9,10,11,12,13,14]),(3,[0,2,4])])] [(17,Pw),(50,JG),(51,EC),(22,GS),(23,SS),(53,eL),(52,Lm),(18,Qm),(54,TD),(55,Uj),(29,Zm)]
end
end Go.Pe
end
section
namespace Go.Pe
open Sp
open Go.Det
noncomputable section
open List Int Prod
namespace T8
def T(l:List (List UInt8×List UInt8×Bool))(c:Int×List UInt8×Int)(g:Int):Tr:=tree JA false 9 8 (Ag ([zf (zg zd (zg zd ze)),zg i64 (zg zd i64),zj zw]) (l,c,g))
def L1(v0:List (List UInt8×List UInt8×Bool))(v2:Int)(v7 v8:List Int)(v9:Int)(v10 v11:List Int)(v12:Int)(v13:List Int)(v14 o0:Int)(o0_1:List UInt8)(o0_2:Int):Tr:=re ((T [] (0,([],0)) 0).L.R.L.R.L.R.L.R.L.L.L.L.L) (Al 249 [(0,.dat (zf (zg zd (zg zd ze))) v0),(2,.dat (zj zw) v2),(4,.ptr 0 0),(7,.dat (zf i64) v7),(8,.dat (zf i64) v8),(9,.dat i64 v9),(10,.dat (zf i64) v10),(11,.dat (zf i64) v11),(12,.dat i64 v12),(13,.dat (zf i64) v13),(14,.dat i64 v14)] [(0,.box [.dat i64 o0,.dat zd o0_1,.dat i64 o0_2])] 1)
theorem Ap(l:List (List UInt8×List UInt8×Bool))(c:Int×List UInt8×Int)(g:Int):T l c g=.ite true (.ite (!D6 l 12) (.ite true (.leaf (.dat ze true) ([(0,.box [.dat i64 (fst c),.dat zd (fst (snd c)),.dat i64 (snd (snd c))])])) .fail) (.ite (E2 l) (.ite (A6 l !=0) (.ite true (.leaf (.dat ze true) ([(0,.box [.dat i64 (fst c),.dat zd (fst (snd c)),.dat i64 (snd (snd c))])])) .fail) (.ite true (.ite (zy (fst c) 0 200 !=0) (.ite true (.leaf (.dat ze true) ([(0,.box [.dat i64 (fst c),.dat zd (fst (snd c)),.dat i64 (snd (snd c))])])) .fail) (.ite true (.ite (zy (snd (snd c)) 1 2147483646 !=0) (.ite true (.leaf (.dat ze true) ([(0,.box [.dat i64 (fst c),.dat zd (fst (snd c)),.dat i64 (snd (snd c))])])) .fail) (.ite (E2 l) (.ite (Zd l) (.ite (E2 l) (.ite (Zd l) (.ite true (L1 l g (fst (DW l (fst c) [(105:UInt8),(110:UInt8),(100:UInt8),(101:UInt8),(120:UInt8)] (snd (snd c)))) (fst (snd (DW l (fst c) [(105:UInt8),(110:UInt8),(100:UInt8),(101:UInt8),(120:UInt8)] (snd (snd c))))) (snd (snd (DW l (fst c) [(105:UInt8),(110:UInt8),(100:UInt8),(101:UInt8),(120:UInt8)] (snd (snd c))))) (fst (DW l (fst c) [(98:UInt8),(97:UInt8),(108:UInt8),(108:UInt8),(111:UInt8),(116:UInt8)] (snd (snd c)))) (fst (snd (DW l (fst c) [(98:UInt8),(97:UInt8),(108:UInt8),(108:UInt8),(111:UInt8),(116:UInt8)] (snd (snd c))))) (snd (snd (DW l (fst c) [(98:UInt8),(97:UInt8),(108:UInt8),(108:UInt8),(111:UInt8),(116:UInt8)] (snd (snd c))))) (fst (G9 (length l:Int) (snd (snd c)))) (snd (G9 (length l:Int) (snd (snd c)))) (fst c) (fst (snd c)) (snd (snd c))) .fail) .fail) .fail) .fail) .fail)) .fail)) .fail)) .fail)) .fail:=by kernel_rfl
def L2(v0:List (List UInt8×List UInt8×Bool))(v2:Int)(v7 v8 v15:List Int):Tr:=re ((stepT JA (L1 [] 0 [] [] 0 [] [] 0 [] 0 0 [] 0)).R.R.R.L.R.L.R.L.R.L.L) (Al 249 [(0,.dat (zf (zg zd (zg zd ze))) v0),(2,.dat (zj zw) v2),(7,.dat (zf i64) v7),(8,.dat (zf i64) v8),(15,.dat (zf i64) v15)] [] 0)
theorem Ai(v0:List (List UInt8×List UInt8×Bool))(v2:Int)(v7 v8:List Int)(v9:Int)(v10 v11:List Int)(v12:Int)(v13:List Int)(v14 o0:Int)(o0_1:List UInt8)(o0_2:Int):stepT JA (L1 v0 v2 v7 v8 v9 v10 v11 v12 v13 v14 o0 o0_1 o0_2)=.ite (zc .i64 (zc .i64 (v9+v12)+v14) !=0) (.leaf (.bl false) ([(0,.box [.dat i64 o0,.dat zd o0_1,.dat i64 o0_2])])) (.ite ((length v7:Int) !=BE o0 (length v0:Int)) (.leaf (.bl false) ([(0,.box [.dat i64 o0,.dat zd o0_1,.dat i64 o0_2])])) (.ite ((length v10:Int) !=(length v7:Int)) (.leaf (.bl false) ([(0,.box [.dat i64 o0,.dat zd o0_1,.dat i64 o0_2])])) (.ite (decide (length v7≤300)&&decide (length v8≤300)&&decide (0≤(length v0:Int))&&decide ((length v0:Int)≤300)) (.ite (!Gb v7 v8 (length v0:Int)) (.leaf (.bl false) ([(0,.box [.dat i64 o0,.dat zd o0_1,.dat i64 o0_2])])) (.ite (decide (length v10≤300)&&decide (length v11≤300)&&decide (0≤(length v0:Int))&&decide ((length v0:Int)≤300)) (.ite (!Gb v10 v11 (length v0:Int)) (.leaf (.bl false) ([(0,.box [.dat i64 o0,.dat zd o0_1,.dat i64 o0_2])])) (.ite (decide (length v13≤300)&&decide (0≤300)&&decide (0≤(length v0:Int))&&decide ((length v0:Int)≤300)) (.ite (!Gb v13 [] (length v0:Int)) (.leaf (.bl false) ([(0,.box [.dat i64 o0,.dat zd o0_1,.dat i64 o0_2])])) (.ite (decide ((2*(0+length v7)+1000)*8≤281474976710656)) (.ite (decide (zh 0 (length v7)=length ([]++v7))&&decide ((2*(zh 0 (length v7)+length v8)+1000)*8≤281474976710656)) (L2 v0 v2 v7 v8 (take (zh (zh 0 (length v7)) (length v8)) ([]++v7++v8))) .fail) .fail)) .fail)) .fail)) .fail))):=by kernel_rfl
def L3(v0:List (List UInt8×List UInt8×Bool))(v2:Int)(v7 v8 v15:List Int)(v16:Int):Tr:=re ((stepT JA (L2 [] 0 [] [] []))) (Al 249 [(0,.dat (zf (zg zd (zg zd ze))) v0),(2,.dat (zj zw) v2),(7,.dat (zf i64) v7),(8,.dat (zf i64) v8),(15,.dat (zf i64) v15),(16,.dat i64 v16)] [] 0)
theorem AN(v0:List (List UInt8×List UInt8×Bool))(v2:Int)(v7 v8 v15:List Int):stepT JA (L2 v0 v2 v7 v8 v15)=L3 v0 v2 v7 v8 v15 1:=by kernel_rfl
def L4(v0:List (List UInt8×List UInt8×Bool))(v2:Int)(v7 v8 v15:List Int):Tr:=re ((stepT JA (L3 [] 0 [] [] [] 0)).R) (Al 249 [(0,.dat (zf (zg zd (zg zd ze))) v0),(2,.dat (zj zw) v2),(7,.dat (zf i64) v7),(8,.dat (zf i64) v8),(15,.dat (zf i64) v15)] [] 0)
theorem Bk(v0:List (List UInt8×List UInt8×Bool))(v2:Int)(v7 v8 v15:List Int)(v16:Int):stepT JA (L3 v0 v2 v7 v8 v15 v16)=.ite (decide (v16<(length v15:Int))) (.ite (decide (0≤zc .i64 (v16-1))&&decide (zc .i64 (v16-1)<(length v15:Int))) (.ite (decide (0≤getD v15 (toNat (zc .i64 (v16-1))) 0)&&decide (getD v15 (toNat (zc .i64 (v16-1))) 0<(length v0:Int))) (.ite (decide (0≤v16)&&decide (v16<(length v15:Int))) (.ite (decide (0≤getD v15 (toNat v16) 0)&&decide (getD v15 (toNat v16) 0<(length v0:Int))) (.ite (!snd (snd (getD v0 (toNat (getD v15 (toNat (zc .i64 (v16-1))) 0)) ([],[],false)))) (.ite (snd (snd (getD v0 (toNat (getD v15 (toNat v16) 0)) ([],[],false)))) (.leaf (.bl false) ([(zh 0 1,.box [.dat zd (fst (getD v0 (toNat (getD v15 (toNat v16) 0)) ([],[],false))),.dat zd (fst (snd (getD v0 (toNat (getD v15 (toNat v16) 0)) ([],[],false)))),.dat ze (snd (snd (getD v0 (toNat (getD v15 (toNat v16) 0)) ([],[],false))))]),(0,.box [.dat zd (fst (getD v0 (toNat (getD v15 (toNat (zc .i64 (v16-1))) 0)) ([],[],false))),.dat zd (fst (snd (getD v0 (toNat (getD v15 (toNat (zc .i64 (v16-1))) 0)) ([],[],false)))),.dat ze (snd (snd (getD v0 (toNat (getD v15 (toNat (zc .i64 (v16-1))) 0)) ([],[],false))))])])) (.ite (AX (fst (snd (getD v0 (toNat (getD v15 (toNat (zc .i64 (v16-1))) 0)) ([],[],false))))&&AX (fst (snd (getD v0 (toNat (getD v15 (toNat v16) 0)) ([],[],false))))) (.ite (decide (CI (fst (snd (getD v0 (toNat (getD v15 (toNat (zc .i64 (v16-1))) 0)) ([],[],false)))) (fst (snd (getD v0 (toNat (getD v15 (toNat v16) 0)) ([],[],false))))>0)) (.leaf (.bl false) ([(zh 0 1,.box [.dat zd (fst (getD v0 (toNat (getD v15 (toNat v16) 0)) ([],[],false))),.dat zd (fst (snd (getD v0 (toNat (getD v15 (toNat v16) 0)) ([],[],false)))),.dat ze (snd (snd (getD v0 (toNat (getD v15 (toNat v16) 0)) ([],[],false))))]),(0,.box [.dat zd (fst (getD v0 (toNat (getD v15 (toNat (zc .i64 (v16-1))) 0)) ([],[],false))),.dat zd (fst (snd (getD v0 (toNat (getD v15 (toNat (zc .i64 (v16-1))) 0)) ([],[],false)))),.dat ze (snd (snd (getD v0 (toNat (getD v15 (toNat (zc .i64 (v16-1))) 0)) ([],[],false))))])])) (L3 v0 v2 v7 v8 v15 (zc .i64 (v16+1)))) .fail)) (L3 v0 v2 v7 v8 v15 (zc .i64 (v16+1)))) .fail) .fail) .fail) .fail) (L4 v0 v2 v7 v8 v15):=by kernel_rfl
def L5(v0:List (List UInt8×List UInt8×Bool))(v2:Int)(v7 v8 v15:List Int)(v166 v167:Int):Tr:=re ((stepT JA (L4 [] 0 [] [] []))) (Al 249 [(0,.dat (zf (zg zd (zg zd ze))) v0),(2,.dat (zj zw) v2),(7,.dat (zf i64) v7),(8,.dat (zf i64) v8),(15,.dat (zf i64) v15),(19,.nil),(166,.dat i64 v166),(167,.dat i64 v167)] [] 0)
theorem BA(v0:List (List UInt8×List UInt8×Bool))(v2:Int)(v7 v8 v15:List Int):stepT JA (L4 v0 v2 v7 v8 v15)=L5 v0 v2 v7 v8 v15 ((length v0:Int)) 0:=by kernel_rfl
def L6(v0:List (List UInt8×List UInt8×Bool))(v2:Int)(v7 v8 v15:List Int)(v19n:Nat)(v166 v167:Int)(o0:List Int):Tr:=re ((stepT JA (L5 [] 0 [] [] [] 0 0)).L.L.L.L) (Al 249 [(0,.dat (zf (zg zd (zg zd ze))) v0),(2,.dat (zj zw) v2),(7,.dat (zf i64) v7),(8,.dat (zf i64) v8),(15,.dat (zf i64) v15),(19,.sl 0 1 0 v19n none),(166,.dat i64 v166),(167,.dat i64 v167)] [(0,.arr false 3 i64 o0)] 1)
def L7(v0:List (List UInt8×List UInt8×Bool))(v7 v8 v15 v19:List Int):Tr:=re ((stepT JA (L5 [] 0 [] [] [] 0 0)).R) (Al 249 [(0,.dat (zf (zg zd (zg zd ze))) v0),(7,.dat (zf i64) v7),(8,.dat (zf i64) v8),(15,.dat (zf i64) v15),(19,.dat (zf i64) v19)] [] 0)
theorem CF(v0:List (List UInt8×List UInt8×Bool))(v2:Int)(v7 v8 v15:List Int)(v166 v167:Int):stepT JA (L5 v0 v2 v7 v8 v15 v166 v167)=.ite (decide (v167<v166)) (.ite (decide (0≤v167)) (.ite (EK zk (Int.fdiv (zc .i64 v2) (2^Min.min (toNat v167) 64)) 1==1) (.ite (decide (1≤1)&&decide (0<1)&&decide ((2*1+1000)*8≤281474976710656)) (L6 v0 v2 v7 v8 v15 1 v166 (zc .i64 (v167+1)) [v167]) .fail) (L5 v0 v2 v7 v8 v15 v166 (zc .i64 (v167+1)))) .fail) (L7 v0 v7 v8 v15 []):=by kernel_rfl
theorem C2(v0:List (List UInt8×List UInt8×Bool))(v2:Int)(v7 v8 v15:List Int)(v19n:Nat)(v166 v167:Int)(o0:List Int):stepT JA (L6 v0 v2 v7 v8 v15 v19n v166 v167 o0)=.ite (decide (v167<v166)) (.ite (decide (0≤v167)) (.ite (EK zk (Int.fdiv (zc .i64 v2) (2^Min.min (toNat v167) 64)) 1==1) (.ite (decide (1≤1)&&true&&decide (v19n=length o0)&&decide ((2*(v19n+1)+1000)*8≤281474976710656)) (L6 v0 v2 v7 v8 v15 (zh v19n 1) v166 (zc .i64 (v167+1)) (o0++[v167])) .fail) (L6 v0 v2 v7 v8 v15 v19n v166 (zc .i64 (v167+1)) o0)) .fail) (L7 v0 v7 v8 v15 (take v19n o0)):=by kernel_rfl
def L8(v15 v21:List Int):Tr:=re ((stepT JA (L7 [] [] [] [] [])).L.R.R.L.L.L.R) (Al 249 [(15,.dat (zf i64) v15),(21,.dat (zf i64) v21)] [] 0)
theorem Db(v0:List (List UInt8×List UInt8×Bool))(v7 v8 v15 v19:List Int):stepT JA (L7 v0 v7 v8 v15 v19)=.ite (lE v7 v8 v19) (.ite (snd (snd (zq v7 v8 v19)) !=0) (.leaf (.bl false) []) (.ite ((↑(length (fst (zq v7 v8 v19))):Int) !=BE (length v7:Int) (zc .i64 ((length v0:Int)-(length v19:Int)))) (.leaf (.bl false) []) (.ite (decide ((2*(0+length (fst (zq v7 v8 v19)))+1000)*8≤281474976710656)) (.ite (decide (zh 0 (length (fst (zq v7 v8 v19)))=length ([]++fst (zq v7 v8 v19)))&&decide ((2*(zh 0 (length (fst (zq v7 v8 v19)))+length (fst (snd (zq v7 v8 v19))))+1000)*8≤281474976710656)) (.ite (decide (0+zh (zh 0 (length (fst (zq v7 v8 v19)))) (length (fst (snd (zq v7 v8 v19))))≤length ([]++fst (zq v7 v8 v19)++fst (snd (zq v7 v8 v19))))&&true&&true&&(decide (length (take (zh (zh 0 (length (fst (zq v7 v8 v19)))) (length (fst (snd (zq v7 v8 v19))))) ([]++fst (zq v7 v8 v19)++fst (snd (zq v7 v8 v19))))≤300)&&decide (length v19≤300)&&decide (0≤(length v0:Int))&&decide ((length v0:Int)≤300))) (.ite (!Gb (take (zh (zh 0 (length (fst (zq v7 v8 v19)))) (length (fst (snd (zq v7 v8 v19))))) ([]++fst (zq v7 v8 v19)++fst (snd (zq v7 v8 v19)))) v19 (length v0:Int)) (.leaf (.bl false) ([(zh (zh 0 1) 1,.arr false 3 i64 ([]++fst (zq v7 v8 v19)++fst (snd (zq v7 v8 v19))))])) (L8 v15 (fst (zq v7 v8 v19)))) .fail) .fail) .fail))) .fail:=by kernel_rfl
def L9(v15 v21:List Int)(v24:Int)(v216:List Int)(v217 v218:Int):Tr:=re ((stepT JA (L8 [] []))) (Al 249 [(15,.dat (zf i64) v15),(21,.dat (zf i64) v21),(24,.dat i64 v24),(216,.dat (zf i64) v216),(217,.dat i64 v217),(218,.dat i64 v218)] [] 0)
theorem EF(v15 v21:List Int):stepT JA (L8 v15 v21)=L9 v15 v21 0 v21 ((length v21:Int)) 0:=by kernel_rfl
def Ns(v15 v21:List Int)(v24 v26:Int)(v216:List Int)(v217 v218:Int):Tr:=re ((stepT JA (L9 [] [] 0 [] 0 0)).L.L) (Al 249 [(15,.dat (zf i64) v15),(21,.dat (zf i64) v21),(24,.dat i64 v24),(26,.dat i64 v26),(216,.dat (zf i64) v216),(217,.dat i64 v217),(218,.dat i64 v218)] [] 0)
theorem Jl(v15 v21:List Int)(v24:Int)(v216:List Int)(v217 v218:Int):stepT JA (L9 v15 v21 v24 v216 v217 v218)=.ite (decide (v218<v217)) (.ite (decide (0≤v218)&&decide (v218<(length v216:Int))) (Ns v15 v21 v24 (getD v216 (toNat v218) 0) v216 v217 v218) .fail) (.ite ((length v21:Int)==0) (.ite true (.leaf (.dat ze true) []) .fail) (.ite (decide (v24<(length v15:Int))) (.ite true (.leaf (.dat ze true) []) .fail) (.leaf (.bl false) []))):=by kernel_rfl
theorem Hx(v15 v21:List Int)(v24 v26:Int)(v216:List Int)(v217 v218:Int):stepT JA (Ns v15 v21 v24 v26 v216 v217 v218)=.ite (decide (v24<(length v15:Int))) (.ite (decide (0≤v24)&&decide (v24<(length v15:Int))) (.ite (getD v15 (toNat v24) 0 !=v26) (Ns v15 v21 (zc .i64 (v24+1)) v26 v216 v217 v218) (L9 v15 v21 v24 v216 v217 (zc .i64 (v218+1)))) .fail) (L9 v15 v21 v24 v216 v217 (zc .i64 (v218+1))):=by kernel_rfl
end T8
end
noncomputable section
end
noncomputable section
open List Int Prod
namespace T53
def T(l:List (List UInt8×List UInt8×Bool)):Tr:=tree WB false 9 53 (Ag ([zf (zg zd (zg zd ze))]) l)
def L1(v6:List (List UInt8×List UInt8×Bool))(v7 v8:Int):Tr:=re ((T [])) (Al 18 [(3,.nil),(6,.dat (zf (zg zd (zg zd ze))) v6),(7,.dat i64 v7),(8,.dat i64 v8)] [] 0)
theorem Ap(l:List (List UInt8×List UInt8×Bool)):T l=L1 l ((length l:Int)) 0:=by kernel_rfl
def L2(v3n:Nat)(v6:List (List UInt8×List UInt8×Bool))(v7 v8:Int)(o0:List (List UInt8×List UInt8×Bool)):Tr:=re ((stepT WB (L1 [] 0 0)).L.L.L) (Al 18 [(3,.sl 0 3 0 v3n none),(6,.dat (zf (zg zd (zg zd ze))) v6),(7,.dat i64 v7),(8,.dat i64 v8)] [(0,.arr false 147 (zg zd (zg zd ze)) o0)] 1)
theorem Ai(v6:List (List UInt8×List UInt8×Bool))(v7 v8:Int):stepT WB (L1 v6 v7 v8)=let a':=getD v6 (toNat v8) ([],[],false);.ite (decide (v8<v7)) (.ite (decide (0≤v8)&&decide (v8<(length v6:Int))) (.ite (decide (1≤1)&&decide (0<1)&&decide ((2*1+1000)*40≤281474976710656)) (L2 1 v6 v7 (zc .i64 (v8+1)) ([(fst a',fst (snd a'),snd (snd a'))])) .fail) .fail) (.leaf .nil []):=by kernel_rfl
theorem AN(v3n:Nat)(v6:List (List UInt8×List UInt8×Bool))(v7 v8:Int)(o0:List (List UInt8×List UInt8×Bool)):stepT WB (L2 v3n v6 v7 v8 o0)=let a':=getD v6 (toNat v8) ([],[],false);.ite (decide (v8<v7)) (.ite (decide (0≤v8)&&decide (v8<(length v6:Int))) (.ite (decide (1≤1)&&true&&decide (v3n=length o0)&&decide ((2*(v3n+1)+1000)*40≤281474976710656)) (L2 (zh v3n 1) v6 v7 (zc .i64 (v8+1)) (o0++[(fst a',fst (snd a'),snd (snd a'))])) .fail) .fail) (.leaf (.sl 0 3 0 v3n none) ([(0,.arr false 147 (zg zd (zg zd ze)) o0)])):=by kernel_rfl
end T53
namespace T54
def T(a b:List Int)(n:Int):Tr:=tree WB false 9 54 (Ag ([zf i64,zf i64,zj zk]) (a,b,n))
def L1(v2:Int)(v7n v23n:Nat)(v24 v25:Int)(o1:List Int)(o0:List Bool):Tr:=re ((T [] [] 0).R.L.L.L) (Al 46 [(2,.dat i64 v2),(7,.sl 0 1 0 v7n none),(23,.sl 1 1 0 v23n none),(24,.dat i64 v24),(25,.dat i64 v25)] [(1,.arr false 3 i64 o1),(0,.arr false 4 ze o0)] 2)
theorem Ap(a b:List Int)(n:Int):T a b n=let a':=zh (zh 0 (length a)) (length b);.ite (zc .i64 ((length a:Int)+(length b:Int)) !=n) (.leaf (.bl false) []) (.ite (decide (0≤n)&&decide (n=n)&&decide (1*toNat n≤281474976710656)&&decide (n<9223372036854775808)) (.ite (decide ((2*(0+length a)+1000)*8≤281474976710656)) (.ite (decide (zh 0 (length a)=length ([]++a))&&decide ((2*(zh 0 (length a)+length b)+1000)*8≤281474976710656)) (L1 n (toNat n) a' ((↑a':Int)) 0 ([]++a++b) (replicate (toNat n) false)) .fail) .fail) .fail):=by kernel_rfl
theorem Ai(v2:Int)(v7n v23n:Nat)(v24 v25:Int)(o1:List Int)(o0:List Bool):stepT WB (L1 v2 v7n v23n v24 v25 o1 o0)=let a':=[(1,.arr false 3 i64 o1),(0,.arr false 4 ze o0)];let b':=decide (0≤getD o1 (toNat v25) 0)&&decide (getD o1 (toNat v25) 0<(↑v7n:Int));let c':=getD o1 (toNat v25) 0;let d':Tr:=.leaf (.bl false) a';let e':=decide (toNat c'<length o0);.ite (decide (v25<v24)) (.ite (decide (0≤v25)&&decide (v25<(↑v23n:Int))) (.ite (decide (toNat v25<length o1)) (.ite (decide (getD o1 (toNat v25) 0<0)) d' (.ite (decide (getD o1 (toNat v25) 0≥v2)) d' (.ite b' (.ite e' (.ite (getD o0 (toNat c') false) d' (.ite b' (.ite e' (L1 v2 v7n v23n v24 (zc .i64 (v25+1)) o1 (set o0 (toNat c') true)) .fail) .fail)) .fail) .fail))) .fail) .fail) (.leaf (.bl true) a'):=by kernel_rfl
end T54
end
end Go.Pe
end
section
namespace Go.Pe
open Sp
open Go.Det
noncomputable section
open List Int Prod
namespace T52
def T(l:List (List UInt8×List UInt8×Bool))(places:Int)(rule:List UInt8)(key:Int):Tr:=tree Gu false 9 52 (Ag ([zf (zg zd (zg zd ze)),zj zk,zd,zj zk]) (l,places,rule,key))
def L1(v0:List (List UInt8×List UInt8×Bool))(v1:Int)(v2:List UInt8)(v3:Int)(v38:List (List UInt8×List UInt8×Bool))(v39 v40:Int):Tr:=re ((T [] 0 [] 0).L.L.L.L.L.L.R) (Al 92 [(0,.dat (zf (zg zd (zg zd ze))) v0),(1,.dat i64 v1),(2,.dat zd v2),(3,.dat i64 v3),(12,.nil),(13,.nil),(38,.dat (zf (zg zd (zg zd ze))) v38),(39,.dat i64 v39),(40,.dat i64 v40)] [] 0)
theorem Ap(l:List (List UInt8×List UInt8×Bool))(places:Int)(rule:List UInt8)(key:Int):T l places rule key=let a':=!rule==[(105:UInt8),(110:UInt8),(100:UInt8),(101:UInt8),(120:UInt8)];let b':=L1 l places rule key l ((length l:Int)) 0;let c':=decide (4≤4)&&true&&decide (4≤1000000);.ite (E2 l) (.ite true (.ite (!rule==[(98:UInt8),(97:UInt8),(108:UInt8),(108:UInt8),(111:UInt8),(116:UInt8)]) (.ite true (.ite true (.ite c' (.ite (zp [A6 l,zy places 0 200,Dk a' 13,zy key 1 2147483646] !=0) (.leaf (.tup [.nil,.nil,.dat i64 (zp [A6 l,zy places 0 200,Dk a' 13,zy key 1 2147483646])]) ([(0,.arr false 25 i64 [A6 l,zy places 0 200,Dk a' 13,zy key 1 2147483646])])) b') .fail) .fail) .fail) (.ite true (.ite true (.ite c' (.ite (zp [A6 l,zy places 0 200,Dk false 13,zy key 1 2147483646] !=0) (.leaf (.tup [.nil,.nil,.dat i64 (zp [A6 l,zy places 0 200,Dk false 13,zy key 1 2147483646])]) ([(0,.arr false 25 i64 [A6 l,zy places 0 200,Dk false 13,zy key 1 2147483646])])) b') .fail) .fail) .fail)) .fail) .fail:=by kernel_rfl
def L2(v0:List (List UInt8×List UInt8×Bool))(v1:Int)(v2:List UInt8)(v3:Int)(v12n:Nat)(v38:List (List UInt8×List UInt8×Bool))(v39 v40:Int)(o0:List Int):Tr:=re ((stepT Gu (L1 [] 0 [] 0 [] 0 0)).L.L.L.L) (Al 92 [(0,.dat (zf (zg zd (zg zd ze))) v0),(1,.dat i64 v1),(2,.dat zd v2),(3,.dat i64 v3),(12,.sl 0 1 0 v12n none),(13,.nil),(38,.dat (zf (zg zd (zg zd ze))) v38),(39,.dat i64 v39),(40,.dat i64 v40)] [(0,.arr false 3 i64 o0)] 1)
def L3(v0:List (List UInt8×List UInt8×Bool))(v1:Int)(v2:List UInt8)(v3:Int)(v13n:Nat)(v38:List (List UInt8×List UInt8×Bool))(v39 v40:Int)(o0:List Int):Tr:=re ((stepT Gu (L1 [] 0 [] 0 [] 0 0)).L.L.R.L) (Al 92 [(0,.dat (zf (zg zd (zg zd ze))) v0),(1,.dat i64 v1),(2,.dat zd v2),(3,.dat i64 v3),(12,.nil),(13,.sl 0 1 0 v13n none),(38,.dat (zf (zg zd (zg zd ze))) v38),(39,.dat i64 v39),(40,.dat i64 v40)] [(0,.arr false 3 i64 o0)] 1)
def L4(v0:List (List UInt8×List UInt8×Bool))(v1:Int)(v2:List UInt8)(v3:Int)(v13:List Int):Tr:=re ((stepT Gu (L1 [] 0 [] 0 [] 0 0)).R) (Al 92 [(0,.dat (zf (zg zd (zg zd ze))) v0),(1,.dat i64 v1),(2,.dat zd v2),(3,.dat i64 v3),(12,.nil),(13,.dat (zf i64) v13)] [] 0)
theorem Ai(v0:List (List UInt8×List UInt8×Bool))(v1:Int)(v2:List UInt8)(v3:Int)(v38:List (List UInt8×List UInt8×Bool))(v39 v40:Int):stepT Gu (L1 v0 v1 v2 v3 v38 v39 v40)=let a':=decide (1≤1)&&decide (0<1)&&decide ((2*1+1000)*8≤281474976710656);let b':=zc .i64 (v40+1);.ite (decide (v40<v39)) (.ite (decide (0≤v40)&&decide (v40<(length v38:Int))) (.ite (snd (snd (getD v38 (toNat v40) ([],[],false)))) (.ite a' (L2 v0 v1 v2 v3 1 v38 v39 b' [v40]) .fail) (.ite a' (L3 v0 v1 v2 v3 1 v38 v39 b' [v40]) .fail)) .fail) (L4 v0 v1 v2 v3 []):=by kernel_rfl
def L5(v0:List (List UInt8×List UInt8×Bool))(v1:Int)(v2:List UInt8)(v3:Int)(v12n v13n:Nat)(v38:List (List UInt8×List UInt8×Bool))(v39 v40:Int)(o1 o0:List Int):Tr:=re ((stepT Gu (L2 [] 0 [] 0 0 [] 0 0 [])).L.L.R.L) (Al 92 [(0,.dat (zf (zg zd (zg zd ze))) v0),(1,.dat i64 v1),(2,.dat zd v2),(3,.dat i64 v3),(12,.sl 0 1 0 v12n none),(13,.sl 1 1 0 v13n none),(38,.dat (zf (zg zd (zg zd ze))) v38),(39,.dat i64 v39),(40,.dat i64 v40)] [(1,.arr false 3 i64 o1),(0,.arr false 3 i64 o0)] 2)
def L6(v0:List (List UInt8×List UInt8×Bool))(v1:Int)(v2:List UInt8)(v3:Int)(v12n:Nat)(v13 o0:List Int):Tr:=re ((stepT Gu (L2 [] 0 [] 0 0 [] 0 0 [])).R) (Al 92 [(0,.dat (zf (zg zd (zg zd ze))) v0),(1,.dat i64 v1),(2,.dat zd v2),(3,.dat i64 v3),(12,.sl 0 1 0 v12n none),(13,.dat (zf i64) v13)] [(0,.arr false 3 i64 o0)] 1)
theorem AN(v0:List (List UInt8×List UInt8×Bool))(v1:Int)(v2:List UInt8)(v3:Int)(v12n:Nat)(v38:List (List UInt8×List UInt8×Bool))(v39 v40:Int)(o0:List Int):stepT Gu (L2 v0 v1 v2 v3 v12n v38 v39 v40 o0)=let a':=zc .i64 (v40+1);.ite (decide (v40<v39)) (.ite (decide (0≤v40)&&decide (v40<(length v38:Int))) (.ite (snd (snd (getD v38 (toNat v40) ([],[],false)))) (.ite (decide (1≤1)&&true&&decide (v12n=length o0)&&decide ((2*(v12n+1)+1000)*8≤281474976710656)) (L2 v0 v1 v2 v3 (zh v12n 1) v38 v39 a' (o0++[v40])) .fail) (.ite (decide (1≤1)&&decide (0<1)&&decide ((2*1+1000)*8≤281474976710656)) (L5 v0 v1 v2 v3 v12n 1 v38 v39 a' [v40] o0) .fail)) .fail) (L6 v0 v1 v2 v3 v12n [] o0):=by kernel_rfl
theorem Bk(v0:List (List UInt8×List UInt8×Bool))(v1:Int)(v2:List UInt8)(v3:Int)(v13n:Nat)(v38:List (List UInt8×List UInt8×Bool))(v39 v40:Int)(o0:List Int):stepT Gu (L3 v0 v1 v2 v3 v13n v38 v39 v40 o0)=let a':=zc .i64 (v40+1);.ite (decide (v40<v39)) (.ite (decide (0≤v40)&&decide (v40<(length v38:Int))) (.ite (snd (snd (getD v38 (toNat v40) ([],[],false)))) (.ite (decide (1≤1)&&decide (0<1)&&decide ((2*1+1000)*8≤281474976710656)) (L5 v0 v1 v2 v3 1 v13n v38 v39 a' o0 [v40]) .fail) (.ite (decide (1≤1)&&true&&decide (v13n=length o0)&&decide ((2*(v13n+1)+1000)*8≤281474976710656)) (L3 v0 v1 v2 v3 (zh v13n 1) v38 v39 a' (o0++[v40])) .fail)) .fail) (L4 v0 v1 v2 v3 (take v13n o0)):=by kernel_rfl
def L7(v0:List (List UInt8×List UInt8×Bool))(v1:Int)(v2:List UInt8)(v13 v59:List Int)(v60 v61:Int):Tr:=re ((stepT Gu (L4 [] 0 [] 0 [])).L) (Al 92 [(0,.dat (zf (zg zd (zg zd ze))) v0),(1,.dat i64 v1),(2,.dat zd v2),(12,.nil),(13,.dat (zf i64) v13),(16,.nil),(59,.dat (zf i64) v59),(60,.dat i64 v60),(61,.dat i64 v61)] [] 0)
theorem BA(v0:List (List UInt8×List UInt8×Bool))(v1:Int)(v2:List UInt8)(v3:Int)(v13:List Int):stepT Gu (L4 v0 v1 v2 v3 v13)=let a':=(length v13:Int);.ite (decide (0≤a')&&decide (a'≤200)&&decide (1≤v3)&&decide (v3≤2147483646)) (L7 v0 v1 v2 v13 (Cg a' v3) ((↑(length (Cg a' v3)):Int)) 0) .fail:=by kernel_rfl
theorem CF(v0:List (List UInt8×List UInt8×Bool))(v1:Int)(v2:List UInt8)(v3:Int)(v12n v13n:Nat)(v38:List (List UInt8×List UInt8×Bool))(v39 v40:Int)(o1 o0:List Int):stepT Gu (L5 v0 v1 v2 v3 v12n v13n v38 v39 v40 o1 o0)=let a':=zc .i64 (v40+1);.ite (decide (v40<v39)) (.ite (decide (0≤v40)&&decide (v40<(length v38:Int))) (.ite (snd (snd (getD v38 (toNat v40) ([],[],false)))) (.ite (decide (1≤1)&&true&&decide (v12n=length o0)&&decide ((2*(v12n+1)+1000)*8≤281474976710656)) (L5 v0 v1 v2 v3 (zh v12n 1) v13n v38 v39 a' o1 (o0++[v40])) .fail) (.ite (decide (1≤1)&&true&&decide (v13n=length o1)&&decide ((2*(v13n+1)+1000)*8≤281474976710656)) (L5 v0 v1 v2 v3 v12n (zh v13n 1) v38 v39 a' (o1++[v40]) o0) .fail)) .fail) (L6 v0 v1 v2 v3 v12n (take v13n o1) o0):=by kernel_rfl
def L8(v0:List (List UInt8×List UInt8×Bool))(v1:Int)(v2:List UInt8)(v12n:Nat)(v13 v59:List Int)(v60 v61:Int)(o0:List Int):Tr:=re ((stepT Gu (L6 [] 0 [] 0 0 [] [])).L) (Al 92 [(0,.dat (zf (zg zd (zg zd ze))) v0),(1,.dat i64 v1),(2,.dat zd v2),(12,.sl 0 1 0 v12n none),(13,.dat (zf i64) v13),(16,.nil),(59,.dat (zf i64) v59),(60,.dat i64 v60),(61,.dat i64 v61)] [(0,.arr false 3 i64 o0)] 1)
theorem C2(v0:List (List UInt8×List UInt8×Bool))(v1:Int)(v2:List UInt8)(v3:Int)(v12n:Nat)(v13 o0:List Int):stepT Gu (L6 v0 v1 v2 v3 v12n v13 o0)=let a':=(length v13:Int);.ite (decide (0≤a')&&decide (a'≤200)&&decide (1≤v3)&&decide (v3≤2147483646)) (L8 v0 v1 v2 v12n v13 (Cg a' v3) ((↑(length (Cg a' v3)):Int)) 0 o0) .fail:=by kernel_rfl
def L9(v0:List (List UInt8×List UInt8×Bool))(v1:Int)(v2:List UInt8)(v13:List Int)(v16n:Nat)(v59:List Int)(v60 v61:Int)(o0:List Int):Tr:=re ((stepT Gu (L7 [] 0 [] [] [] 0 0)).L.L.L.L) (Al 92 [(0,.dat (zf (zg zd (zg zd ze))) v0),(1,.dat i64 v1),(2,.dat zd v2),(12,.nil),(13,.dat (zf i64) v13),(16,.sl 0 1 0 v16n none),(59,.dat (zf i64) v59),(60,.dat i64 v60),(61,.dat i64 v61)] [(0,.arr false 3 i64 o0)] 1)
def Ns(v1:Int)(v16:List Int):Tr:=re ((stepT Gu (L7 [] 0 [] [] [] 0 0)).R.L.L) (Al 92 [(1,.dat i64 v1),(12,.nil),(16,.dat (zf i64) v16)] [] 0)
theorem Db(v0:List (List UInt8×List UInt8×Bool))(v1:Int)(v2:List UInt8)(v13 v59:List Int)(v60 v61:Int):stepT Gu (L7 v0 v1 v2 v13 v59 v60 v61)=.ite (decide (v61<v60)) (.ite (decide (0≤v61)&&decide (v61<(length v59:Int))) (.ite (decide (0≤getD v59 (toNat v61) 0)&&decide (getD v59 (toNat v61) 0<(length v13:Int))) (.ite (decide (1≤1)&&decide (0<1)&&decide ((2*1+1000)*8≤281474976710656)) (L9 v0 v1 v2 v13 1 v59 v60 (zc .i64 (v61+1)) ([getD v13 (toNat (getD v59 (toNat v61) 0)) 0])) .fail) .fail) .fail) (.ite (v2==[(105:UInt8),(110:UInt8),(100:UInt8),(101:UInt8),(120:UInt8)]) (.ite (NY v0 []) (Ns v1 []) .fail) (Ns v1 [])):=by kernel_rfl
def Wl(v0:List (List UInt8×List UInt8×Bool))(v1:Int)(v2:List UInt8)(v12n:Nat)(v13:List Int)(v16n:Nat)(v59:List Int)(v60 v61:Int)(o1 o0:List Int):Tr:=re ((stepT Gu (L8 [] 0 [] 0 [] [] 0 0 [])).L.L.L.L) (Al 92 [(0,.dat (zf (zg zd (zg zd ze))) v0),(1,.dat i64 v1),(2,.dat zd v2),(12,.sl 0 1 0 v12n none),(13,.dat (zf i64) v13),(16,.sl 1 1 0 v16n none),(59,.dat (zf i64) v59),(60,.dat i64 v60),(61,.dat i64 v61)] [(1,.arr false 3 i64 o1),(0,.arr false 3 i64 o0)] 2)
def dL(v1:Int)(v12n:Nat)(v16 o0:List Int):Tr:=re ((stepT Gu (L8 [] 0 [] 0 [] [] 0 0 [])).R.L.L) (Al 92 [(1,.dat i64 v1),(12,.sl 0 1 0 v12n none),(16,.dat (zf i64) v16)] [(0,.arr false 3 i64 o0)] 1)
theorem EF(v0:List (List UInt8×List UInt8×Bool))(v1:Int)(v2:List UInt8)(v12n:Nat)(v13 v59:List Int)(v60 v61:Int)(o0:List Int):stepT Gu (L8 v0 v1 v2 v12n v13 v59 v60 v61 o0)=.ite (decide (v61<v60)) (.ite (decide (0≤v61)&&decide (v61<(length v59:Int))) (.ite (decide (0≤getD v59 (toNat v61) 0)&&decide (getD v59 (toNat v61) 0<(length v13:Int))) (.ite (decide (1≤1)&&decide (0<1)&&decide ((2*1+1000)*8≤281474976710656)) (Wl v0 v1 v2 v12n v13 1 v59 v60 (zc .i64 (v61+1)) ([getD v13 (toNat (getD v59 (toNat v61) 0)) 0]) o0) .fail) .fail) .fail) (.ite (v2==[(105:UInt8),(110:UInt8),(100:UInt8),(101:UInt8),(120:UInt8)]) (.ite (NY v0 []) (dL v1 v12n [] o0) .fail) (dL v1 v12n [] o0)):=by kernel_rfl
theorem Jl(v0:List (List UInt8×List UInt8×Bool))(v1:Int)(v2:List UInt8)(v13:List Int)(v16n:Nat)(v59:List Int)(v60 v61:Int)(o0:List Int):stepT Gu (L9 v0 v1 v2 v13 v16n v59 v60 v61 o0)=.ite (decide (v61<v60)) (.ite (decide (0≤v61)&&decide (v61<(length v59:Int))) (.ite (decide (0≤getD v59 (toNat v61) 0)&&decide (getD v59 (toNat v61) 0<(length v13:Int))) (.ite (decide (1≤1)&&true&&decide (v16n=length o0)&&decide ((2*(v16n+1)+1000)*8≤281474976710656)) (L9 v0 v1 v2 v13 (zh v16n 1) v59 v60 (zc .i64 (v61+1)) (o0++[getD v13 (toNat (getD v59 (toNat v61) 0)) 0])) .fail) .fail) .fail) (.ite (v2==[(105:UInt8),(110:UInt8),(100:UInt8),(101:UInt8),(120:UInt8)]) (.ite (NY v0 o0&&decide (v16n=length o0)&&true) (Ns v1 (take v16n (D7 v0 o0))) .fail) (Ns v1 (take v16n o0))):=by kernel_rfl
theorem Hx(v1:Int)(v16:List Int):stepT Gu (Ns v1 v16)=let a':=BE v1 (length v16:Int);let b':=decide (0≤BE v1 (length v16:Int));let c':=decide (0≤BE v1 0);let d':=decide (toNat (BE v1 0)≤0);.ite (decide (0<length v16)) (.ite (decide ((2*length v16+1000)*8≤281474976710656)) (.ite (b'&&b'&&decide (0≤toNat a')&&decide (toNat a'≤toNat a')&&decide (toNat a'≤zl none (length v16))&&decide (0<zl none (length v16))) (.ite (b'&&true&&true&&decide (toNat a'≤length v16)&&decide (length v16≤zl none (length v16))&&decide (zl none (length v16)≤zl none (length v16))&&true) (.leaf (.tup [.sl 0 1 0 (toNat a') (zC (toNat a')),.sl 0 1 (zh 0 (toNat a')) (zm (length v16) (toNat a')) (zC (zm (zl none (length v16)) (toNat a'))),.dat i64 (0:Int)]) ([(0,.arr false 3 i64 v16)])) .fail) .fail) .fail) (.ite (c'&&c'&&decide (0≤toNat (BE v1 0))&&decide (toNat (BE v1 0)≤toNat (BE v1 0))&&d') (.ite (c'&&true&&d'&&true) (.leaf (.tup [.nil,.nil,.dat i64 (0:Int)]) []) .fail) .fail):=by kernel_rfl
theorem QA(v0:List (List UInt8×List UInt8×Bool))(v1:Int)(v2:List UInt8)(v12n:Nat)(v13:List Int)(v16n:Nat)(v59:List Int)(v60 v61:Int)(o1 o0:List Int):stepT Gu (Wl v0 v1 v2 v12n v13 v16n v59 v60 v61 o1 o0)=.ite (decide (v61<v60)) (.ite (decide (0≤v61)&&decide (v61<(length v59:Int))) (.ite (decide (0≤getD v59 (toNat v61) 0)&&decide (getD v59 (toNat v61) 0<(length v13:Int))) (.ite (decide (1≤1)&&true&&decide (v16n=length o1)&&decide ((2*(v16n+1)+1000)*8≤281474976710656)) (Wl v0 v1 v2 v12n v13 (zh v16n 1) v59 v60 (zc .i64 (v61+1)) (o1++[getD v13 (toNat (getD v59 (toNat v61) 0)) 0]) o0) .fail) .fail) .fail) (.ite (v2==[(105:UInt8),(110:UInt8),(100:UInt8),(101:UInt8),(120:UInt8)]) (.ite (NY v0 o1&&decide (v16n=length o1)&&true) (dL v1 v12n (take v16n (D7 v0 o1)) o0) .fail) (dL v1 v12n (take v16n o1) o0)):=by kernel_rfl
theorem eZ(v1:Int)(v12n:Nat)(v16 o0:List Int):stepT Gu (dL v1 v12n v16 o0)=let a':=zh v12n (length v16);let b':=BE v1 (↑a':Int);let c':=decide (0≤BE v1 (↑a':Int));.ite (decide (v12n=length o0)&&decide ((2*(v12n+length v16)+1000)*8≤281474976710656)) (.ite (c'&&c'&&decide (0≤toNat b')&&decide (toNat b'≤toNat b')&&decide (toNat b'≤zl none a')&&decide (0<zl none a')) (.ite (c'&&true&&true&&decide (toNat b'≤zh v12n (length v16))&&decide (zh v12n (length v16)≤zl none a')&&decide (zl none a'≤zl none a')&&true) (.leaf (.tup [.sl 1 1 0 (toNat b') (zC (toNat b')),.sl 1 1 (zh 0 (toNat b')) (zm a' (toNat b')) (zC (zm (zl none a') (toNat b'))),.dat i64 (0:Int)]) ([(1,.arr false 3 i64 (o0++v16))])) .fail) .fail) .fail:=by kernel_rfl
end T52
end
end Go.Pe
end
section
namespace Go.Pe
open Sp
open Go.Det
noncomputable section
open List Int Prod
namespace T129
def T(l:List (List UInt8×List UInt8×Bool))(a:List Int):Tr:=TR K2 9 129 O4 l a
def L1(l:List (List UInt8×List UInt8×Bool))(a:List Int)(v0n:Nat)(v1 v6 v7 v8:Int)(o1:List (List UInt8×List UInt8×Bool))(o0:List Int):Tr:=re ((T l a)) (Al 63 [(0,.sl 0 1 0 v0n none),(1,.dat i64 v1),(2,zB (zo 172) [] [.ptr 1 0]),(6,.dat i64 v6),(7,.dat i64 v7),(8,.dat i64 v8)] [(1,.box [.dat (zf (zg zd (zg zd ze))) o1]),(0,.arr false 3 i64 o0)] 2)
theorem Ap(l:List (List UInt8×List UInt8×Bool))(a:List Int):T l a=L1 l a (length a) ((length a:Int)) 20 0 20 l a:=by kernel_rfl
def L2(l:List (List UInt8×List UInt8×Bool))(a:List Int)(v0n:Nat)(v1 v6 v7 v8:Int)(o1:List (List UInt8×List UInt8×Bool))(o0:List Int)(v0n':Nat)(v1':Int)(v2:Int)(v8':Int)(o1':List (List UInt8×List UInt8×Bool))(o0':List Int):Tr:=re ((stepT K2 (L1 l a v0n v1 v6 v7 v8 o1 o0)).L) (Al 53 [(0,.sl 0 1 0 v0n' none),(1,.dat i64 v1'),(2,.dat i64 v2),(3,zB (zo 172) [] [.ptr 1 0]),(8,.dat i64 v8')] [(1,.box [.dat (zf (zg zd (zg zd ze))) o1']),(0,.arr false 3 i64 o0')] 2)
def L3(l:List (List UInt8×List UInt8×Bool))(a:List Int)(v0n:Nat)(v1 v6 v7 v8:Int)(o1:List (List UInt8×List UInt8×Bool))(o0:List Int)(v0n':Nat)(v1':Int)(v2:Int)(v8':Int)(o1':List (List UInt8×List UInt8×Bool))(o0':List Int):Tr:=re ((stepT K2 (L1 l a v0n v1 v6 v7 v8 o1 o0)).R) (Al 53 [(0,.sl 0 1 0 v0n' none),(1,.dat i64 v1'),(2,.dat i64 v2),(3,zB (zo 172) [] [.ptr 1 0]),(8,.dat i64 v8')] [(1,.box [.dat (zf (zg zd (zg zd ze))) o1']),(0,.arr false 3 i64 o0')] 2)
theorem Ai(l:List (List UInt8×List UInt8×Bool))(a:List Int)(v0n:Nat)(v1 v6 v7 v8:Int)(o1:List (List UInt8×List UInt8×Bool))(o0:List Int):stepT K2 (L1 l a v0n v1 v6 v7 v8 o1 o0)=let a':=zc .i64 (v7+1);.ite (decide (v8≤v1)) (L2 l a v0n v1 v6 v7 v8 o1 o0 v0n v7 v8 a' o1 o0) (L3 l a v0n v1 v6 v7 v8 o1 o0 v0n v7 v1 a' o1 o0):=by kernel_rfl
def L5(l:List (List UInt8×List UInt8×Bool))(a:List Int)(v0n:Nat)(v1 v6 v7 v8:Int)(o1:List (List UInt8×List UInt8×Bool))(o0:List Int)(v0n':Nat)(v1':Int)(v2:Int)(v8':Int)(v9:Int)(o1':List (List UInt8×List UInt8×Bool))(o0':List Int):Tr:=re ((stepT K2 (L3 l a v0n v1 v6 v7 v8 o1 o0 0 0 0 0 [] [])).L) (Al 53 [(0,.sl 0 1 0 v0n' none),(1,.dat i64 v1'),(2,.dat i64 v2),(3,zB (zo 172) [] [.ptr 1 0]),(8,.dat i64 v8'),(9,.dat i64 v9)] [(1,.box [.dat (zf (zg zd (zg zd ze))) o1']),(0,.arr false 3 i64 o0')] 2)
def L6(l:List (List UInt8×List UInt8×Bool))(a:List Int)(v0n:Nat)(v1 v6:Int)(o1:List (List UInt8×List UInt8×Bool))(o0:List Int):Tr:=re ((stepT K2 (L3 l a 0 0 0 0 0 [] [] 0 0 0 0 [] [])).R) (Al 63 [(0,.sl 0 1 0 v0n none),(1,.dat i64 v1),(2,zB (zo 172) [] [.ptr 1 0]),(6,.dat i64 v6)] [(1,.box [.dat (zf (zg zd (zg zd ze))) o1]),(0,.arr false 3 i64 o0)] 2)
theorem Bk(l:List (List UInt8×List UInt8×Bool))(a:List Int)(v0n:Nat)(v1 v6 v7 v8:Int)(o1:List (List UInt8×List UInt8×Bool))(o0:List Int)(v0n':Nat)(v1':Int)(v2:Int)(v8':Int)(o1':List (List UInt8×List UInt8×Bool))(o0':List Int):stepT K2 (L3 l a v0n v1 v6 v7 v8 o1 o0 v0n' v1' v2 v8' o1' o0')=.ite (decide (v8'<v2)) (L5 l a v0n v1 v6 v7 v8 o1 o0 v0n' v1' v2 v8' v8' o1' o0') (L6 l a v0n v1 v6 o1' o0'):=by kernel_rfl
theorem CF(l:List (List UInt8×List UInt8×Bool))(a:List Int)(v0n:Nat)(v1 v6 v7 v8:Int)(o1:List (List UInt8×List UInt8×Bool))(o0:List Int)(v0n':Nat)(v1':Int)(v2:Int)(v8':Int)(v9:Int)(o1':List (List UInt8×List UInt8×Bool))(o0':List Int):stepT K2 (L5 l a v0n v1 v6 v7 v8 o1 o0 v0n' v1' v2 v8' v9 o1' o0')=let b':=fst (snd (getD o1' (toNat (getD o0' (toNat v9) 0)) ([],[],false)));let c':=zc .i64 (v9-1);let d':=decide (0≤zc .i64 (v9-1))&&decide (zc .i64 (v9-1)<(↑v0n':Int));let e':=decide (0≤v9)&&decide (v9<(↑v0n':Int));let f':=L3 l a v0n v1 v6 v7 v8 o1 o0 v0n' v1' v2 (zc .i64 (v8'+1)) o1' o0';let g':=decide (toNat v9<length o0');let h':=((M8 b',MX b'),Kf b',Kl b');let j':=getD o0' (toNat c') 0;let k':=decide (toNat c'<length o0');let a':=fst (snd (getD o1' (toNat j') ([],[],false)));let i':=((M8 a',MX a'),Kf a',Kl a');.ite (decide (v9>v1')) (.ite e' (.ite g' (.ite d' (.ite k' (.ite (decide (0≤getD o0' (toNat v9) 0)&&decide (getD o0' (toNat v9) 0<(↑(length o1'):Int))) (.ite (decide (0≤getD o0' (toNat c') 0)&&decide (getD o0' (toNat c') 0<(↑(length o1'):Int))) (.ite (Jg b') (.ite (Jg a') (.ite (LN h'&&LN i') (.ite (decide (TA h' i'<0)) (.ite d' (.ite k' (.ite e' (.ite g' (.ite e' (.ite g' (.ite d' (.ite (decide (toNat c'<length (set o0' (toNat v9) j'))) (L5 l a v0n v1 v6 v7 v8 o1 o0 v0n' v1' v2 v8' c' o1' (set (set o0' (toNat v9) j') (toNat c') (getD o0' (toNat v9) 0))) .fail) .fail) .fail) .fail) .fail) .fail) .fail) .fail) f') .fail) .fail) .fail) .fail) .fail) .fail) .fail) .fail) .fail) f':=by kernel_rfl
def L7(l:List (List UInt8×List UInt8×Bool))(a:List Int)(v0n:Nat)(v1 v6 v7 v8:Int)(o1:List (List UInt8×List UInt8×Bool))(o0:List Int):Tr:=re ((stepT K2 (L6 l a 0 0 0 [] [])).L) (Al 63 [(0,.sl 0 1 0 v0n none),(1,.dat i64 v1),(2,zB (zo 172) [] [.ptr 1 0]),(6,.dat i64 v6),(7,.dat i64 v7),(8,.dat i64 v8)] [(1,.box [.dat (zf (zg zd (zg zd ze))) o1]),(0,.arr false 3 i64 o0)] 2)
theorem C2(l:List (List UInt8×List UInt8×Bool))(a:List Int)(v0n:Nat)(v1 v6:Int)(o1:List (List UInt8×List UInt8×Bool))(o0:List Int):stepT K2 (L6 l a v0n v1 v6 o1 o0)=.ite (decide (v6<v1)) (L7 l a v0n v1 v6 0 (zc .i64 (2*v6)) o1 o0) (.leaf (.tup []) ([(1,.box [.dat (zf (zg zd (zg zd ze))) o1]),(0,.arr false 3 i64 o0)])):=by kernel_rfl
end T129
namespace T129z
def T(l:List (List UInt8×List UInt8×Bool)):Tr:=PH K2 9 129 O4 l
def L1(l:List (List UInt8×List UInt8×Bool))(v1 v6 v7 v8:Int)(o0:List (List UInt8×List UInt8×Bool)):Tr:=re ((T l)) (Al 63 [(0,.nil),(1,.dat i64 v1),(2,zB (zo 172) [] [.ptr 0 0]),(6,.dat i64 v6),(7,.dat i64 v7),(8,.dat i64 v8)] [(0,.box [.dat (zf (zg zd (zg zd ze))) o0])] 1)
theorem Ap(l:List (List UInt8×List UInt8×Bool)):T l=L1 l 0 20 0 20 l:=by kernel_rfl
def L2(l:List (List UInt8×List UInt8×Bool))(v1 v6 v7 v8:Int)(o0:List (List UInt8×List UInt8×Bool))(v1':Int)(v2:Int)(v8':Int)(o0':List (List UInt8×List UInt8×Bool)):Tr:=re ((stepT K2 (L1 l v1 v6 v7 v8 o0)).L) (Al 53 [(0,.nil),(1,.dat i64 v1'),(2,.dat i64 v2),(3,zB (zo 172) [] [.ptr 0 0]),(8,.dat i64 v8')] [(0,.box [.dat (zf (zg zd (zg zd ze))) o0'])] 1)
def L3(l:List (List UInt8×List UInt8×Bool))(v1 v6 v7 v8:Int)(o0:List (List UInt8×List UInt8×Bool))(v1':Int)(v2:Int)(v8':Int)(o0':List (List UInt8×List UInt8×Bool)):Tr:=re ((stepT K2 (L1 l v1 v6 v7 v8 o0)).R) (Al 53 [(0,.nil),(1,.dat i64 v1'),(2,.dat i64 v2),(3,zB (zo 172) [] [.ptr 0 0]),(8,.dat i64 v8')] [(0,.box [.dat (zf (zg zd (zg zd ze))) o0'])] 1)
theorem Ai(l:List (List UInt8×List UInt8×Bool))(v1 v6 v7 v8:Int)(o0:List (List UInt8×List UInt8×Bool)):stepT K2 (L1 l v1 v6 v7 v8 o0)=.ite (decide (v8≤v1)) (L2 l v1 v6 v7 v8 o0 v7 v8 (zc .i64 (v7+1)) o0) (L3 l v1 v6 v7 v8 o0 v7 v1 (zc .i64 (v7+1)) o0):=by kernel_rfl
def L5(l:List (List UInt8×List UInt8×Bool))(v1 v6 v7 v8:Int)(o0:List (List UInt8×List UInt8×Bool))(v1':Int)(v2:Int)(v8':Int)(v9:Int)(o0':List (List UInt8×List UInt8×Bool)):Tr:=re ((stepT K2 (L3 l v1 v6 v7 v8 o0 0 0 0 [])).L) (Al 53 [(0,.nil),(1,.dat i64 v1'),(2,.dat i64 v2),(3,zB (zo 172) [] [.ptr 0 0]),(8,.dat i64 v8'),(9,.dat i64 v9)] [(0,.box [.dat (zf (zg zd (zg zd ze))) o0'])] 1)
def L6(l:List (List UInt8×List UInt8×Bool))(v1 v6:Int)(o0:List (List UInt8×List UInt8×Bool)):Tr:=re ((stepT K2 (L3 l 0 0 0 0 [] 0 0 0 [])).R) (Al 63 [(0,.nil),(1,.dat i64 v1),(2,zB (zo 172) [] [.ptr 0 0]),(6,.dat i64 v6)] [(0,.box [.dat (zf (zg zd (zg zd ze))) o0])] 1)
theorem Bk(l:List (List UInt8×List UInt8×Bool))(v1 v6 v7 v8:Int)(o0:List (List UInt8×List UInt8×Bool))(v1':Int)(v2:Int)(v8':Int)(o0':List (List UInt8×List UInt8×Bool)):stepT K2 (L3 l v1 v6 v7 v8 o0 v1' v2 v8' o0')=.ite (decide (v8'<v2)) (L5 l v1 v6 v7 v8 o0 v1' v2 v8' v8' o0') (L6 l v1 v6 o0'):=by kernel_rfl
def L7(l:List (List UInt8×List UInt8×Bool))(v1 v6 v7 v8:Int)(o0:List (List UInt8×List UInt8×Bool)):Tr:=re ((stepT K2 (L6 l 0 0 [])).L) (Al 63 [(0,.nil),(1,.dat i64 v1),(2,zB (zo 172) [] [.ptr 0 0]),(6,.dat i64 v6),(7,.dat i64 v7),(8,.dat i64 v8)] [(0,.box [.dat (zf (zg zd (zg zd ze))) o0])] 1)
theorem C2(l:List (List UInt8×List UInt8×Bool))(v1 v6:Int)(o0:List (List UInt8×List UInt8×Bool)):stepT K2 (L6 l v1 v6 o0)=.ite (decide (v6<v1)) (L7 l v1 v6 0 (zc .i64 (2*v6)) o0) (.leaf (.tup []) ([(0,.box [.dat (zf (zg zd (zg zd ze))) o0])])):=by kernel_rfl
end T129z
end
noncomputable section
open List Int Prod
namespace T140
def T(l:List (List UInt8×List UInt8×Bool))(a:List Int):Tr:=tree VY false 9 140 (Ag ([zf (zg zd (zg zd ze)),zf i64]) (l,a))
def L1(v0:List (List UInt8×List UInt8×Bool))(v1:List Int)(v6:Int):Tr:=re ((T [] [])) (Al 57 [(0,.dat (zf (zg zd (zg zd ze))) v0),(1,.dat (zf i64) v1),(5,.nil),(6,.dat i64 v6)] [] 0)
theorem Ap(l:List (List UInt8×List UInt8×Bool))(a:List Int):T l a=L1 l a 0:=by kernel_rfl
def L2(v0:List (List UInt8×List UInt8×Bool))(v1:List Int)(v6 v7:Int):Tr:=re ((stepT VY (L1 [] [] 0)).L) (Al 57 [(0,.dat (zf (zg zd (zg zd ze))) v0),(1,.dat (zf i64) v1),(5,.nil),(6,.dat i64 v6),(7,.dat i64 v7)] [] 0)
theorem Ai(v0:List (List UInt8×List UInt8×Bool))(v1:List Int)(v6:Int):stepT VY (L1 v0 v1 v6)=.ite (decide (v6<(length v1:Int))) (L2 v0 v1 v6 0) (.leaf .nil []):=by kernel_rfl
def L3(v0:List (List UInt8×List UInt8×Bool))(v1:List Int)(v5n:Nat)(v6:Int)(o0:List Int):Tr:=re ((stepT VY (L2 [] [] 0 0)).R.L.L.L.L.L.L) (Al 57 [(0,.dat (zf (zg zd (zg zd ze))) v0),(1,.dat (zf i64) v1),(5,.sl 0 1 0 v5n none),(6,.dat i64 v6)] [(0,.arr false 3 i64 o0)] 1)
theorem AN(v0:List (List UInt8×List UInt8×Bool))(v1:List Int)(v6 v7:Int):stepT VY (L2 v0 v1 v6 v7)=.ite (decide (v7>0)) .fail (.ite (decide (0≤v7)&&decide (0≤toNat v7)&&decide (toNat v7≤0)) (.ite (decide (0≤v6)&&decide (v6<(length v1:Int))) (.ite (decide (0≤v7)&&true&&decide (toNat v7≤0)&&true) (.ite true (.ite (decide (1≤1)&&true&&true&&decide ((2*(0+1)+1000)*8≤281474976710656)) (.ite (decide (zh 0 1=length ([]++[]++[getD v1 (toNat v6) 0]))&&decide ((2*zh 0 1+1000)*8≤281474976710656)) (L3 v0 v1 1 (zc .i64 (v6+1)) ([]++[]++[getD v1 (toNat v6) 0]++[])) .fail) .fail) .fail) .fail) .fail) .fail):=by kernel_rfl
def L4(v0:List (List UInt8×List UInt8×Bool))(v1:List Int)(v5n:Nat)(v6 v7:Int)(o0:List Int):Tr:=re ((stepT VY (L3 [] [] 0 0 [])).L) (Al 57 [(0,.dat (zf (zg zd (zg zd ze))) v0),(1,.dat (zf i64) v1),(5,.sl 0 1 0 v5n none),(6,.dat i64 v6),(7,.dat i64 v7)] [(0,.arr false 3 i64 o0)] 1)
theorem Bk(v0:List (List UInt8×List UInt8×Bool))(v1:List Int)(v5n:Nat)(v6:Int)(o0:List Int):stepT VY (L3 v0 v1 v5n v6 o0)=.ite (decide (v6<(length v1:Int))) (L4 v0 v1 v5n v6 ((↑v5n:Int)) o0) (.leaf (.sl 0 1 0 v5n none) ([(0,.arr false 3 i64 o0)])):=by kernel_rfl
theorem BA(v0:List (List UInt8×List UInt8×Bool))(v1:List Int)(v5n:Nat)(v6 v7:Int)(o0:List Int):stepT VY (L4 v0 v1 v5n v6 v7 o0)=let b':=zc .i64 (v7-1);let c':=length (take (toNat v7) o0);let e':=fst (snd (getD v0 (toNat (getD v1 (toNat v6) 0)) ([],[],false)));let g':=decide (zl none v5n≤zl none v5n);let h':=decide (0≤v6)&&decide (v6<(length v1:Int));let i':=drop (zh 0 (toNat v7)) o0;let k':=zm v5n (toNat v7);let d':=fst (snd (getD v0 (toNat (getD o0 (toNat b') 0)) ([],[],false)));let f':=take k' i';let j':=zh 0 c';let a':Tr:=.ite (decide (0≤v7)&&true&&decide (0≤toNat v7)&&decide (toNat v7≤zl none v5n)&&g'&&true) (.ite h' (.ite (decide (0≤v7)&&true&&true&&decide (toNat v7≤v5n)&&decide (v5n≤zl none v5n)&&g'&&true) (.ite (decide (0+toNat v7≤length o0)&&true&&true&&decide ((2*(0+length (take (toNat v7) o0))+1000)*8≤281474976710656)) (.ite (decide (1≤1)&&true&&decide (zh 0 c'=length ([]++take (toNat v7) o0))&&decide ((2*(zh 0 c'+1)+1000)*8≤281474976710656)) (.ite (decide (zh 0 (toNat v7)+zm v5n (toNat v7)≤length o0)&&true&&decide (zh j' 1=length ([]++take (toNat v7) o0++[getD v1 (toNat v6) 0]))&&decide ((2*(zh j' 1+length f')+1000)*8≤281474976710656)) (L3 v0 v1 (zh (zh j' 1) (length f')) (zc .i64 (v6+1)) ([]++take (toNat v7) o0++[getD v1 (toNat v6) 0]++take k' i')) .fail) .fail) .fail) .fail) .fail) .fail;.ite (decide (v7>0)) (.ite (decide (0≤zc .i64 (v7-1))&&decide (zc .i64 (v7-1)<(↑v5n:Int))) (.ite (decide (toNat b'<length o0)) (.ite (decide (0≤getD o0 (toNat b') 0)&&decide (getD o0 (toNat b') 0<(length v0:Int))) (.ite h' (.ite (decide (0≤getD v1 (toNat v6) 0)&&decide (getD v1 (toNat v6) 0<(length v0:Int))) (.ite (Sp.AX d'&&Sp.AX e') (.ite (decide (Sp.CI d' e'>0)) (L4 v0 v1 v5n v6 b' o0) a') .fail) .fail) .fail) .fail) .fail) .fail) a':=by kernel_rfl
end T140
end
noncomputable section
noncomputable def cF:As:=⟨[i64],fun n=>Sp.GG n,[PD],fun n=>(((n:Int),Sp.DE n),((1:Int),Sp.DE 1)),false⟩
noncomputable def oC:AW:=X7 [(184,Q6)]
noncomputable def dH:AW:=eQ [(135,[1])] [(135,[(1,[(2,G7)])])] [(135,[(1,[1,2])])] ((136,E5)::(137,Xy)::(138,Wr)::(139,cF)::(184,Q6)::nE)
end
end Go.Pe
end
section
namespace Go.Pe
open Sp
open Go.Det
noncomputable section
open List Int Prod
namespace T60
def T(l:List (List UInt8×List UInt8×Bool)):Tr:=tree dH false 9 60 (Ag ([zf (zg zd (zg zd ze))]) l)
def L1(l:List (List UInt8×List UInt8×Bool))(v8:List (List UInt8×List UInt8×Bool))(v9 v10:Int)(o0:List (List UInt8×Bool)):Tr:=re ((T l).R) (Al 21 [(1,zB (zo 135) [] [.ptr 1 0]),(8,.dat (zf (zg zd (zg zd ze))) v8),(9,.dat i64 v9),(10,.dat i64 v10)] [(1,.box [PV.mp 0]),(0,Obj.map zd ze o0)] 2)
theorem Ap(l:List (List UInt8×List UInt8×Bool)):T l=.ite (decide ((length l:Int)>200)) (.leaf (.dat i64 (5:Int)) []) (L1 l l ((length l:Int)) 0 []):=by kernel_rfl
def L2(l:List (List UInt8×List UInt8×Bool))(v8:List (List UInt8×List UInt8×Bool))(v9 v10:Int)(o0:List (List UInt8×Bool))(v2:List UInt8×List UInt8×Bool)(o2 o2_1:List UInt8)(o2_2:Bool)(o0':List (List UInt8×Bool)):Tr:=re ((stepT dH (L1 l v8 v9 v10 o0)).L.L) (Al 32 [(1,.ptr 1 0),(2,PV.dptr (zg zd (zg zd ze)) v2 0)] [(2,.box [.dat zd o2,.dat zd o2_1,.dat ze o2_2]),(1,.box [PV.mp 0]),(0,Obj.map zd ze o0')] 3)
theorem Ai(l:List (List UInt8×List UInt8×Bool))(v8:List (List UInt8×List UInt8×Bool))(v9 v10:Int)(o0:List (List UInt8×Bool)):stepT dH (L1 l v8 v9 v10 o0)=let a':=getD v8 (toNat v10) ([],[],false);.ite (decide (v10<v9)) (.ite (decide (0≤v10)&&decide (v10<(length v8:Int))) (L2 l v8 v9 v10 o0 ((fst a',fst (snd a'),snd (snd a'))) (fst a') (fst (snd a')) (snd (snd a')) o0) .fail) (.leaf (.dat i64 (0:Int)) ([(1,.box [PV.mp 0]),(0,Obj.map zd ze o0)])):=by kernel_rfl
theorem AN(l:List (List UInt8×List UInt8×Bool))(v8:List (List UInt8×List UInt8×Bool))(v9 v10:Int)(o0:List (List UInt8×Bool))(v2:List UInt8×List UInt8×Bool)(o2 o2_1:List UInt8)(o2_2:Bool)(o0':List (List UInt8×Bool)):stepT dH (L2 l v8 v9 v10 o0 v2 o2 o2_1 o2_2 o0')=let c':=zl (Bs zd ze (fst v2) o0') false;let d':=fst (snd v2);let f':=!Sp.isName (fst v2);let g':=E4 zd ze (fst v2) true o0';let i':=((54,DE 54),1,DE 1);let j':=decide (2≤2)&&true&&decide (2≤1000000);let k':=(((-10),DE (-10)),1,DE 1);let l':=zr (zj zn);let a':=[(zh (zh 3 1) 1,.box [.dat i64 (M8 d'),.dat l' (MX d'),.dat i64 (Kf d'),.dat l' (Kl d')]),(zh 3 1,.arr false 25 i64 [zp [Dk f' 8,Dk c' 9],Bm d']),(3,.arr false 25 i64 [Dk f' 8,Dk c' 9]),(2,.box [.dat zd o2,.dat zd o2_1,.dat ze o2_2]),(1,.box [PV.mp 0]),(0,Obj.map zd ze g')];let b':=((M8 d',MX d'),Kf d',Kl d');let e':=L1 l v8 v9 (zc .i64 (v10+1)) g';let h':=zp [zp [Dk f' 8,Dk c' 9],Bm d'] !=0;let m':=decide (TA b' i'>0);.ite (decide (length (fst v2)≤1000000)) (.ite true (.ite true (.ite j' (.ite (decide (length d'≤1000000)) (.ite j' (.ite h' (.ite h' (.leaf (.dat i64 (zp [zp [Dk f' 8,Dk c' 9],Bm d'])) ([(zh 3 1,.arr false 25 i64 [zp [Dk f' 8,Dk c' 9],Bm d']),(3,.arr false 25 i64 [Dk f' 8,Dk c' 9]),(2,.box [.dat zd o2,.dat zd o2_1,.dat ze o2_2]),(1,.box [PV.mp 0]),(0,Obj.map zd ze g')])) e') (.ite (Jg d') (.ite true (.ite (LN b'&&LN k') (.ite (decide (TA b' k'<0)) (.ite true (.ite true (.leaf (.dat i64 (Dk true 3)) a') e') .fail) (.ite true (.ite (LN b'&&LN i') (.ite true (.ite (Dk m' 3 !=0) (.leaf (.dat i64 (Dk m' 3)) a') e') .fail) .fail) .fail)) .fail) .fail) .fail)) .fail) .fail) .fail) .fail) .fail) .fail:=by kernel_rfl
end T60
end
end Go.Pe
end
section
namespace Go.Pe
open Sp
open Go.Det
noncomputable section
open List Int Prod
namespace T139
def T(n:Int):Tr:=tree oC false 9 139 (Ag ([zj zk]) n)
theorem Ap(n:Int):T n=let a':=zr (zj zn);.ite true (.ite true (.leaf (zz [.dat i64 n,.dat a' (DE n),.dat i64 (1:Int),.dat a' (DE 1)]) ([(zh (zh 0 1) 1,.box [.dat i64 n,.dat a' (DE n),.dat i64 (1:Int),.dat a' (DE 1)]),(zh 0 1,.box [.dat i64 n,.dat a' (DE n)]),(0,.box [.dat i64 n,.dat a' (DE n),.dat i64 (1:Int),.dat a' (DE 1)])])) .fail) .fail:=by kernel_rfl
end T139
end
end Go.Pe
end
section
namespace Go.Pe
open Sp
open Go.Det
noncomputable section
open List Int Prod
namespace T50
def T(l:List (List UInt8×List UInt8×Bool))(n:Int):Tr:=tree Wj false 9 50 (Ag ([zf (zg zd (zg zd ze)),zj zk]) (l,n))
def L1(v0:List (List UInt8×List UInt8×Bool))(v5:Int):Tr:=re ((T [] 0).L.R.R) (Al 42 [(0,.dat (zf (zg zd (zg zd ze))) v0),(5,.dat i64 v5)] [] 0)
theorem Ap(l:List (List UInt8×List UInt8×Bool))(n:Int):T l n=let b':=(length l:Int);let a':Tr:=.ite (decide (b'>205)) (.leaf (.bl false) []) (L1 l 0);.ite (decide (b'>n)) (.ite (decide (b'≤200)) (.leaf (.bl false) []) a') a':=by kernel_rfl
theorem Ai(v0:List (List UInt8×List UInt8×Bool))(v5:Int):stepT Wj (L1 v0 v5)=let a':=decide (v5<(length v0:Int));let b':=getD v0 (toNat v5) ([],[],false);.ite (a') (.ite (decide (0≤v5)&&a') (.ite (decide ((↑(length (fst b')):Int)>40)) (.leaf (.bl false) []) (.ite (decide (0≤v5)&&a') (.ite (decide (0≤6)&&decide (6≤1000)) (.ite (!Br (fst (snd b')) 6) (.leaf (.bl false) []) (L1 v0 (zc .i64 (v5+1)))) .fail) .fail)) .fail) (.leaf (.bl true) []):=by kernel_rfl
end T50
namespace T127
def T(l:List (List UInt8×List UInt8×Bool)):Tr:=tree Wj false 9 127 (Ag ([zf (zg zd (zg zd ze))]) l)
def L1(v0:List (List UInt8×List UInt8×Bool))(v4:Int):Tr:=re ((T [])) (Al 20 [(0,.dat (zf (zg zd (zg zd ze))) v0),(3,.nil),(4,.dat i64 v4)] [] 0)
theorem Ap(l:List (List UInt8×List UInt8×Bool)):T l=L1 l 0:=by kernel_rfl
def L2(v0:List (List UInt8×List UInt8×Bool))(v3n:Nat)(v4:Int)(o0:List (List UInt8)):Tr:=re ((stepT Wj (L1 [] 0)).L.L.L) (Al 20 [(0,.dat (zf (zg zd (zg zd ze))) v0),(3,.sl 0 1 0 v3n none),(4,.dat i64 v4)] [(0,.arr false 9 zd o0)] 1)
theorem Ai(v0:List (List UInt8×List UInt8×Bool))(v4:Int):stepT Wj (L1 v0 v4)=let a':=decide (v4<(length v0:Int));.ite (a') (.ite (decide (0≤v4)&&a') (.ite (decide (1≤1)&&decide (0<1)&&decide ((2*1+1000)*16≤281474976710656)) (L2 v0 1 (zc .i64 (v4+1)) ([fst (getD v0 (toNat v4) ([],[],false))])) .fail) .fail) (.leaf .nil []):=by kernel_rfl
theorem AN(v0:List (List UInt8×List UInt8×Bool))(v3n:Nat)(v4:Int)(o0:List (List UInt8)):stepT Wj (L2 v0 v3n v4 o0)=let a':=decide (v4<(length v0:Int));.ite (a') (.ite (decide (0≤v4)&&a') (.ite (decide (1≤1)&&true&&decide (v3n=length o0)&&decide ((2*(v3n+1)+1000)*16≤281474976710656)) (L2 v0 (zh v3n 1) (zc .i64 (v4+1)) (o0++[fst (getD v0 (toNat v4) ([],[],false))])) .fail) .fail) (.leaf (.sl 0 1 0 v3n none) ([(0,.arr false 9 zd o0)])):=by kernel_rfl
end T127
namespace T51
def T(l:List (List UInt8×List UInt8×Bool)):Tr:=tree kM false 9 51 (Ag ([zf (zg zd (zg zd ze))]) l)
def L1(v0:List (List UInt8×List UInt8×Bool))(v3:List (List UInt8))(v4:Int):Tr:=re ((T []).R.L) (Al 51 [(0,.dat (zf (zg zd (zg zd ze))) v0),(3,.dat (zf zd) v3),(4,.dat i64 v4)] [] 0)
theorem Ap(l:List (List UInt8×List UInt8×Bool)):T l=.ite (decide ((length l:Int)>200)) (.leaf (.dat i64 (5:Int)) []) (.ite (E2 l) (L1 l (B8 l) 0) .fail):=by kernel_rfl
theorem Ai(v0:List (List UInt8×List UInt8×Bool))(v3:List (List UInt8))(v4:Int):stepT kM (L1 v0 v3 v4)=let a':=fst (snd (getD v0 (toNat v4) ([],[],false)));let b':=L1 v0 v3 (zc .i64 (v4+1));let f':=([45,49,48]:List UInt8);let g':=getD v3 (toNat v4) [];let h':=([53,52]:List UInt8);let j':=take (toNat v4) v3;let m':=decide (v4<(length v0:Int));let c':=decide (0≤v4)&&m';let d':Tr:=.ite (C1 j' g' !=0) (.leaf (.dat i64 (C1 j' g')) []) b';let e':Tr:=.ite true (.leaf (.dat i64 (3:Int)) []) b';let i':Tr:=.ite (Bm a' !=0) (.leaf (.dat i64 (Bm a')) []) b';let k':=AX a'&&AX f';let l':=AX a'&&AX h';let n':=decide (CI a' f'<0);let o':=decide (CI a' h'>0);.ite (m') (.ite (Y3 v3&&decide (0≤v4)&&decide (v4<(length v3:Int))) (.ite (C1 j' g'==0) (.ite c' (.ite (decide (length a'≤1000000)) (.ite (Bm a'==0) (.ite c' (.ite k' (.ite n' e' (.ite c' (.ite l' (.ite o' e' i') .fail) .fail)) .fail) .fail) i') .fail) .fail) (.ite (C1 j' g'==0) (.ite c' (.ite k' (.ite n' e' (.ite c' (.ite l' (.ite o' e' d') .fail) .fail)) .fail) .fail) d')) .fail) (.leaf (.dat i64 (0:Int)) []):=by kernel_rfl
end T51
end
end Go.Pe
end
section
namespace Go.Pe
open Sp
open Go.Det
noncomputable section
open List Int Prod
namespace T212
def T(n d:Int):Tr:=tree nA false 9 212 (Ag ([zj zk,zj zk]) (n,d))
theorem Ap(n d:Int):T n d=let b':=zc .i64 (0-n);let g':Tr:=.ite (GG n) (.ite (GG d) (.ite false (.leaf (.dat zd []) []) .fail) .fail) .fail;let p':=zc .i64 (0-d);let e':=Sp.gI (imax n b') d;let j':=imax b' (zc .i64 (0-zc .i64 (0-n)));let w':=decide (Sp.gI (imax n b') d≠0);let a':=Sp.gI j' p';let t':=zx d e';let z':=zx n e';let b'':=decide (Sp.gI j' p'≠0);let f':=zx p' a';let k':=decide (0≤zc .i64 t')&&decide (zc .i64 t'<9223372036854775808)&&decide (0≤1)&&decide (1≤20);let n':=zc .i64 (0-zc .i64 z');let o':=zc .i64 t';let r':=zc .i64 z';let v':=decide (zc .i64 t'>1);let x':=zx b' a';let c':=imax r' n';let i':=decide (0≤imax r' n')&&decide (imax r' n'<9223372036854775808)&&decide (0≤1)&&decide (1≤20);let l':=zc .i64 (0-zc .i64 x');let m':=decide (0≤zc .i64 f')&&decide (zc .i64 f'<9223372036854775808)&&decide (0≤1)&&decide (1≤20);let q':=zc .i64 x';let s':=zc .i64 f';let u':=decide (zc .i64 f'>1);let d':=imax q' l';let h':=decide (0≤imax q' l')&&decide (imax q' l'<9223372036854775808)&&decide (0≤1)&&decide (1≤20);let a'':=[(45:UInt8)]++B4 c' 1;let y':=[(45:UInt8)]++B4 d' 1;.ite (decide (n<(-4000000000000000000))) g' (.ite (decide (n>4000000000000000000)) g' (.ite (decide (d<(-4000000000000000000))) g' (.ite (decide (d>4000000000000000000)) g' (.ite (decide (d<0)) (.ite (V1 j' p') (.ite b'' (.ite b'' (.ite (decide (zc .i64 x'<0)) (.ite h' (.ite (decide (1+length (B4 d' 1)≤4611686018427387904)) (.ite u' (.ite (decide (length y'+1≤4611686018427387904)) (.ite m' (.ite (decide (length ([(45:UInt8)]++B4 d' 1++[(47:UInt8)])+length (B4 s' 1)≤4611686018427387904)) (.leaf (.dat zd ([(45:UInt8)]++B4 d' 1++[(47:UInt8)]++B4 s' 1)) []) .fail) .fail) .fail) (.leaf (.dat zd y') [])) .fail) .fail) (.ite h' (.ite (decide (0+length (B4 d' 1)≤4611686018427387904)) (.ite u' (.ite (decide (length ([]++B4 d' 1)+1≤4611686018427387904)) (.ite m' (.ite (decide (length ([]++B4 d' 1++[(47:UInt8)])+length (B4 s' 1)≤4611686018427387904)) (.leaf (.dat zd ([]++B4 d' 1++[(47:UInt8)]++B4 s' 1)) []) .fail) .fail) .fail) (.leaf (.dat zd ([]++B4 d' 1)) [])) .fail) .fail)) .fail) .fail) .fail) (.ite (V1 (imax n b') d) (.ite w' (.ite w' (.ite (decide (zc .i64 z'<0)) (.ite i' (.ite (decide (1+length (B4 c' 1)≤4611686018427387904)) (.ite v' (.ite (decide (length a''+1≤4611686018427387904)) (.ite k' (.ite (decide (length ([(45:UInt8)]++B4 c' 1++[(47:UInt8)])+length (B4 o' 1)≤4611686018427387904)) (.leaf (.dat zd ([(45:UInt8)]++B4 c' 1++[(47:UInt8)]++B4 o' 1)) []) .fail) .fail) .fail) (.leaf (.dat zd a'') [])) .fail) .fail) (.ite i' (.ite (decide (0+length (B4 c' 1)≤4611686018427387904)) (.ite v' (.ite (decide (length ([]++B4 c' 1)+1≤4611686018427387904)) (.ite k' (.ite (decide (length ([]++B4 c' 1++[(47:UInt8)])+length (B4 o' 1)≤4611686018427387904)) (.leaf (.dat zd ([]++B4 c' 1++[(47:UInt8)]++B4 o' 1)) []) .fail) .fail) .fail) (.leaf (.dat zd ([]++B4 c' 1)) [])) .fail) .fail)) .fail) .fail) .fail))))):=by kernel_rfl
end T212
namespace T173
def T(a b:List UInt8):Tr:=tree nX false 9 173 (Ag ([zd,zd]) (a,b))
theorem Ap(a b:List UInt8):T a b=let a':Tr:=.ite (Jg a) (.ite (Jg b) (.ite false (.ite false (.ite false (.ite false (.ite false (.leaf (.dat zd []) ([(zh (zh (zh 0 1) 1) 1,.box [.dat ze (G3 b),.dat (zf i64) (Fs b)]),(zh (zh 0 1) 1,.box [.dat ze (G0 b),.dat (zf i64) (FA b)]),(zh 0 1,.box [.dat ze (G3 a),.dat (zf i64) (Fs a)]),(0,.box [.dat ze (G0 a),.dat (zf i64) (FA a)])])) .fail) .fail) .fail) .fail) .fail) .fail) .fail;let b':=zc .i64 (zc .i64 (A0 a*AJ b)+zc .i64 (A0 b*AJ a));let c':=zc .i64 (AJ a*AJ b);.ite (Gy a) (.ite (Gy b) (.ite true (.ite true (.ite (mM b' c') (.leaf (.dat zd (jZ b' c')) []) .fail) a') a') .fail) .fail:=by kernel_rfl
end T173
namespace T131
def T(a b:List UInt8):Tr:=tree oO false 9 131 (Ag ([zd,zd]) (a,b))
theorem Ap(a b:List UInt8):T a b=.ite (decide (length b≤1000000)) (.ite (AX a&&AX (Ju b)) (.leaf (.dat zd (Pc a (Ju b))) []) .fail) .fail:=by kernel_rfl
end T131
namespace T55
def T(a b:List UInt8):Tr:=tree oE false 9 55 (Ag ([zd,zd]) (a,b))
theorem Ap(a b:List UInt8):T a b=.ite (AX a&&AX b) (.ite (decide (length (Pc a (Ju b))≤1000000)) (.leaf (.dat i64 (FR (Pc a (Ju b)))) []) .fail) .fail:=by kernel_rfl
end T55
end
end Go.Pe
end
section
namespace Go.Pe
open Sp
open Go.Det
noncomputable section
open List Int Prod
namespace T272
def T(a b:Int):Tr:=tree Ib false 9 272 (Ag ([zj zk,zj zk]) (a,b))
def L1(v0 v1:Int):Tr:=re ((T 0 0)) (Al 12 [(0,.dat i64 v0),(1,.dat i64 v1)] [] 0)
theorem Ap(a b:Int):T a b=L1 a b:=by kernel_rfl
theorem Ai(v0 v1:Int):stepT Ib (L1 v0 v1)=.ite (decide (v1>0)) (.ite (decide (v1≠0)) (L1 v1 (zt v0 v1)) .fail) (.leaf (.dat i64 v0) []):=by kernel_rfl
end T272
namespace T211
def T(a:List UInt8):Tr:=tree Mf false 9 211 (Ag ([zd]) a)
def L1(v5:List UInt8)(v6:Bool):Tr:=re ((T []).R.L.L) (Al 54 [(5,.dat zd v5),(6,.dat ze v6)] [] 0)
def L2(v5:List UInt8):Tr:=re ((T []).R.R) (Al 54 [(5,.dat zd v5),(6,.bl false)] [] 0)
theorem Ap(a:List UInt8):T a=let a':=(length a:Int);.ite (decide (a'>20)) (.leaf (.tup [.dat i64 (0:Int),.dat i64 (0:Int),.bl false]) []) (.ite (decide (a'>0)) (.ite (decide (0<a')) (L1 a ((↑(zi (getD a 0 (0:UInt8))):Int)==45)) .fail) (L2 a)):=by kernel_rfl
def L3(v5:List UInt8)(v6:Bool):Tr:=re ((stepT Mf (L1 [] false)).L.L) (Al 54 [(5,.dat zd v5),(6,.dat ze v6)] [] 0)
theorem Ai(v5:List UInt8)(v6:Bool):stepT Mf (L1 v5 v6)=.ite v6 (.ite (decide (1≤length v5)&&decide (length v5≤length v5)) (L3 (take (zm (length v5) 1) (drop 1 v5)) v6) .fail) (L3 v5 v6):=by kernel_rfl
def L4(v5:List UInt8):Tr:=re ((stepT Mf (L2 []))) (Al 54 [(5,.dat zd v5),(6,.bl false)] [] 0)
theorem AN(v5:List UInt8):stepT Mf (L2 v5)=L4 v5:=by kernel_rfl
def L5(v5:List UInt8)(v6:Bool)(v7 v8 v9:Int):Tr:=re ((stepT Mf (L3 [] false)).L.R.R.L.L) (Al 54 [(5,.dat zd v5),(6,.dat ze v6),(7,.dat i64 v7),(8,.dat i64 v8),(9,.dat i64 v9)] [] 0)
theorem Bk(v5:List UInt8)(v6:Bool):stepT Mf (L3 v5 v6)=let a':Tr:=.leaf (.tup [.dat i64 (0:Int),.dat i64 (0:Int),.bl false]) [];let b':=AS v5;.ite (decide (length v5≤1000000)) (.ite (decide (AS v5>9)) a' (.ite (decide (zc .i64 ((length v5:Int)-AS v5)>10)) a' (.ite (decide (0≤AS v5)&&decide (0≤toNat b')&&decide (toNat b'≤length v5)) (.ite (Dr (take (toNat b') v5)) (L5 v5 v6 b' (Bh (take (toNat b') v5)) 1) .fail) .fail))) .fail:=by kernel_rfl
def L6(v5:List UInt8)(v7 v8 v9:Int):Tr:=re ((stepT Mf (L4 [])).L.R.R.L.L) (Al 54 [(5,.dat zd v5),(6,.bl false),(7,.dat i64 v7),(8,.dat i64 v8),(9,.dat i64 v9)] [] 0)
theorem BA(v5:List UInt8):stepT Mf (L4 v5)=let a':Tr:=.leaf (.tup [.dat i64 (0:Int),.dat i64 (0:Int),.bl false]) [];let b':=AS v5;.ite (decide (length v5≤1000000)) (.ite (decide (AS v5>9)) a' (.ite (decide (zc .i64 ((length v5:Int)-AS v5)>10)) a' (.ite (decide (0≤AS v5)&&decide (0≤toNat b')&&decide (toNat b'≤length v5)) (.ite (Dr (take (toNat b') v5)) (L6 v5 b' (Bh (take (toNat b') v5)) 1) .fail) .fail))) .fail:=by kernel_rfl
def L7(v6:Bool)(v8 v9:Int):Tr:=re ((stepT Mf (L5 [] false 0 0 0)).L.L.L) (Al 54 [(6,.dat ze v6),(8,.dat i64 v8),(9,.dat i64 v9)] [] 0)
theorem CF(v5:List UInt8)(v6:Bool)(v7 v8 v9:Int):stepT Mf (L5 v5 v6 v7 v8 v9)=let b':=zc .i64 (v7+1);let a':=take (zm (length v5) (toNat b')) (drop (toNat b') v5);.ite (decide (v7<(length v5:Int))) (.ite (decide (0≤zc .i64 (v7+1))&&true&&decide (toNat b'≤length v5)&&decide (length v5≤length v5)) (.ite (Dr a') (L7 v6 v8 (Bh a')) .fail) .fail) (L7 v6 v8 v9):=by kernel_rfl
def L8(v8 v9:Int):Tr:=re ((stepT Mf (L6 [] 0 0 0)).L.L.L) (Al 54 [(6,.bl false),(8,.dat i64 v8),(9,.dat i64 v9)] [] 0)
theorem C2(v5:List UInt8)(v7 v8 v9:Int):stepT Mf (L6 v5 v7 v8 v9)=let b':=zc .i64 (v7+1);let a':=take (zm (length v5) (toNat b')) (drop (toNat b') v5);.ite (decide (v7<(length v5:Int))) (.ite (decide (0≤zc .i64 (v7+1))&&true&&decide (toNat b'≤length v5)&&decide (length v5≤length v5)) (.ite (Dr a') (L8 v8 (Bh a')) .fail) .fail) (L8 v8 v9):=by kernel_rfl
theorem Db(v6:Bool)(v8 v9:Int):stepT Mf (L7 v6 v8 v9)=.ite v6 (.leaf (.tup [.dat i64 (zc .i64 (0-v8)),.dat i64 v9,.bl true]) []) (.leaf (.tup [.dat i64 v8,.dat i64 v9,.bl true]) []):=by kernel_rfl
theorem EF(v8 v9:Int):stepT Mf (L8 v8 v9)=.leaf (.tup [.dat i64 v8,.dat i64 v9,.bl true]) []:=by kernel_rfl
end T211
namespace T130
def T(a:List UInt8):Tr:=tree Ib false 9 130 (Ag ([zd]) a)
theorem Ap(a:List UInt8):T a=let a':Tr:=.leaf (.dat i64 (1:Int)) [];.ite (a==[(48:UInt8)]) (.leaf (.dat i64 (0:Int)) []) (.ite (decide ((length a:Int)>0)) (.ite (decide (0<(length a:Int))) (.ite ((↑(zi (getD a 0 (0:UInt8))):Int)==45) (.leaf (.dat i64 (-1:Int)) []) a') .fail) a'):=by kernel_rfl
end T130
namespace T174
def T(a:List UInt8):Tr:=tree nN false 9 174 (Ag ([zd]) a)
theorem Ap(a:List UInt8):T a=let a':=decide (length a≤1000000);.ite a' (.ite (decide (FR a<0)) (.ite (decide (1≤length a)&&decide (length a≤length a)) (.leaf (.dat zd (take (zm (length a) 1) (drop 1 a))) []) .fail) (.ite a' (.ite (FR a==0) (.leaf (.dat zd a) []) (.ite (decide (1+length a≤4611686018427387904)) (.leaf (.dat zd ([(45:UInt8)]++a)) []) .fail)) .fail)) .fail:=by kernel_rfl
end T174
namespace T273
def T(n l:Int):Tr:=tree Ib false 9 273 (Ag ([zj zk,zj zk]) (n,l))
def L1(v0 v1:Int)(v5:List UInt8):Tr:=re ((T 0 0)) (Al 25 [(0,.dat i64 v0),(1,.dat i64 v1),(5,.dat zd v5)] [] 0)
theorem Ap(n l:Int):T n l=L1 n l []:=by kernel_rfl
theorem Ai(v0 v1:Int)(v5:List UInt8):stepT Ib (L1 v0 v1 v5)=let c':=zc .i64 (zt v0 10+1);let d':=toNat (zt v0 10);let b':=drop d' [(48:UInt8),(49:UInt8),(50:UInt8),(51:UInt8),(52:UInt8),(53:UInt8),(54:UInt8),(55:UInt8),(56:UInt8),(57:UInt8)];let a':Tr:=.ite true (.ite true (.ite (decide (0≤zt v0 10)&&decide (0≤zc .i64 (zt v0 10+1))&&decide (toNat (zt v0 10)≤toNat c')&&decide (toNat c'≤10)) (.ite (decide (length (take (zm (toNat c') d') b')+length v5≤4611686018427387904)) (.ite true (L1 (zc .i64 (zx v0 10)) v1 (take (zm (toNat c') d') b'++v5)) .fail) .fail) .fail) .fail) .fail;.ite (decide (v0>0)) a' (.ite (decide ((length v5:Int)<v1)) a' (.leaf (.dat zd v5) [])):=by kernel_rfl
end T273
end
end Go.Pe
end
section
namespace Go.Pe
open Sp
open Go.Det
noncomputable section
open List Int Prod
namespace T137
def T(a:List UInt8):Tr:=tree oI false 9 137 (Ag ([zd]) a)
theorem Ap(a:List UInt8):T a=let a':=zr (zj zn);let b':=CN (Ay a);let c':=CV (Ay a);.ite (fV a [(47:UInt8)]) (.ite (!Bz a) (.ite (DA (Ay a)) (.ite true (.leaf (zz [.dat i64 b',.dat a' c',.dat i64 (1:Int),.dat a' (DE 1)]) ([(zh (zh 0 1) 1,.box [.dat i64 b',.dat a' c',.dat i64 (1:Int),.dat a' (DE 1)]),(zh 0 1,.box [.dat i64 b',.dat a' c']),(0,.box [.dat i64 b',.dat a' c',.dat i64 (1:Int),.dat a' (DE 1)])])) .fail) .fail) (.ite (DA (Ay a)) (.ite (DA (Sp.AG a)) (.leaf (zz [.dat i64 b',.dat a' c',.dat i64 (CN (Sp.AG a)),.dat a' (CV (Sp.AG a))]) ([(0,.box [.dat i64 b',.dat a' c',.dat i64 (CN (Sp.AG a)),.dat a' (CV (Sp.AG a))])])) .fail) .fail)) .fail:=by kernel_rfl
end T137
namespace T138
def T(a:(Int×List Int)×Int×List Int)(b:(Int×List Int)×Int×List Int):Tr:=tree nJ false 9 138 (Ag ([zg (zg i64 (zr (zj zn))) (zg i64 (zr (zj zn))),zg (zg i64 (zr (zj zn))) (zg i64 (zr (zj zn)))]) (a,b))
theorem Ap(a:(Int×List Int)×Int×List Int)(b:(Int×List Int)×Int×List Int):T a b=let c':=zr (zj zn);let d':=(fst (fst a),snd (fst a));let e':=(fst (snd b),snd (snd b));let f':=(fst (fst b),snd (fst b));let g':=(fst (snd a),snd (snd a));let a':=(GL d' e',GI d' e');let b':=(GL f' g',GI f' g');.ite (BR d'&&BR e') (.ite (BR f'&&BR g') (.ite (BR a'&&BR b') (.leaf (.dat i64 (VA a' b')) ([(zh 0 1,.box [.dat i64 (fst (fst b)),.dat c' (snd (fst b)),.dat i64 (fst (snd b)),.dat c' (snd (snd b))]),(0,.box [.dat i64 (fst (fst a)),.dat c' (snd (fst a)),.dat i64 (fst (snd a)),.dat c' (snd (snd a))])])) .fail) .fail) .fail:=by kernel_rfl
end T138
namespace T203
def T(a:List UInt8):Tr:=tree Ib false 9 203 (Ag ([zd]) a)
theorem Ap(a:List UInt8):T a=let a':Tr:=.ite (decide (1≤length a)&&decide (length a≤length a)) (.leaf (.dat zd (take (zm (length a) 1) (drop 1 a))) []) .fail;let b':Tr:=.ite false a' (.leaf (.dat zd a) []);.ite (a==[(48:UInt8)]) b' (.ite (decide ((length a:Int)>0)) (.ite (decide (0<(length a:Int))) (.ite ((↑(zi (getD a 0 (0:UInt8))):Int)==45) (.ite true a' (.leaf (.dat zd a) [])) b') .fail) b'):=by kernel_rfl
end T203
namespace T204
def T(a:List UInt8):Tr:=tree lJ false 9 204 (Ag ([zd]) a)
theorem Ap(a:List UInt8):T a=.ite (decide (length a≤1000000)) (.ite (decide (0≤AS a)&&decide (0≤toNat (AS a))&&decide (toNat (AS a)≤length a)) (.leaf (.dat zd (take (toNat (AS a)) a)) []) .fail) .fail:=by kernel_rfl
end T204
namespace T205
def T(a:List UInt8):Tr:=tree lJ false 9 205 (Ag ([zd]) a)
theorem Ap(a:List UInt8):T a=let a':=zc .i64 (AS a+1);.ite (decide (length a≤1000000)) (.ite (AS a==(length a:Int)) (.leaf (.dat zd [(49:UInt8)]) []) (.ite (decide (0≤zc .i64 (AS a+1))&&true&&decide (toNat a'≤length a)&&decide (length a≤length a)) (.leaf (.dat zd (take (zm (length a) (toNat a')) (drop (toNat a') a))) []) .fail)) .fail:=by kernel_rfl
end T205
namespace T166
def T(a:List UInt8)(n:Int):Tr:=tree nZ false 9 166 (Ag ([zd,zj zk]) (a,n))
theorem Ap(a:List UInt8)(n:Int):T a n=let a':=decide (length a≤1000000);let b':Tr:=.leaf (.bl false) [];.ite (decide ((length a:Int)≤zc .i64 (zc .i64 (2*n)+2))) (.ite a' (.ite (Bm a==0) (.ite a' (.ite (decide (length (Ay a)≤1000000)) (.ite (decide ((↑(length (A3 (Ay a))):Int)≤n)) (.ite a' (.leaf (.dat ze (decide ((↑(length (SU a)):Int)≤n))) []) .fail) b') .fail) .fail) b') .fail) b':=by kernel_rfl
end T166
namespace T126
def T(a:List UInt8)(n:Int):Tr:=tree oN false 9 126 (Ag ([zd,zj zk]) (a,n))
theorem Ap(a:List UInt8)(n:Int):T a n=let a':=decide (length a≤1000000);.ite (decide ((length a:Int)≤40)) (.ite (a') (.ite (Bm a !=0) (.leaf (.bl true) []) (.ite (a'&&decide (0≤n)&&decide (n≤1000)) (.leaf (.dat ze (N1 a n)) []) .fail)) .fail) (.leaf (.bl false) []):=by kernel_rfl
end T126
end
noncomputable section
open List Int Prod
namespace T167
def T(s:List UInt8):Tr:=tree Ib false 9 167 (Ag ([zd]) s)
def L1(v0:List UInt8)(v3:Int):Tr:=re ((T [])) (Al 17 [(0,.dat zd v0),(3,.dat i64 v3)] [] 0)
theorem Ap(s:List UInt8):T s=L1 s 0:=by kernel_rfl
theorem Ai(v0:List UInt8)(v3:Int):stepT Ib (L1 v0 v3)=let a':=(length v0:Int);.ite (decide (v3<a')) (.ite (decide (0≤v3)&&decide (v3<a')) (.ite ((↑(zi (getD v0 (toNat v3) (0:UInt8))):Int)==47) (.leaf (.dat i64 v3) []) (L1 v0 (zc .i64 (v3+1)))) .fail) (.leaf (.dat i64 a') []):=by kernel_rfl
end T167
namespace T168
def T(s:List UInt8):Tr:=tree Ib false 9 168 (Ag ([zd]) s)
def L1(s v0:List UInt8)(v3:Int):Tr:=re ((T s).R.L.L.R) (Al 20 [(0,.dat zd v0),(3,.dat i64 v3)] [] 0)
def L2(s v0:List UInt8)(v3:Int):Tr:=re ((T s).R.R) (Al 20 [(0,.dat zd v0),(3,.dat i64 v3)] [] 0)
theorem Ap(s:List UInt8):T s=let a':=(length s:Int);.ite (a'==0) (.leaf (.bl false) []) (.ite (decide (a'>1)) (.ite (decide (0<a')) (.ite ((↑(zi (getD s 0 (0:UInt8))):Int)==48) (.leaf (.bl false) []) (L1 s s 0)) .fail) (L2 s s 0)):=by kernel_rfl
theorem Ai(s v0:List UInt8)(v3:Int):stepT Ib (L1 s v0 v3)=let a':=decide (v3<(length v0:Int));let b':=(↑(zi (getD v0 (toNat v3) (0:UInt8))):Int);.ite (a') (.ite (decide (0≤v3)&&a') (.ite (decide (b'<48)) (.leaf (.bl false) []) (.ite (decide (0≤v3)&&a') (.ite (decide (b'>57)) (.leaf (.bl false) []) (L1 s v0 (zc .i64 (v3+1)))) .fail)) .fail) (.leaf (.bl true) []):=by kernel_rfl
theorem AN(s v0:List UInt8)(v3:Int):stepT Ib (L2 s v0 v3)=let a':=decide (v3<(length v0:Int));let b':=(↑(zi (getD v0 (toNat v3) (0:UInt8))):Int);.ite (a') (.ite (decide (0≤v3)&&a') (.ite (decide (b'<48)) (.leaf (.bl false) []) (.ite (decide (0≤v3)&&a') (.ite (decide (b'>57)) (.leaf (.bl false) []) (L2 s v0 (zc .i64 (v3+1)))) .fail)) .fail) (.leaf (.bl true) []):=by kernel_rfl
end T168
namespace T208
def T(n:Int):Tr:=tree bQ false 9 208 (Ag ([zj zk]) n)
def L1(v0:Int)(v4:Bool):Tr:=re ((T 0)) (Al 25 [(0,.dat i64 v0),(2,.ptr 0 0),(3,.nil),(4,.dat ze v4)] [(0,.box [.bl false,.nil])] 1)
theorem Ap(n:Int):T n=L1 n (decide (n<0)):=by kernel_rfl
def L2(v0:Int)(v3n:Nat)(v4:Bool)(o1:List Int):Tr:=re ((stepT bQ (L1 0 false)).L.L.L.L.L) (Al 25 [(0,.dat i64 v0),(2,.ptr 0 0),(3,.sl 1 1 0 v3n none),(4,.dat ze v4)] [(1,.arr false 3 i64 o1),(0,.box [.bl false,.nil])] 2)
theorem Ai(v0:Int)(v4:Bool):stepT bQ (L1 v0 v4)=let a':=decide (1≤1)&&decide (0<1)&&decide ((2*1+1000)*8≤281474976710656);let b':=zc .i64 (zx v0 1000000000);.ite (v0 !=0) (.ite true (.ite (decide (zt v0 1000000000<0)) (.ite a' (.ite true (L2 b' 1 v4 ([zc .i64 (0-zt v0 1000000000)])) .fail) .fail) (.ite a' (.ite true (L2 b' 1 v4 ([zt v0 1000000000])) .fail) .fail)) .fail) (.ite (decide (0≤20000)) (.leaf (zz [.dat ze (Sp.Ew v4 []),.dat (zf i64) (Sp.Az [])]) ([(0,.box [.dat ze (Sp.Ew v4 []),.dat (zf i64) (Sp.Az [])])])) .fail):=by kernel_rfl
theorem AN(v0:Int)(v3n:Nat)(v4:Bool)(o1:List Int):stepT bQ (L2 v0 v3n v4 o1)=let a':=decide (1≤1)&&true&&decide (v3n=length o1)&&decide ((2*(v3n+1)+1000)*8≤281474976710656);let b':=zc .i64 (zx v0 1000000000);let c':=Sp.Ew v4 (take v3n o1);let d':=Sp.Az (take v3n o1);.ite (v0 !=0) (.ite true (.ite (decide (zt v0 1000000000<0)) (.ite a' (.ite true (L2 b' (zh v3n 1) v4 (o1++[zc .i64 (0-zt v0 1000000000)])) .fail) .fail) (.ite a' (.ite true (L2 b' (zh v3n 1) v4 (o1++[zt v0 1000000000])) .fail) .fail)) .fail) (.ite (decide (0+v3n≤length o1)&&true&&decide (length (take v3n o1)≤20000)) (.leaf (zz [.dat ze c',.dat (zf i64) d']) ([(1,.arr true 3 i64 o1),(0,.box [.dat ze c',.dat (zf i64) d'])])) .fail):=by kernel_rfl
end T208
end
end Go.Pe
end
section
namespace Go.Pe
open Sp
open Go.Det
noncomputable section
open List Int Prod
namespace T169
def T(a:List UInt8):Tr:=tree nG false 9 169 (Ag ([zd]) a)
theorem Ap(a:List UInt8):T a=let b':=take (toNat (AS a)) a;let c':=zc .i64 (AS a+1);let a':=take (zm (length a) (toNat c')) (drop (toNat c') a);.ite (decide (length a≤1000000)) (.ite (AS a==(length a:Int)) (.ite (DA a) (.ite true (.leaf (.tup [zz [.dat ze (Ep a),.dat (zf i64) (Eo a)],zz [.dat ze false,.dat (zf i64) (Sp.rW 1)]]) ([(zh 0 1,.box [.dat ze false,.dat (zf i64) (Sp.rW 1)]),(0,.box [.dat ze (Ep a),.dat (zf i64) (Eo a)])])) .fail) .fail) (.ite (decide (0≤AS a)&&decide (0≤toNat (AS a))&&decide (toNat (AS a)≤length a)) (.ite (decide (0≤zc .i64 (AS a+1))&&true&&decide (toNat c'≤length a)&&decide (length a≤length a)) (.ite (DA b') (.ite (DA a') (.leaf (.tup [zz [.dat ze (Ep b'),.dat (zf i64) (Eo b')],zz [.dat ze (Ep a'),.dat (zf i64) (Eo a')]]) ([(zh 0 1,.box [.dat ze (Ep a'),.dat (zf i64) (Eo a')]),(0,.box [.dat ze (Ep b'),.dat (zf i64) (Eo b')])])) .fail) .fail) .fail) .fail)) .fail:=by kernel_rfl
end T169
end
end Go.Pe
end
section
namespace Go.Pe
open Sp
open Go.Det
noncomputable section
open List Int Prod
namespace T128
def T(a:List UInt8):Tr:=tree QH false 9 128 (Ag ([zd]) a)
def L1(v0 v3:List UInt8):Tr:=re ((T []).L.L.L.L) (Al 96 [(0,.dat zd v0),(3,.dat zd v3)] [] 0)
theorem Ap(a:List UInt8):T a=.ite (decide ((length a:Int)>0)) (.ite (decide (0<(length a:Int))) (.ite ((↑(zi (getD a 0 (0:UInt8))):Int)==45) (.ite (decide (1≤length a)&&decide (length a≤length a)) (L1 a (take (zm (length a) 1) (drop 1 a))) .fail) (L1 a a)) .fail) (L1 a a):=by kernel_rfl
def L2(v3:List UInt8)(v4:Int):Tr:=re ((stepT QH (L1 [] [])).L.L.L.R.L.L.L.R) (Al 96 [(3,.dat zd v3),(4,.dat i64 v4)] [] 0)
theorem Ai(v0 v3:List UInt8):stepT QH (L1 v0 v3)=let b':=AS v3;let c':Tr:=.leaf (.dat i64 (1:Int)) [];let a':=decide (0≤AS v3)&&decide (0≤toNat b')&&decide (toNat b'≤length v3);.ite (decide (length v3≤1000000)) (.ite a' (.ite (decide (length (take (toNat b') v3)≤1000000)) (.ite (!AU (take (toNat b') v3)) c' (.ite (decide (0<(length v0:Int))) (.ite ((↑(zi (getD v0 0 (0:UInt8))):Int)==45) (.ite a' (.ite (take (toNat b') v3==[(48:UInt8)]) c' (L2 v3 b')) .fail) (L2 v3 b')) .fail)) .fail) .fail) .fail:=by kernel_rfl
def L3(v3:List UInt8)(v4:Int):Tr:=re ((stepT QH (L2 [] 0)).L.L.L.R.L.R.L.R) (Al 96 [(3,.dat zd v3),(4,.dat i64 v4)] [] 0)
theorem AN(v3:List UInt8)(v4:Int):stepT QH (L2 v3 v4)=let d':Tr:=.leaf (.dat i64 (1:Int)) [];let e':=zc .i64 (v4+1);let a':=decide (0≤zc .i64 (v4+1))&&true&&decide (toNat e'≤length v3)&&decide (length v3≤length v3);let b':=toNat e';let c':=zm (length v3) b';.ite (decide (v4<(length v3:Int))) (.ite a' (.ite (decide (length (take c' (drop b' v3))≤1000000)) (.ite (!AU (take c' (drop b' v3))) d' (.ite a' (.ite (take c' (drop b' v3)==[(48:UInt8)]) d' (.ite a' (.ite (take c' (drop b' v3)==[(49:UInt8)]) d' (L3 v3 v4)) .fail)) .fail)) .fail) .fail) (L3 v3 v4):=by kernel_rfl
def L4(v3:List UInt8)(v4:Int):Tr:=re ((stepT QH (L3 [] 0)).R.R) (Al 96 [(3,.dat zd v3),(4,.dat i64 v4)] [] 0)
theorem Bk(v3:List UInt8)(v4:Int):stepT QH (L3 v3 v4)=let a':Tr:=.leaf (.dat i64 (4:Int)) [];.ite (decide (v4>600)) a' (.ite (decide (zc .i64 (zc .i64 ((length v3:Int)-v4)-1)>600)) a' (L4 v3 v4)):=by kernel_rfl
def L5(o1:Bool)(o1_1:List Int)(o0:Bool)(o0_1:List Int):Tr:=re ((stepT QH (L4 [] 0)).L.L) (Al 96 [(5,.ptr 0 0),(6,.ptr 1 0)] [(1,.box [.dat ze o1,.dat (zf i64) o1_1]),(0,.box [.dat ze o0,.dat (zf i64) o0_1])] 2)
theorem BA(v3:List UInt8)(v4:Int):stepT QH (L4 v3 v4)=.ite (decide (v4<(length v3:Int))) (.ite (Jg v3) (L5 (G3 v3) (Fs v3) (G0 v3) (FA v3)) .fail) (.leaf (.dat i64 (0:Int)) []):=by kernel_rfl
def L6(v7:List Int):Tr:=re ((stepT QH (L5 false [] false [])).L) (Al 96 [(7,.dat (zf i64) v7)] [] 0)
theorem CF(o1:Bool)(o1_1:List Int)(o0:Bool)(o0_1:List Int):stepT QH (L5 o1 o1_1 o0 o0_1)=.ite (Cu o0_1&&Cu o1_1&&decide (length o0_1≤9000)&&decide (length o1_1≤9000)) (L6 (Ly o0_1 o1_1)) .fail:=by kernel_rfl
theorem C2(v7:List Int):stepT QH (L6 v7)=let a':Tr:=.leaf (.dat i64 (1:Int)) [];.ite ((length v7:Int) !=1) a' (.ite (decide (0<(length v7:Int))) (.ite (getD v7 0 0 !=1) a' (.leaf (.dat i64 (0:Int)) [])) .fail):=by kernel_rfl
end T128
end
end Go.Pe
end
section
namespace Go.Pe
open Sp
open Go.Det
noncomputable section
open List Int Prod
namespace T179
def T(l:List Int):Tr:=tree Ib false 9 179 (Ag ([zf i64]) l)
def L1(v5:List Int)(v6 v7:Int):Tr:=re ((T [])) (Al 15 [(5,.dat (zf i64) v5),(6,.dat i64 v6),(7,.dat i64 v7)] [] 0)
theorem Ap(l:List Int):T l=L1 l ((length l:Int)) 0:=by kernel_rfl
theorem Ai(v5:List Int)(v6 v7:Int):stepT Ib (L1 v5 v6 v7)=.ite (decide (v7<v6)) (.ite (decide (0≤v7)&&decide (v7<(length v5:Int))) (.ite (getD v5 (toNat v7) 0 !=0) (.leaf (.dat i64 (getD v5 (toNat v7) 0)) []) (L1 v5 v6 (zc .i64 (v7+1)))) .fail) (.leaf (.dat i64 (0:Int)) []):=by kernel_rfl
end T179
namespace T180
def T(b:Bool)(e:Int):Tr:=tree Ib false 9 180 (Ag ([ze,zj zk]) (b,e))
theorem Ap(b:Bool)(e:Int):T b e=.ite b (.leaf (.dat i64 e) []) (.leaf (.dat i64 (0:Int)) []):=by kernel_rfl
end T180
namespace T136
def T(a:List UInt8):Tr:=tree JP false 9 136 (Ag ([zd]) a)
def L1(v5 v6:List UInt8)(v7:Bool):Tr:=re ((T []).L.L.L.L.L) (Al 76 [(5,.dat zd v5),(6,.dat zd v6),(7,.dat ze v7),(8,.bl true)] [] 0)
def L2(v5 v6:List UInt8)(v7 v8:Bool):Tr:=re ((T []).L.L.L.L.R) (Al 76 [(5,.dat zd v5),(6,.dat zd v6),(7,.dat ze v7),(8,.dat ze v8)] [] 0)
def L3(v5 v6:List UInt8)(v7:Bool):Tr:=re ((T []).L.L.L.R) (Al 76 [(5,.dat zd v5),(6,.dat zd v6),(7,.dat ze v7),(8,.bl false)] [] 0)
theorem Ap(a:List UInt8):T a=let a':=Ay (A3 a);let b':=Sp.AG (A3 a);let c':=Bz (A3 a);.ite (YJ a [(45:UInt8)]) (.ite (fV (A3 a) [(47:UInt8)]) (.ite (decide (length a'≤1000000)) (.ite (AU a') (.ite (!Sp.preB a) (L1 a' b' c') (L2 a' b' c' (!Ay (A3 a)==[(48:UInt8)]))) (L3 a' b' c')) .fail) .fail) .fail:=by kernel_rfl
def L4(v5 v6:List UInt8)(v7 v8:Bool):Tr:=re ((stepT JP (L1 [] [] false)).L.L.L.L) (Al 76 [(5,.dat zd v5),(6,.dat zd v6),(7,.dat ze v7),(8,.dat ze v8)] [] 0)
def L5(v5 v6:List UInt8)(v7:Bool):Tr:=re ((stepT JP (L1 [] [] false)).L.L.L.R) (Al 76 [(5,.dat zd v5),(6,.dat zd v6),(7,.dat ze v7),(8,.bl false)] [] 0)
def L6(v5 v6:List UInt8)(v7:Bool):Tr:=re ((stepT JP (L1 [] [] false)).R) (Al 76 [(5,.dat zd v5),(6,.dat zd v6),(7,.dat ze v7),(8,.bl true)] [] 0)
theorem Ai(v5 v6:List UInt8)(v7:Bool):stepT JP (L1 v5 v6 v7)=.ite v7 (.ite (decide (length v6≤1000000)) (.ite (AU v6) (.ite (!v6==[(48:UInt8)]) (L4 v5 v6 v7 (!v6==[(49:UInt8)])) (L5 v5 v6 v7)) (L5 v5 v6 v7)) .fail) (L6 v5 v6 v7):=by kernel_rfl
theorem AN(v5 v6:List UInt8)(v7 v8:Bool):stepT JP (L2 v5 v6 v7 v8)=.ite v7 (.ite v8 (.ite (decide (length v6≤1000000)) (.ite (AU v6) (.ite (!v6==[(48:UInt8)]) (L4 v5 v6 v7 (!v6==[(49:UInt8)])) (L5 v5 v6 v7)) (L5 v5 v6 v7)) .fail) (L5 v5 v6 v7)) (L4 v5 v6 v7 v8):=by kernel_rfl
theorem Bk(v5 v6:List UInt8)(v7:Bool):stepT JP (L3 v5 v6 v7)=.ite v7 (L5 v5 v6 v7) (L5 v5 v6 v7):=by kernel_rfl
def L7(v5 v6:List UInt8)(v7:Bool)(v9:Int):Tr:=re ((stepT JP (L4 [] [] false false)).L.L.L.L) (Al 76 [(5,.dat zd v5),(6,.dat zd v6),(7,.dat ze v7),(9,.dat i64 v9)] [] 0)
theorem BA(v5 v6:List UInt8)(v7 v8:Bool):stepT JP (L4 v5 v6 v7 v8)=let a':=decide (2≤2)&&true&&decide (2≤1000000);.ite true (.ite (decide ((length v5:Int)>600)) (.ite true (.ite a' (L7 v5 v6 v7 (zp [Dk (!v8) 1,Dk true 4])) .fail) .fail) (.ite true (.ite a' (L7 v5 v6 v7 (zp [Dk (!v8) 1,Dk (decide ((length v6:Int)>600)) 4])) .fail) .fail)) .fail:=by kernel_rfl
theorem CF(v5 v6:List UInt8)(v7:Bool):stepT JP (L5 v5 v6 v7)=.ite true (.ite (decide ((length v5:Int)>600)) (.ite true (.ite true (L7 v5 v6 v7 (zp [Dk true 1,Dk true 4])) .fail) .fail) (.ite true (.ite (decide (2≤2)&&true&&decide (2≤1000000)) (L7 v5 v6 v7 (zp [Dk true 1,Dk (decide ((length v6:Int)>600)) 4])) .fail) .fail)) .fail:=by kernel_rfl
theorem C2(v5 v6:List UInt8)(v7:Bool):stepT JP (L6 v5 v6 v7)=.ite true (.ite (decide ((length v5:Int)>600)) (.ite true (.ite true (L7 v5 v6 v7 (zp [Dk false 1,Dk true 4])) .fail) .fail) (.ite true (.ite (decide (2≤2)&&true&&decide (2≤1000000)) (L7 v5 v6 v7 (zp [Dk false 1,Dk (decide ((length v6:Int)>600)) 4])) .fail) .fail)) .fail:=by kernel_rfl
def L8(v5 v6:List UInt8)(v7:Bool):Tr:=re ((stepT JP (L7 [] [] false 0)).R) (Al 76 [(5,.dat zd v5),(6,.dat zd v6),(7,.dat ze v7)] [] 0)
theorem Db(v5 v6:List UInt8)(v7:Bool)(v9:Int):stepT JP (L7 v5 v6 v7 v9)=.ite (v9 !=0) (.leaf (.dat i64 v9) []) (L8 v5 v6 v7):=by kernel_rfl
def L9(v10:Bool):Tr:=re ((stepT JP (L8 [] [] false)).L.L.L.L.L.L) (Al 76 [(10,.dat ze v10)] [] 0)
def Ns:Tr:=re ((stepT JP (L8 [] [] false)).R) (Al 76 [(10,.bl false)] [] 0)
theorem EF(v5 v6:List UInt8)(v7:Bool):stepT JP (L8 v5 v6 v7)=let a':=(RM (CN v5,CV v5) (CN v6,CV v6),Sd (CN v5,CV v5) (CN v6,CV v6));.ite v7 (.ite (DA v5) (.ite (DA v6) (.ite (BR (CN v5,CV v5)&&BR (CN v6,CV v6)) (.ite true (.ite (BR a'&&BR (1,DE 1)) (L9 (VA a' (1,DE 1) !=0)) .fail) .fail) .fail) .fail) .fail) Ns:=by kernel_rfl
theorem Jl(v10:Bool):stepT JP (L9 v10)=.ite true (.leaf (.dat i64 (Dk v10 1)) []) .fail:=by kernel_rfl
theorem Hx:stepT JP Ns=.ite true (.leaf (.dat i64 (Dk false 1)) []) .fail:=by kernel_rfl
end T136
end
end Go.Pe
end
section
namespace Go.Pe
open Sp
open Go.Det
noncomputable section
open List Int Prod
namespace T182
def T(s:List UInt8):Tr:=tree NT false 9 182 (Ag ([zd]) s)
def L1(v0:List UInt8)(v3:Bool)(o1 o0:Int):Tr:=re ((T []).L.L.L.L.L.L) (Al 41 [(0,.dat zd v0),(2,.ptr 0 0),(3,.dat ze v3),(4,.ptr 1 0)] [(1,.box [.dat i64 o1,.nil]),(0,.box [.dat i64 o0,.nil])] 2)
def L2(v0:List UInt8)(o1 o0:Int):Tr:=re ((T []).R.L.L.L.L) (Al 41 [(0,.dat zd v0),(2,.ptr 0 0),(3,.bl false),(4,.ptr 1 0)] [(1,.box [.dat i64 o1,.nil]),(0,.box [.dat i64 o0,.nil])] 2)
theorem Ap(s:List UInt8):T s=let a':=take 1 s==[(45:UInt8)];let b':=decide ((length s:Int)≥1);let c':=decide (1≤length s)&&decide (length s≤length s);let d':=decide (1≤length s);let e':=take (zm (length s) 1) (drop 1 s);.ite b' (.ite d' (.ite b' (.ite d' (.ite a' (.ite c' (L1 e' a' 0 0) .fail) (L1 s a' 0 0)) .fail) (L1 s a' 0 0)) .fail) (.ite b' (.ite d' (.ite a' (.ite c' (L2 e' 0 0) .fail) (L2 s 0 0)) .fail) (L2 s 0 0)):=by kernel_rfl
def L3(v0:List UInt8)(v3:Bool)(o1 o0:Int)(v5:List UInt8)(v6:Int)(v47n:Nat)(v48 v49:Int)(o2:List Int)(o1':Int)(o0':Int):Tr:=re ((stepT NT (L1 v0 v3 o1 o0)).L.L.L.L.L.L.L.R) (Al 77 [(5,.dat zd v5),(6,.dat i64 v6),(47,.sl 2 1 0 v47n none),(48,.dat i64 v48),(49,.dat i64 v49)] [(2,.arr false 5 (zj zu) o2),(1,.box [.dat i64 o1',.nil]),(0,.box [.dat i64 o0',.nil])] 3)
theorem Ai(v0:List UInt8)(v3:Bool)(o1 o0:Int):stepT NT (L1 v0 v3 o1 o0)=let d':=(length v0:Int);let g':=zr (zj zn);let a':=take (toNat (BE 18 d')) v0;let b':=take (zm (length a') 1) (drop 1 a');let c':=(↑(length a'):Int);let e':=decide (1≤length a')&&decide (length a'≤length a');let f':=(↑(zi (getD a' 0 (0:UInt8))):Int);let h':=decide (0<c');.ite (decide (d'>0)) (.ite (decide (0≤BE 18 d')&&decide (0≤toNat (BE 18 d'))&&decide (toNat (BE 18 d')≤length v0)) (.ite h' (.ite (decide (c'<19)) (.ite h' (.ite (f'==45) (.ite e' (.ite (decide ((↑(length b'):Int)<1)) .fail (L3 v0 v3 o1 o0 a' 0 (length b') ((↑(length b'):Int)) 0 (zA (fun b=>(↑(zi b):Int)) b') o1 o0)) .fail) (.ite h' (.ite (f'==43) (.ite e' (.ite (decide ((↑(length b'):Int)<1)) .fail (L3 v0 v3 o1 o0 a' 0 (length b') ((↑(length b'):Int)) 0 (zA (fun b=>(↑(zi b):Int)) b') o1 o0)) .fail) (L3 v0 v3 o1 o0 a' 0 (length a') (c') 0 (zA (fun b=>(↑(zi b):Int)) a') o1 o0)) .fail)) .fail) (.ite false .fail .fail)) (.ite false .fail .fail)) .fail) (.ite v3 (.ite (EY (o1,[])) (.leaf (zz [.dat i64 (Hs (o1,[])),.dat g' (HC (o1,[]))]) ([(1,.box [.dat i64 o1,.nil]),(0,.box [.dat i64 (Hs (o1,[])),.dat g' (HC (o1,[]))])])) .fail) (.leaf (zz [.dat i64 o1,.nil]) ([(1,.box [.dat i64 o1,.nil]),(0,.box [.dat i64 o1,.nil])]))):=by kernel_rfl
def L4(v0:List UInt8)(o1 o0:Int)(v5:List UInt8)(v6:Int)(v47n:Nat)(v48 v49:Int)(o2:List Int)(o1':Int)(o0':Int):Tr:=re ((stepT NT (L2 v0 o1 o0)).L.L.L.L.L.L.L.R) (Al 77 [(5,.dat zd v5),(6,.dat i64 v6),(47,.sl 2 1 0 v47n none),(48,.dat i64 v48),(49,.dat i64 v49)] [(2,.arr false 5 (zj zu) o2),(1,.box [.dat i64 o1',.nil]),(0,.box [.dat i64 o0',.nil])] 3)
theorem AN(v0:List UInt8)(o1 o0:Int):stepT NT (L2 v0 o1 o0)=let d':=(length v0:Int);let a':=take (toNat (BE 18 d')) v0;let b':=take (zm (length a') 1) (drop 1 a');let c':=(↑(length a'):Int);let e':=decide (1≤length a')&&decide (length a'≤length a');let f':=(↑(zi (getD a' 0 (0:UInt8))):Int);let g':=decide (0<c');.ite (decide (d'>0)) (.ite (decide (0≤BE 18 d')&&decide (0≤toNat (BE 18 d'))&&decide (toNat (BE 18 d')≤length v0)) (.ite g' (.ite (decide (c'<19)) (.ite g' (.ite (f'==45) (.ite e' (.ite (decide ((↑(length b'):Int)<1)) .fail (L4 v0 o1 o0 a' 0 (length b') ((↑(length b'):Int)) 0 (zA (fun b=>(↑(zi b):Int)) b') o1 o0)) .fail) (.ite g' (.ite (f'==43) (.ite e' (.ite (decide ((↑(length b'):Int)<1)) .fail (L4 v0 o1 o0 a' 0 (length b') ((↑(length b'):Int)) 0 (zA (fun b=>(↑(zi b):Int)) b') o1 o0)) .fail) (L4 v0 o1 o0 a' 0 (length a') (c') 0 (zA (fun b=>(↑(zi b):Int)) a') o1 o0)) .fail)) .fail) (.ite false .fail .fail)) (.ite false .fail .fail)) .fail) (.leaf (zz [.dat i64 o1,.nil]) ([(1,.box [.dat i64 o1,.nil]),(0,.box [.dat i64 o1,.nil])])):=by kernel_rfl
def L5(v0:List UInt8)(v3:Bool)(o1:Int)(o1_1:List Int)(o0:Int):Tr:=re ((stepT NT (L3 [] false 0 0 [] 0 0 0 0 [] 0 0)).R.L.L.L.L.L.L.L.L) (Al 41 [(0,.dat zd v0),(2,.ptr 0 0),(3,.dat ze v3),(4,.ptr 1 0)] [(1,.box [.dat i64 o1,.dat (zr (zj zn)) o1_1]),(0,.box [.dat i64 o0,.nil])] 2)
theorem Bk(v0:List UInt8)(v3:Bool)(o1 o0:Int)(v5:List UInt8)(v6:Int)(v47n:Nat)(v48 v49:Int)(o2:List Int)(o1':Int)(o0':Int):stepT NT (L3 v0 v3 o1 o0 v5 v6 v47n v48 v49 o2 o1' o0')=let b':=BE 18 (length v0:Int);let d':=(zc .i64 (0-v6),DE (zc .i64 (0-v6)));let i':=getD o2 (toNat v49) 0-48;let a':=(R3 (10,DE 10) b',R2 (10,DE 10) b');let e':=decide (0≤BE 18 (length v0:Int))&&true&&decide (toNat b'≤length v0)&&decide (length v0≤length v0);let f':=take (zm (length v0) (toNat b')) (drop (toNat b') v0);let g':=BR (10,DE 10)&&W8 (Sp.vI (10,DE 10)) b';let c':=(GL (o1',[]) a',GI (o1',[]) a');let h':=BR (o1',[])&&BR a';.ite (decide (v49<v48)) (.ite (decide (0≤v49)&&decide (v49<(↑v47n:Int))) (.ite (decide (toNat v49<length o2)) (.ite (decide (zc .u8 i'>9)) .fail (L3 v0 v3 o1 o0 v5 (zc .i64 (zc .i64 (v6*10)+zc .i64 (zc .u8 i'))) v47n v48 (zc .i64 (v49+1)) o2 o1' o0')) .fail) .fail) (.ite (decide (0<(length v5:Int))) (.ite ((↑(zi (getD v5 0 (0:UInt8))):Int)==45) (.ite true (.ite g' (.ite h' (.ite true (.ite (BR c'&&BR d') (.ite e' (L5 f' v3 (Kq c' d') (Kx c' d') o0') .fail) .fail) .fail) .fail) .fail) .fail) (.ite true (.ite g' (.ite h' (.ite true (.ite (BR c'&&BR (v6,DE v6)) (.ite e' (L5 f' v3 (Kq c' (v6,DE v6)) (Kx c' (v6,DE v6)) o0') .fail) .fail) .fail) .fail) .fail) .fail)) .fail):=by kernel_rfl
def L7(v0:List UInt8)(v3:Bool)(o1:Int)(o1_1:List Int)(o0:Int)(v5:List UInt8)(v6:Int)(v47n:Nat)(v48 v49:Int)(o2:List Int)(o1':Int)(o1_1':List Int)(o0':Int):Tr:=re ((stepT NT (L5 v0 v3 o1 o1_1 o0)).L.L.L.L.L.L.L.R) (Al 77 [(5,.dat zd v5),(6,.dat i64 v6),(47,.sl 2 1 0 v47n none),(48,.dat i64 v48),(49,.dat i64 v49)] [(2,.arr false 5 (zj zu) o2),(1,.box [.dat i64 o1',.dat (zr (zj zn)) o1_1']),(0,.box [.dat i64 o0',.nil])] 3)
theorem CF(v0:List UInt8)(v3:Bool)(o1:Int)(o1_1:List Int)(o0:Int):stepT NT (L5 v0 v3 o1 o1_1 o0)=let c':=zr (zj zn);let e':=(length v0:Int);let a':=take (toNat (BE 18 e')) v0;let b':=take (zm (length a') 1) (drop 1 a');let d':=(↑(length a'):Int);let f':=decide (1≤length a')&&decide (length a'≤length a');let g':=(↑(zi (getD a' 0 (0:UInt8))):Int);let h':=decide (0<d');.ite (decide (e'>0)) (.ite (decide (0≤BE 18 e')&&decide (0≤toNat (BE 18 e'))&&decide (toNat (BE 18 e')≤length v0)) (.ite h' (.ite (decide (d'<19)) (.ite h' (.ite (g'==45) (.ite f' (.ite (decide ((↑(length b'):Int)<1)) .fail (L7 v0 v3 o1 o1_1 o0 a' 0 (length b') ((↑(length b'):Int)) 0 (zA (fun b=>(↑(zi b):Int)) b') o1 o1_1 o0)) .fail) (.ite h' (.ite (g'==43) (.ite f' (.ite (decide ((↑(length b'):Int)<1)) .fail (L7 v0 v3 o1 o1_1 o0 a' 0 (length b') ((↑(length b'):Int)) 0 (zA (fun b=>(↑(zi b):Int)) b') o1 o1_1 o0)) .fail) (L7 v0 v3 o1 o1_1 o0 a' 0 (length a') (d') 0 (zA (fun b=>(↑(zi b):Int)) a') o1 o1_1 o0)) .fail)) .fail) (.ite false .fail .fail)) (.ite false .fail .fail)) .fail) (.ite v3 (.ite (EY (o1,o1_1)) (.leaf (zz [.dat i64 (Hs (o1,o1_1)),.dat c' (HC (o1,o1_1))]) ([(1,.box [.dat i64 o1,.dat c' o1_1]),(0,.box [.dat i64 (Hs (o1,o1_1)),.dat c' (HC (o1,o1_1))])])) .fail) (.leaf (zz [.dat i64 o1,.dat c' o1_1]) ([(1,.box [.dat i64 o1,.dat c' o1_1]),(0,.box [.dat i64 o1,.dat c' o1_1])]))):=by kernel_rfl
theorem Db(v0:List UInt8)(v3:Bool)(o1:Int)(o1_1:List Int)(o0:Int)(v5:List UInt8)(v6:Int)(v47n:Nat)(v48 v49:Int)(o2:List Int)(o1':Int)(o1_1':List Int)(o0':Int):stepT NT (L7 v0 v3 o1 o1_1 o0 v5 v6 v47n v48 v49 o2 o1' o1_1' o0')=let c':=BE 18 (length v0:Int);let d':=(zc .i64 (0-v6),DE (zc .i64 (0-v6)));let i':=getD o2 (toNat v49) 0-48;let a':=(R3 (10,DE 10) c',R2 (10,DE 10) c');let e':=decide (0≤BE 18 (length v0:Int))&&true&&decide (toNat c'≤length v0)&&decide (length v0≤length v0);let f':=take (zm (length v0) (toNat c')) (drop (toNat c') v0);let g':=BR (10,DE 10)&&W8 (Sp.vI (10,DE 10)) c';let b':=(GL (o1',o1_1') a',GI (o1',o1_1') a');let h':=BR (o1',o1_1')&&BR a';.ite (decide (v49<v48)) (.ite (decide (0≤v49)&&decide (v49<(↑v47n:Int))) (.ite (decide (toNat v49<length o2)) (.ite (decide (zc .u8 i'>9)) .fail (L7 v0 v3 o1 o1_1 o0 v5 (zc .i64 (zc .i64 (v6*10)+zc .i64 (zc .u8 i'))) v47n v48 (zc .i64 (v49+1)) o2 o1' o1_1' o0')) .fail) .fail) (.ite (decide (0<(length v5:Int))) (.ite ((↑(zi (getD v5 0 (0:UInt8))):Int)==45) (.ite true (.ite g' (.ite h' (.ite true (.ite (BR b'&&BR d') (.ite e' (L5 f' v3 (Kq b' d') (Kx b' d') o0') .fail) .fail) .fail) .fail) .fail) .fail) (.ite true (.ite g' (.ite h' (.ite true (.ite (BR b'&&BR (v6,DE v6)) (.ite e' (L5 f' v3 (Kq b' (v6,DE v6)) (Kx b' (v6,DE v6)) o0') .fail) .fail) .fail) .fail) .fail) .fail)) .fail):=by kernel_rfl
end T182
end
noncomputable section
open List Int Prod
namespace T218
def T(s t:List UInt8):Tr:=tree Um false 9 218 (Ag ([zd,zd]) (s,t))
def L1(s t v0:List UInt8)(v4:Int)(o0:List Bool):Tr:=re ((T s t).R.R.L.L.R) (Al 21 [(0,.dat zd v0),(2,.ptr 0 0),(4,.dat i64 v4)] [(0,.arr false 329 ze o0)] 1)
def L2(s t v0:List UInt8)(v4:Int)(o0:List Bool):Tr:=re ((T s t).R.R.R) (Al 21 [(0,.dat zd v0),(2,.ptr 0 0),(4,.dat i64 v4)] [(0,.arr false 329 ze o0)] 1)
theorem Ap(s t:List UInt8):T s t=let a':=decide (0<(length t:Int));let b':Tr:=.leaf (.dat zd s) [];.ite (s==[]) b' (.ite (t==[]) b' (.ite ((length t:Int)==1) (.ite a' (.ite (decide ((↑(zi (getD t 0 (0:UInt8))):Int)<128)) (.ite a' (.ite a' (.ite false (.ite false b' .fail) .fail) .fail) .fail) (L1 s t t 0 Sp.eP)) .fail) (L2 s t t 0 Sp.eP))):=by kernel_rfl
def L4(s t v0:List UInt8)(v4:Int)(o0:List Bool)(v0':List UInt8)(o1:List Bool)(o0':List Bool):Tr:=re ((stepT Um (L2 s t v0 v4 o0)).R.L.L.L.L) (Al 22 [(0,.dat zd v0'),(1,.ptr 1 0)] [(1,.arr false 329 ze o1),(0,.arr false 329 ze o0')] 2)
theorem AN(s t v0:List UInt8)(v4:Int)(o0:List Bool):stepT Um (L2 s t v0 v4 o0)=let a':=(↑(zi (getD v0 (toNat v4) (0:UInt8))):Int);let b':=decide (length o0=256);let c':=decide (v4<(length v0:Int));.ite (c') (.ite (decide (0≤v4)&&c') (.ite (decide (a'≥128)) (.ite b' (.ite b' (.ite (decide (256=256)) (.ite true (.ite false (.ite false (.leaf (.dat zd s) ([(1,.arr false 329 ze (Sp.Ua o0)),(0,.arr false 329 ze (Sp.Ua o0))])) .fail) .fail) .fail) .fail) .fail) .fail) (.ite (decide ((0:Sh.T (zj zu))≤a')&&decide (a'<(↑256:Int))) (.ite (decide (toNat a'<length o0)) (L2 s t v0 (zc .i64 (v4+1)) (set o0 (toNat a') true)) .fail) .fail)) .fail) (.ite b' (.ite b' (.ite (decide (256=256)) (.ite true (L4 s t v0 v4 o0 s ((Sp.Ua o0)) ((Sp.Ua o0))) .fail) .fail) .fail) .fail):=by kernel_rfl
def L7(s t v0:List UInt8)(v4:Int)(o0:List Bool)(v0':List UInt8)(o1:List Bool)(o0':List Bool)(v0'':List UInt8)(o1':List Bool)(o0'':List Bool):Tr:=re ((stepT Um (L4 s t v0 v4 o0 v0' o1 o0')).L.L.L.L.L) (Al 16 [(0,.dat zd v0''),(1,.ptr 1 0)] [(1,.arr false 329 ze o1'),(0,.arr false 329 ze o0'')] 2)
def L8(s t v0:List UInt8)(v4:Int)(o0:List Bool)(v0':List UInt8)(o1:List Bool)(o0':List Bool)(v0'':List UInt8)(o1':List Bool)(o0'':List Bool):Tr:=re ((stepT Um (L4 s t v0 v4 o0 v0' o1 o0')).R) (Al 16 [(0,.dat zd v0''),(1,.ptr 1 0)] [(1,.arr false 329 ze o1'),(0,.arr false 329 ze o0'')] 2)
theorem BA(s t v0:List UInt8)(v4:Int)(o0:List Bool)(v0':List UInt8)(o1:List Bool)(o0':List Bool):stepT Um (L4 s t v0 v4 o0 v0' o1 o0')=let b':=(↑(length v0'):Int);let c':=zc .i64 (b'-1);let d':=decide (0≤zc .i64 (b'-1));let a':=(↑(zi (getD v0' (toNat c') (0:UInt8))):Int);.ite (decide (b'>0)) (.ite (d'&&decide (zc .i64 (b'-1)<b')) (.ite (decide ((0:Sh.T (zj zu))≤a')&&decide (a'<(↑256:Int))) (.ite (decide (toNat a'<length o1)) (.ite (!getD o1 (toNat a') false) (L7 s t v0 v4 o0 v0' o1 o0' v0' o1 o0') (.ite (d'&&decide (0≤toNat c')&&decide (toNat c'≤length v0')) (L4 s t v0 v4 o0 (take (toNat c') v0') o1 o0') .fail)) .fail) .fail) .fail) (L8 s t v0 v4 o0 v0' o1 o0' v0' o1 o0'):=by kernel_rfl
theorem Db(s t v0:List UInt8)(v4:Int)(o0:List Bool)(v0':List UInt8)(o1:List Bool)(o0':List Bool)(v0'':List UInt8)(o1':List Bool)(o0'':List Bool):stepT Um (L7 s t v0 v4 o0 v0' o1 o0' v0'' o1' o0'')=let a':=(↑(zi (getD v0'' 0 (0:UInt8))):Int);let b':Tr:=.leaf (.dat zd v0'') ([(1,.arr false 329 ze o1'),(0,.arr false 329 ze o0'')]);.ite (decide ((↑(length v0''):Int)>0)) (.ite (decide (0<(↑(length v0''):Int))) (.ite (decide ((0:Sh.T (zj zu))≤a')&&decide (a'<(↑256:Int))) (.ite (decide (toNat a'<length o1')) (.ite (!getD o1' (toNat a') false) b' (.ite (decide (1≤length v0'')&&decide (length v0''≤length v0'')) (L7 s t v0 v4 o0 v0' o1 o0' (take (zm (length v0'') 1) (drop 1 v0'')) o1' o0'') .fail)) .fail) .fail) .fail) b':=by kernel_rfl
theorem EF(s t v0:List UInt8)(v4:Int)(o0:List Bool)(v0':List UInt8)(o1:List Bool)(o0':List Bool)(v0'':List UInt8)(o1':List Bool)(o0'':List Bool):stepT Um (L8 s t v0 v4 o0 v0' o1 o0' v0'' o1' o0'')=let a':=(↑(zi (getD v0'' 0 (0:UInt8))):Int);let b':Tr:=.leaf (.dat zd v0'') ([(1,.arr false 329 ze o1'),(0,.arr false 329 ze o0'')]);.ite (decide ((↑(length v0''):Int)>0)) (.ite (decide (0<(↑(length v0''):Int))) (.ite (decide ((0:Sh.T (zj zu))≤a')&&decide (a'<(↑256:Int))) (.ite (decide (toNat a'<length o1')) (.ite (!getD o1' (toNat a') false) b' (.ite (decide (1≤length v0'')&&decide (length v0''≤length v0'')) (L8 s t v0 v4 o0 v0' o1 o0' (take (zm (length v0'') 1) (drop 1 v0'')) o1' o0'') .fail)) .fail) .fail) .fail) b':=by kernel_rfl
end T218
end
noncomputable section
open List Int Prod
namespace T178
def T(s:List UInt8):Tr:=tree nV false 9 178 (Ag ([zd]) s)
theorem Ap(s:List UInt8):T s=.ite (!s==[]) (.ite (Sp.dV s [(48:UInt8),(49:UInt8),(50:UInt8),(51:UInt8),(52:UInt8),(53:UInt8),(54:UInt8),(55:UInt8),(56:UInt8),(57:UInt8)]) (.ite (Sp.LL s==[]) (.ite (decide (0<(length s:Int))) (.ite ((↑(zi (getD s 0 (0:UInt8))):Int) !=48) (.leaf (.bl true) []) (.leaf (.dat ze (s==[(48:UInt8)])) [])) .fail) (.leaf (.bl false) [])) .fail) (.leaf (.bl false) []):=by kernel_rfl
end T178
namespace T176
def T(s t:List UInt8):Tr:=tree Ib false 9 176 (Ag ([zd,zd]) (s,t))
theorem Ap(s t:List UInt8):T s t=let a':=(length t:Int);let b':Tr:=.leaf (.tup [.dat zd s,.bl false]) [];let c':=decide (toNat a'≤length s);.ite (decide ((length s:Int)≥a')) (.ite (decide (0≤a')&&decide (0≤toNat a')&&c') (.ite (!take (toNat a') s==t) b' (.ite (decide (0≤a')&&true&&c'&&decide (length s≤length s)) (.leaf (.tup [.dat zd (take (zm (length s) (toNat a')) (drop (toNat a') s)),.bl true]) []) .fail)) .fail) b':=by kernel_rfl
end T176
end
noncomputable section
open List Int Prod
namespace T177
def T(s t:List UInt8):Tr:=tree nF false 9 177 (Ag ([zd,zd]) (s,t))
theorem Ap(s t:List UInt8):T s t=let b':=(↑(zi (getD t 0 (0:UInt8))):Int);let c':=(length t:Int);let d':Tr:=.leaf (.tup [.dat zd s,.dat zd [],.bl false]) [];let g':=decide (length s≤length s);let i':=Bi [zj zu];let e':=zc .i64 (Sp.LO s b'+c');let f':=zc .i64 ((-1)+c');let h':=zc .i64 (0+c');let j':=Sp.LO s b';let a':Tr:=.ite true (.ite (decide (0≤length s)) (.ite (decide (0≤zc .i64 (0+c'))&&true&&decide (toNat h'≤length s)&&g') (.leaf (.tup [.dat zd (take 0 s),.dat zd (take (zm (length s) (toNat h')) (drop (toNat h') s)),.bl true]) []) .fail) .fail) d';.ite (c'==0) a' (.ite (t==s) a' (.ite (c'==1) (.ite (decide (0<c')) (.ite (decide ((0:Sh.T i')≤b')&&decide (b'<(256:Sh.T i'))) (.ite (decide (Sp.LO s b'≥0)) (.ite (decide (0≤Sp.LO s b')&&decide (0≤toNat j')&&decide (toNat j'≤length s)) (.ite (decide (0≤zc .i64 (Sp.LO s b'+c'))&&true&&decide (toNat e'≤length s)&&g') (.leaf (.tup [.dat zd (take (toNat j') s),.dat zd (take (zm (length s) (toNat e')) (drop (toNat e') s)),.bl true]) []) .fail) .fail) d') .fail) .fail) (.ite (decide (c'≥(length s:Int))) (.ite false (.ite (false&&decide (0≤length s)) (.ite (decide (0≤zc .i64 ((-1)+c'))&&true&&decide (toNat f'≤length s)&&g') (.leaf (.tup [.dat zd (take 0 s),.dat zd (take (zm (length s) (toNat f')) (drop (toNat f') s)),.bl true]) []) .fail) .fail) d') .fail))):=by kernel_rfl
end T177
end
end Go.Pe
end
