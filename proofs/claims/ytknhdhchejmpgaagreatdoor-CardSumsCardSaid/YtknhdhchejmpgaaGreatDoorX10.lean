import Derived.Test.YtknhdhchejmpgaaGreatDoorX07
import Derived.Test.YtknhdhchejmpgaaGreatDoorX09
import Derived.Test.YtknhdhchejmpgaaGreatDoorX04
import Derived.IntWalk
import Derived.Test.YtknhdhchejmpgaaGreatDoorX01
import Derived.Lib.Mul64
/- A part of a proof (no law is stated here). Made by program out of texts by AI agents. -/
noncomputable section
open Go.IntKind renaming wrap -> zc, u64 -> zd, i64 -> yq, wrap_i64 -> qk
open Bool renaming and_eq_true -> ze, true_and -> yh, false_eq_true -> qg, or_eq_true -> qn
open Go.Pe.Ends renaming tt -> zf, leaf -> zh, ite -> zk, eq -> yk, ff -> ym, An -> yp
open Go.Pe.Sh renaming int -> zg, list -> z7, nlist -> yb, pair -> yz
open Int renaming eq_ofNat_of_zero_le -> zi, mul_le_mul_of_nonneg_right -> zj, toNat_natCast -> zo, fdiv -> zq, mul_assoc -> zu, mul_nonneg -> zw, lt_or_le -> ya, add_mul -> yd, mul_add -> ye, mul_le_mul_of_nonneg_left -> yf, lt_of_le_of_lt -> yi, one_mul -> yn, mul_comm -> yo, fdiv_eq_ediv_of_nonneg -> yr, le_of_lt -> yv, natCast_mul -> yx, natCast_pow -> yy, tdiv -> y7, natCast_add -> qd, tdiv_eq_ediv_of_nonneg -> qh, ediv_nonneg -> qo, mul_sub -> qp, add_assoc -> qq, pow_succ -> qu, toNat -> qv
open List renaming replicate -> zl, getD_eq_getElem?_getD -> zr, take_of_length_le -> z6, getElem?_eq_getElem -> z8, drop_eq_getElem_cons -> yj, take_length -> yu, getElem?_eq_none -> y8, append_assoc -> qi, drop_eq_nil_of_le -> ql
open Nat renaming add -> zt, mod_eq_of_lt -> qj, lt_or_ge -> qt
open Go.Sp renaming val -> yc
open BitVec renaming ofInt -> yg, ofInt_natCast -> y9, toNat_ofNat -> qe
open UInt8 renaming toNat -> yt
open Go.Pe.PV renaming agg -> yw
open List.cons renaming injEq -> qc
open Go.Lib renaming half_mul_le -> qf
open Min renaming min -> qm
namespace Go.Pe
open Go.Det
section
open Go.Proofs.Tryz (prog)
def PW(C:Ctx)(q:U6):Ctx:=⟨C.T,C.ng,C.fn,C.prim,q,false⟩
theorem TQ{C:Ctx}{P:Program}(hC:C.Ok P){q:U6}(h:Jv P q):(PW C q).Ok P where
 T:=hC.T
 fn:=hC.fn
 prim:=hC.prim
 spec:=h
theorem NR{C:Ctx}(hce:F8 C)(q:U6):F8 (PW C q):=hce
def Bh:Ctx:=PW C7 (oG dX (oG fmtS (oG iT (oG Sz (oG Yb (Gw A7))))))
theorem tM:Bh.Ok prog:=TQ YN (JS cT (JS nU (JS bM (JS VT (JS Ti spA)))))
theorem Z2:F8 Bh:=NR Kr _
def zW:List (FuncId×List (Nat×List Nat)):=
 [(15,[(14,[2,11]),(12,[2,11]),(9,[2,7,8,9,10,11,13,14]),(3,[0,1,2])]),
 (24,[(16,[]),(11,[3,4]),(9,[3,4]),(7,[3,4]),(4,[0,3])]),
 (27,[(5,[0,1])]),
 (29,[(5,[0,1])]),
 (36,[(13,[6]),(10,[0,1,6]),(5,[0,1]),(3,[0,1])]),
 (58,[(5,[0,2,7]),(6,[0,2,7]),(4,[0,2,7]),(3,[0,2])]),
 (59,[(7,[5,14,15,16]),(6,[5,14,15,16]),(4,[0])]),
 (60,[(30,[7,16,77,78,79]),(29,[7,16,18,77,78,79]),(26,[7,16,77,78,79]),(25,[7,16,77,78,79]),(22,[7,8]),(18,[1,7,8,10,29,30,31,35,36,37]),(17,[1,7,8,10,12,13,14,29,30,31,35,36,37]),(11,[1,7,8,10,29,30,31,35,36,37]),(10,[1,7,8,10,29,30,31,35,36,37]),(8,[1,7,8,29,30,31]),(7,[1,7,8,29,30,31]),(4,[0,1])]),
 (61,[(10,[1,7,16,17,18]),(7,[1,7,16,17,18]),(6,[1,7,16,17,18]),(4,[0,1])]),
 (62,[(25,[]),(8,[0,3,4]),(22,[0,3,4]),(20,[0,3,4,5]),(18,[0,3,4,5]),(16,[0,3,4,5]),(14,[0,3,4,5]),(12,[0,3,4,5]),(9,[0,3,4]),(7,[0,3,4]),(5,[0]),(3,[0])]),
 (63,[(16,[0,4,24,25,26]),(15,[0,4,8,24,25,26]),(11,[0,4,5,6,24,25,26]),(7,[0,4,24,25,26]),(6,[0,4,24,25,26]),(4,[0])]),
 (67,[(5,[0,1,5]),(6,[0,1,5]),(4,[0,1,5]),(3,[0,1])]),
 (77,[(9,[5,6,7]),(6,[5,6,7,8])]),
 (80,[(3,[2,3,4])]),
 (83,[(6,[5,6,7]),(3,[5,6,7]),(2,[5,6,7])]),
 (89,[(3,[0,3]),(4,[0,3]),(2,[0,3])]),
 (92,[(2,[0,1]),(1,[0,1])]),
 (95,[(15,[8,9]),(13,[6,8,9]),(10,[5,6,7]),(7,[5,6]),(4,[5])]),
 (96,[(9,[8,10]),(3,[2,3])]),
 (104,[(5,[2,3,4]),(3,[2,3,4])]),
 (107,[(7,[0,2,3,4,5]),(4,[0,2,3,4]),(3,[0,2,3,4])]),
 (108,[(2,[0,1]),(1,[0,1])]),
 (109,[(3,[0,1,5]),(2,[0,1,5])]),
 (133,[(3,[3]),(2,[3])]),
 (134,[(7,[3,4,5]),(4,[3,4]),(3,[3,4])]),
 (152,[(3,[2,3,4]),(2,[2,3,4])]),
 (153,[(11,[2,4]),(5,[0,2,3,4]),(4,[0,2,3,4])]),
 (162,[(3,[0,3]),(4,[0,3]),(2,[0,3])]),
 (163,[(6,[0,2,3,4]),(5,[0,2,3,4]),(4,[0,2,3])]),
 (164,[(15,[8,9,10,11,12,13]),(39,[8,9,10,11,12,13,14]),(35,[8,9,10,11,12,13,14,19,20]),(33,[8,9,10,11,12,13,14,19,20]),(20,[8,9,10,11,12,13,14,15,16]),(27,[8,9,10,11,12,13,14,15,16,18]),(21,[8,9,10,11,12,13,14,15,16]),(19,[8,9,10,11,12,13,14,15,16]),(16,[8,9,10,11,12,13]),(14,[8,9,10,11,12,13]),(11,[0,8,9,10,11]),(10,[0,8,9,10,11]),(6,[0,1]),(3,[0,1])]),
 (165,[(5,[0,3,4]),(3,[0,3,4])]),
 (167,[(10,[3]),(7,[1,3,4]),(5,[1,3,4]),(3,[1])]),
 (169,[(6,[0,1,5,6,7]),(4,[0,1,5,6,7])]),
 (170,[(7,[0,1,5]),(10,[0,1,5]),(8,[0,1,5]),(6,[0,1,5]),(5,[0,1]),(4,[])]),
 (171,[(5,[0,1,5,6,7]),(11,[0,1,5,6,7,8]),(6,[0,1,5,6,7]),(4,[0,1,5,6,7])]),
 (172,[(9,[0,1,5,6,7,8]),(7,[0,1,5,6,7,8]),(5,[0,1,5,6]),(3,[0,1,5,6])]),
 (175,[(3,[2,3,4])]),
 (176,[(12,[4,5,14,15]),(6,[2,3,4,5]),(5,[4,5,6,7])]),
 (200,[(21,[6,10,11]),(19,[6,10,11]),(18,[6,10]),(13,[3,5,6,7,9]),(11,[3,5,6,7,9]),(7,[3,4,5,6]),(6,[3,4,5,6]),(3,[1])]),
 (216,[(3,[1,2,4,5]),(6,[1,2,4,5]),(4,[1,2,4,5]),(2,[1,2,4,5])]),
 (220,[(12,[0,1,5,6,21,22]),(11,[0,1,5,6,7,8,21,22]),(7,[0,1,5,6,21,22]),(6,[0,1,5,6,21,22]),(3,[0,1])]),
 (221,[(7,[0,1,5]),(11,[]),(8,[0,1,5]),(6,[0,1,5]),(5,[0,1]),(4,[])]),
 (222,[(10,[0,1,5,6,13,14]),(9,[0,1,5,6,7,8,13,14]),(5,[0,1,5,6,13,14]),(4,[0,1,5,6,13,14])]),
 (225,[(8,[1,5,6,7,8,20,21,22,27,28,29]),(7,[1,5,6,7,8,20,21,22,27,28,29]),(4,[1,5,20,21,22]),(3,[1,5,20,21,22])]),
 (226,[(6,[0,1,6,7,8]),(4,[0,1,6,7,8])]),
 (227,[(2,[0]),(1,[0])]),
 (228,[(5,[0,1,2,7,9,10]),(4,[0,1,2,7,9,10])]),
 (230,[(26,[9,11,12,13,96,97]),(22,[9,11,12,13,96,97]),(21,[9,11,12,13,96,97]),(19,[9,10,11,12,13,14]),(17,[9,10,11,12,13,14]),(11,[0,1]),(9,[0,1,6,7,8]),(7,[0,1,6,7,8]),(3,[0,1])]),
 (260,[(3,[0,2,4]),(7,[0,2,4,5]),(4,[0,2,4]),(2,[0,2,4])]),
 (261,[(3,[0,1]),(2,[0,1]),(1,[0,1])]),
 (262,[(3,[0,1]),(2,[0,1]),(1,[0,1])]),
 (266,[(20,[0]),(19,[6]),(16,[5,6,47,48,49]),(15,[5,6,8,47,48,49]),(11,[5,6,47,48,49]),(10,[5,6,47,48,49]),(8,[0,5])]),
 (269,[(3,[0,3]),(2,[0,3])]),
 (271,[(25,[2,8,9,10,14,15,16,17,18]),(24,[2,8,9,10,14,15,16,17,18]),(18,[2,8,9,10,11,13,14,15,16]),(17,[2,8,9,10,11,13,14,15,16]),(7,[0,1,2]),(5,[0,1,2]),(3,[0,1,2])]),
 (273,[(8,[1,5,12,13,14]),(4,[1,5,12,13,14]),(3,[1,5,12,13,14])]),
 (274,[(29,[0,1,5,6,17,156,157]),(28,[0,1,5,6,17,156,157]),(26,[0,1,5,6]),(16,[0,1,5,6,11,12,104,105]),(15,[0,1,5,6,11,12,104,105]),(11,[0,1,5,6,7]),(9,[0,1,5,6,7]),(8,[0,1,5,6,7,8])])]
def uY:List FuncId:=[283]
theorem YJ:∀g∈uY,Bh.prim g=some PK.noEsc.run:=fun g h=>by
 cases h with
 |head=>kernel_rfl
 |tail _ h=>cases h
def X7(l:List (FuncId×Ao)):A0:=⟨Bh,Wn l,uJ zW,fun _ _=>false,fun _ _=>[],fun _=>none,uY,YJ⟩
def ZD(cs:List (FuncId×List Nat))(fz:List (FuncId×List (Nat×List (Nat×Sh))))(t:List (FuncId×List (Nat×List Nat)))(l:List (FuncId×Ao)):A0:=⟨Bh,Wn l,uJ (t++zW),yR cs,zR fz,fun _=>none,uY,YJ⟩
def A0.wr(X:A0)(l:List (FuncId×Kv)):A0:={ X with ws:=nM l }
end
end Go.Pe
namespace Go.Sp
def first:List Int->Int
 |[]=>0
 |x::l=>if x≠0 then x else first l
def Dp(c:Bool)(e:Int):Int:=bif c then e else 0
end Go.Sp
namespace Go.Pe
open Go.Det
abbrev i64:Sh:=.int .i64
abbrev AaM:Sh:=.list (.int .i64)
def NW:Ao:=⟨[AaM],fun l=>decide (l.length<=1000000),[i64],fun l=>Sp.first l,false⟩
def W4:Ao:=⟨[.bool,i64],fun _=>true,[i64],fun i=>Sp.Dp i.1 i.2,false⟩
section
variable {X:A0}{Q:PV->Ob->Prop}
@[simp] theorem xH:Ends X .fail Q↔False:=⟨fun⟨_,h⟩=>Ev.AA h,fun h=>h.elim⟩
@[simp] theorem Ze{v:PV}{ob:Ob}:Ends X (.leaf v ob) Q↔Q v ob:=⟨fun⟨_,h⟩=>h.Xr,fun h=>.leaf h⟩
@[simp] theorem Kw{c:Bool}{a b:Tr}:Ends X (.ite c a b) Q↔if c=true then Ends X a Q else Ends X b Q:=by
 constructor
 ·rintro⟨n,h⟩;rcases h.EB with⟨hc,h⟩|⟨hc,h⟩
  ·rw[wd hc];exact⟨n,h⟩
  ·rw[wc (by simp[hc])];exact⟨n,h⟩
 ·intro h;refine .ite (fun hc=>?_) (fun hc=>?_)
  ·rwa [wd hc]at h
  ·rwa [wc (by simp[hc])]at h
theorem Ad.of{sp:Ao}{i:(Bz sp.ins).T}{v:PV}{ob:Ob}{c:Bool}{y:(Bz sp.outs).T}(h:Qu sp.outs v ob=some (c,y))(hc:c=true)(hy:y=sp.f i):Ad sp i v ob:=⟨y,by rw[h,hc],hy⟩
@[simp] theorem PJ(s:Sh)(x:List s.T):KW (Sh.leaves (.list s)) [.dat (.list s) x]=(true,[.dat (.list s) x]):=rfl
theorem wr(x:Int)(h1: -9223372036854775808<=x)(h2:x<=9223372036854775807):zc .i64 x=x:=IntWalk.i64_in x ⟨h1,h2⟩
theorem drop_cons{α:Type}{l r:List α}{x d:α}{i:Nat}(h:l.drop i=x::r):i<l.length/\l.getD i d=x/\l.drop (i+1)=r:=by
 have hlt:i<l.length:=by
  rcases qt i l.length with h1|h1
  ·exact h1
  ·rw[ql h1]at h;cases h
 have h2:=yj hlt;rw[h]at h2;simp only[qc]at h2;exact⟨hlt,by simp[hlt,h2.1],h2.2.symm⟩
end
abbrev D3(X:A0):Prop:=∀g sp,X.sp g=some sp->Ag Bh g sp
theorem Lb{X:A0}(hX:X.C=Bh)(hall:∀g sp,X.sp g=some sp->Ag Bh g sp){f:FuncId}{sp:Ao}{d:Nat}(hsp:Bh.spec f=none)(hprim:Bh.prim f=none)(hno:X.sp f=none)
  (hev:∀i,sp.pre i=true->Ends X (tree X sp.nd d f (Af sp.ins i)) (Ad sp i)) (hfn:∃i,Bh.fn f=some i) (hws:∀g w,X.ws g=some w->E6 Bh g w:=by intro _ _ h;cases h):Ag Bh f sp:=by
 have hmg:X.C.mg=false:=by rw[hX];rfl
 rw[<-hX]at*;exact Z1 hmg hall hws hsp hprim hno hev hfn
theorem Bl{α:Type}{o:Option α}(h:o.isSome=true):∃i,o=some i:=Option.isSome_iff_exists.1 h
theorem Cn{X:A0}(hall:D3 X){f:FuncId}{sp:Ao}(hev:∀i,sp.pre i=true->Ends X (tree X sp.nd 9 f (Af sp.ins i)) (Ad sp i))(hX:X.C=Bh:=by rfl)(hsp:Bh.spec f=none:=by kernel_rfl)(hprim:Bh.prim f=none:=by kernel_rfl)(hno:X.sp f=none:=by kernel_rfl)(hfn:(Bh.fn f).isSome=true:=by kernel_rfl)(hws:∀g w,X.ws g=some w->E6 Bh g w:=by intro _ _ h;cases h):Ag Bh f sp:=Lb hX hall hsp hprim hno hev (Bl hfn) hws
theorem drop_nil{α:Type}{l:List α}{i:Nat}(h:l.drop i=[])(hi:i<=l.length):i=l.length:=by
 have:=wi List.length h;simp at this;omega
theorem PT{α:Type}{l r:List α}{x:α}{i:Nat}(h:l.drop i=x::r):x∈l:=by
 have:x∈l.drop i:=by rw[h];simp
 exact List.mem_of_mem_drop this
theorem LL{α:Type}{l r:List α}{x:α}{i:Nat}(h:l.drop i=x::r):l.take (i+1)=l.take i++[x]:=by
 have h1:=(drop_cons (d:=x) h).1;have h2:=(drop_cons (d:=x) h).2.1;rw[List.take_add_one];congr 1;have:l[i]?=some x:=by
  have e:=z8 h1;rw[e];simp only[List.getD,e,Option.getD_some]at h2;rw[h2]
 rw[this];rfl
theorem AO{C:Ctx}:∀g sp,Wn [] g=some sp->Ag C g sp:=fun g sp h=>by cases h
theorem Aa{C:Ctx}{g0:FuncId}{s0:Ao}{l:List (FuncId×Ao)}(h0:Ag C g0 s0)(hl:∀g sp,Wn l g=some sp->Ag C g sp):∀g sp,Wn ((g0,s0)::l) g=some sp->Ag C g sp:=by
 intro g sp h;unfold Wn at h;cases h1:Nat.beq g0 g with
 |true=>rw[h1]at h;cases h;have:=Nat.eq_of_beq_eq_true h1;subst this;exact h0
 |false=>rw[h1]at h;exact hl g sp h
theorem G3{f:FuncId}{s t:List Sh}{g:(Bz s).T->(Bz t).T}{nd:Bool}(hprim:Bh.prim f=none)(hfn:∃i,Bh.fn f=some i):Ag Bh f ⟨s,fun _=>false,t,g,nd⟩:=
 .zZ ⟨hprim,hfn,fun F h args i _ _ _ _ hp=>by cases hp⟩
theorem DH{α:Type}(A B:List α)(x d:α){n:Nat}(h:A.length=n):(A++x::B).getD n d=x:=by
 subst h;simp[List.getD]
theorem Dg{α:Type}(A B:List α)(x y:α){n:Nat}(h:A.length=n):(A++x::B).set n y=A++y::B:=by
 subst h;simp
end Go.Pe
namespace Go.Sp
open Go.Pe (Ew imax)
theorem iE(a b:Int):Ew a b=min a b:=by unfold Ew;split<;>omega
end Go.Sp
namespace Go.Sp
abbrev Ai:Nat:=18446744073709551616
abbrev AR:=Int×List Int
def CR(l:List Int):Bool:=decide (l.length<=20000)&&l.all fun d=>decide (0<=d)&&decide (d<18446744073709551616)
def hW(l:List Int):Bool:=CR l&&decide (l.length<=9000)
def tH(l:List Int):Bool:=decide (l.getLast?≠some 0)
def B5(l:List Int):Bool:=CR l&&tH l
def Ak(l:List Int):Int:=val Ai l
def Bq(n:Int):List Int:=dg Ai n
def u64(n:Int):Bool:=decide (0<=n)&&decide (n<18446744073709551616)
def CD(n:Int):Bool:=decide (-9223372036854775808<=n)&&decide (n<9223372036854775808)
def Ae(n:Int):Int:=if n<0 then -n else n
theorem Ah(n:Int):Ae n=(n.natAbs:Int):=by unfold Ae;split<;>omega
def vI(a:AR):Int:=if a.2=[]then a.1 else if a.1<0 then -Ak a.2 else Ak a.2
def Dk(a:AR):Bool:=CD a.1&&(decide (a.2=[])||(B5 a.2&&(decide (a.1=1)||decide (a.1= -1))&&decide (9223372036854775808<=Ak a.2)))
def CP(n:Int):AR:=if -9223372036854775808<n/\n<9223372036854775808 then(n,[])else(if n<0 then -1 else 1,Bq (Ae n))
def Cz(n:Int):Int:=(CP n).1
def Cx(n:Int):List Int:=(CP n).2
def sg(neg:Bool)(v:Int):Int:=if neg=true then -v else v
def HQ(x y c:Int):Int:=(x+y+c) % 18446744073709551616
def NS(x y c:Int):Int:=(x+y+c)/18446744073709551616
def Ta(x y c:Int):Int:=(x-y-c) % 18446744073709551616
def P4(x y c:Int):Int:=if x<y+c then 1 else 0
def Iu(x y:Int):Int:=(x*y) % 18446744073709551616
def QT(x y:Int):Int:=(x*y)/18446744073709551616
def BO(a b:Int):Int:=if a<b then -1 else if a>b then 1 else 0
def Qc(n:Int):Int:=if n<0 then -1 else if n>0 then 1 else 0
def Eo(a b:AR):AR:=if a.2=[]/\b.2=[]/\CD (a.1+b.1)=true then(a.1+b.1,[])else CP (vI a+vI b)
def Ds(a:AR):AR:=if a.2=[]/\a.1≠ -9223372036854775808 then(-a.1,[])else CP (-vI a)
def Uz(a:AR):AR:=if a.1<0 then Ds a else a
def MY(a b:AR):AR:=Eo a (Ds b)
def E1(a b:AR):AR:=CP (vI a*vI b)
def FR(a:AR):Int:=(Ds a).1
def Fv(a:AR):List Int:=(Ds a).2
def NM(a:AR):Int:=(Uz a).1
def Pd(a:AR):List Int:=(Uz a).2
def Iq(a b:AR):Int:=(Eo a b).1
def H6(a b:AR):List Int:=(Eo a b).2
def fD(a b:AR):Int:=(MY a b).1
def dI(a b:AR):List Int:=(MY a b).2
def EG(a b:AR):Int:=(E1 a b).1
def EW(a b:AR):List Int:=(E1 a b).2
end Go.Sp
namespace Go.Pe
open Sp
open Go.Det
abbrev BJ:Sh:=.pair (.int .i64) (.nlist (.int .u64))
abbrev u64:Sh:=.int .u64
abbrev C9:Sh:=.list (.int .u64)
def Wg:Ao:=⟨[u64,u64,u64],fun i=>Sp.u64 i.1&&Sp.u64 i.2.1&&decide (0<=(i.2.2:Int))&&decide ((i.2.2:Int)<=1),[u64,u64],fun i=>(HQ i.1 i.2.1 i.2.2,NS i.1 i.2.1 i.2.2),false⟩
def WD:Ao:=⟨[u64,u64,u64],fun i=>Sp.u64 i.1&&Sp.u64 i.2.1&&decide (0<=(i.2.2:Int))&&decide ((i.2.2:Int)<=1),[u64,u64],fun i=>(Ta i.1 i.2.1 i.2.2,P4 i.1 i.2.1 i.2.2),false⟩
def Sl:Ao:=⟨[u64,u64],fun i=>Sp.u64 i.1&&Sp.u64 i.2,[u64,u64],fun i=>(QT i.1 i.2,Iu i.1 i.2),false⟩
def VC:Ao:=⟨[i64],fun n=>CD n,[u64],fun n=>Ae n,false⟩
def NP:Ao:=⟨[BJ],fun a=>Dk a,[.bool,C9],fun a=>(decide (Sp.vI a<0),Bq (Ae (Sp.vI a))),false⟩
def gB:Ao:=⟨[.bool,C9],fun i=>B5 i.2,[BJ],fun i=>(Cz (Sp.sg i.1 (Ak i.2)),Cx (Sp.sg i.1 (Ak i.2))),false⟩
def V6:Ao:=⟨[C9],fun l=>CR l,[C9],fun l=>As l,false⟩
def X5:Ao:=⟨[C9,C9],fun i=>B5 i.1&&B5 i.2,[i64],fun i=>BO (Ak i.1) (Ak i.2),false⟩
def kL:Ao:=⟨[C9,C9],fun i=>Sp.hW i.1&&Sp.hW i.2,[C9],fun i=>Bq (Ak i.1+Ak i.2),false⟩
def dK:Ao:=⟨[C9,C9],fun i=>CR i.1&&CR i.2&&decide (Ak i.2<=Ak i.1),[C9],fun i=>Bq (Ak i.1-Ak i.2),false⟩
def jI:Ao:=⟨[C9,C9],fun i=>Sp.hW i.1&&Sp.hW i.2,[C9],fun i=>Bq (Ak i.1*Ak i.2),false⟩
def bZ:A0:=X7 []
def Ks:A0:=X7 [(224,VC),(268,Wg),(270,WD),(269,V6),(223,Sl)]
def XI2:A0:=X7 [(218,NP),(219,gB),(220,kL),(222,dK),(221,X5),(225,jI),(223,Sl),(224,VC)]
theorem Q9{F:Fz}{x y c:Int}{args:List V}(h:LU F (Af [Pe.u64,Pe.u64,Pe.u64] (x,y,c)) args):args=[.int .u64 x,.int .u64 y,.int .u64 c]:=by
 have:=h (fun _=>none) 0;simp only[Af,B8,Ba]at this;obtain⟨a,as1,rfl,h1,b,as2,rfl,h2,d,as3,rfl,h3,rfl⟩:=this;simp only[PR,DC,qc,wn]at h1 h2 h3;rw[h1,h2,h3]
theorem AX{n:Int}(h:Sp.u64 n=true):0<=n/\n<18446744073709551616:=by
 unfold Sp.u64 at h;rw[ze,w5,w5]at h;exact h
namespace T268
theorem ok:Ag Bh 268 Wg:=by
 refine .inr ⟨PK.add64.run,by kernel_rfl,fun F h args i ha hp=>?_⟩;obtain⟨x,y,c⟩:=i;have hp:(Sp.u64 x&&Sp.u64 y&&decide (0<=c)&&decide (c<=1))=true:=hp;rw[ze,ze,ze,w5,w5]at hp;obtain⟨⟨⟨hx,hy⟩,c0⟩,c1⟩:=hp;have hx:=AX hx;have hy:=AX hy;have:=Q9 ha;subst this;obtain⟨a,rfl⟩:=zi hx.1;obtain⟨b,rfl⟩:=zi hy.1;obtain⟨d,rfl⟩:=zi c0;have c1:(d:Int)<=1:=c1;have hd:Nat.ble d 1=true:=Nat.ble_eq_true_of_le (by omega);refine⟨.tup [.int .u64 (.ofNat ((a+b+d) % aQ)),.int .u64 (.ofNat ((a+b+d)/aQ))],?_,fun ρ N=>?_⟩
 ·show(bif Nat.ble d 1 then _ else _)=_;rw[hd];rfl
 ·show PR F ρ N (.tup [.dat Pe.u64 (HQ a b d),.dat Pe.u64 (NS a b d)]) _;simp only[PR,Ba];refine⟨_,rfl,_,_,rfl,?_,_,_,rfl,?_,rfl⟩<;>simp[DC,aQ,HQ,NS]
end T268
namespace T270
theorem ok:Ag Bh 270 WD:=by
 refine .inr ⟨PK.sub64.run,by kernel_rfl,fun F h args i ha hp=>?_⟩;obtain⟨x,y,c⟩:=i;have hp:(Sp.u64 x&&Sp.u64 y&&decide (0<=c)&&decide (c<=1))=true:=hp;rw[ze,ze,ze,w5,w5]at hp;obtain⟨⟨⟨hx,hy⟩,c0⟩,c1⟩:=hp;have hx:=AX hx;have hy:=AX hy;have:=Q9 ha;subst this;obtain⟨a,rfl⟩:=zi hx.1;obtain⟨b,rfl⟩:=zi hy.1;obtain⟨d,rfl⟩:=zi c0;have c1:(d:Int)<=1:=c1;have hd:Nat.ble d 1=true:=Nat.ble_eq_true_of_le (by omega);refine⟨.tup [.int .u64 (.ofNat ((a+aQ-b-d) % aQ)),.int .u64 (.ofNat (bif Nat.blt a (b+d)then 1 else 0))],?_,fun ρ N=>?_⟩
 ·show(bif Nat.ble d 1 then _ else _)=_;rw[hd];rfl
 ·show PR F ρ N (.tup [.dat Pe.u64 (Ta a b d),.dat Pe.u64 (P4 a b d)]) _;simp only[PR,Ba];refine⟨_,rfl,_,_,rfl,?_,_,_,rfl,?_,rfl⟩
  ·simp only[DC,aQ,Ta,qc,V.int.injEq,wn,true_and];have e:(((a+18446744073709551616-b-d) % 18446744073709551616:Nat):Int)=((a:Int)-b-d) % 18446744073709551616:=by omega
   exact e
  ·simp only[DC,P4,qc,V.int.injEq,wn,true_and];rw[GG];by_cases hlt:a<b+d
   ·rw[wd (by omega)];simp[hlt]
   ·rw[wc (by omega)];simp[hlt]
end T270
end Go.Pe
namespace Go.Sp
theorem AB(b:Int):∀(l:List Int) (i:Nat),val b (l.take (i+1))=val b (l.take i)+b^i*l.getD i 0
 |[],i=>by simp[val]
 |x::l,0=>by
  show x+b*val b (l.take 0)=0+b^0*x;simp[val]
 |x::l,i+1=>by
  have:=AB b l i;show x+b*val b (l.take (i+1))=x+b*val b (l.take i)+b^(i+1)*l.getD i 0;rw[this,ye,qu,yo (b^i) b,zu,qq]
theorem HW{l:List Int}(h:CR l=true):l.length<=20000/\Au Ai l:=by
 unfold CR at h;rw[ze,w5,List.all_eq_true]at h;exact⟨h.1,fun d hd=>by
  have:=h.2 d hd;rw[ze,w5,w5]at this;exact this⟩
theorem El{l:List Int}(h1:l.length<=20000)(h2:Au Ai l):CR l=true:=by
 unfold CR;rw[ze,w5,List.all_eq_true];exact⟨h1,fun d hd=>by
  have:=h2 d hd;rw[ze,w5,w5];exact this⟩
theorem XG{l:List Int}(h:hW l=true):l.length<=9000/\Au Ai l:=by
 unfold hW at h;rw[ze,w5]at h;exact⟨h.2,(HW h.1).2⟩
theorem AU{l:List Int}(h:Au Ai l)(i:Nat):u64 (l.getD i 0)=true:=by
 unfold u64;rw[ze,w5,w5];rcases qt i l.length with hi|hi
 ·have:l.getD i 0∈l:=by rw[zr,z8 hi];exact List.getElem_mem hi
  exact h _ this
 ·rw[zr,y8 hi];exact⟨by decide,by decide⟩
theorem AX{n:Int}(h:u64 n=true):0<=n/\n<18446744073709551616:=by
 unfold u64 at h;rw[ze,w5,w5]at h;exact h
theorem CE{n:Int}(h1:0<=n)(h2:n<18446744073709551616):u64 n=true:=by
 unfold u64;rw[ze,w5,w5];exact⟨h1,h2⟩
theorem D8{l:List Int}{x:Int}(h:Au Ai l)(hx:u64 x=true):Au Ai (l++[x]):=by
 intro d hd;rw[List.mem_append,List.mem_singleton]at hd;rcases hd with hd|rfl
 ·exact h d hd
 ·exact AX hx
theorem La{x y c:Int}(hx:u64 x=true)(hy:u64 y=true)(hc:0<=c/\c<=1):u64 (HQ x y c)=true/\(0<=NS x y c/\NS x y c<=1)/\HQ x y c+18446744073709551616*NS x y c=x+y+c:=by
 have:=AX hx;have:=AX hy;unfold HQ NS;exact⟨CE (by omega) (by omega),⟨by omega,by omega⟩,by omega⟩
theorem GO{x y c:Int}(hx:u64 x=true)(hy:u64 y=true)(hc:0<=c/\c<=1):u64 (Ta x y c)=true/\(0<=P4 x y c/\P4 x y c<=1)/\Ta x y c-18446744073709551616*P4 x y c=x-y-c:=by
 have:=AX hx;have:=AX hy;unfold Ta P4;refine⟨CE (by omega) (by omega),?_,?_⟩<;>split<;>omega
theorem EO(l:List Int)(x:Int):val Ai (l++[x])=val Ai l+(Ai:Int)^l.length*x:=by
 rw[CU];simp[val]
theorem Kk(i:Nat)(c:Int):(Ai:Int)^(i+1)*c=(Ai:Int)^i*(18446744073709551616*c):=by
 rw[qu,zu];rfl
theorem Jm(p:List Int)(n i:Nat)(x:Int)(h:p.length=i)(hi:i<n):(p++zl (n-i) (0:Int)).set i x=(p++[x])++zl (n-(i+1)) 0:=by
 have:n-i=(n-(i+1))+1:=by omega
 rw[this,List.replicate_succ,Pe.Dg p _ 0 x h,qi];rfl
theorem KM{l:List Int}(h:Au Ai l):As l=Bq (Ak l):=XI (by decide) h
end Go.Sp
namespace Go.Pe
open Sp
open Go.Det
section
open List Int Prod
namespace T224
def T(n:Int):Tr:=tree bZ false 9 224 (Af ([zg yq]) n)
theorem Am(n:Int):T n=.ite (decide (n<0)) (.leaf (.dat (zg zd) (zc .u64 (zc .i64 (0-n)))) []) (.leaf (.dat (zg zd) (zc .u64 n)) []):=by kernel_rfl
end T224
namespace T218
def T(a:Int×List Int):Tr:=tree Ks false 9 218 (Af ([yz i64 (yb (zg zd))]) a)
theorem Am(a:Int×List Int):T a=let a':=yb (zg zd);let b':=[(0,.box [.dat i64 (fst a),.dat a' (snd a)])];.ite (decide (0<length (snd a))) (.leaf (.tup [.dat Sh.bool (decide (fst a<0)),.dat a' (snd a)]) b') (.ite (fst a==0) (.leaf (.tup [.bl false,.nil]) b') (.ite (CD (fst a)) (.leaf (.tup [.dat Sh.bool (decide (fst a<0)),.sl (zt 0 1) 1 0 1 none]) ([(zt 0 1,.arr false 130 (zg zd) [Ae (fst a)]),(0,.box [.dat i64 (fst a),.dat a' (snd a)])])) .fail)):=by kernel_rfl
end T218
namespace T219
def T(neg:Bool)(w:List Int):Tr:=tree Ks false 9 219 (Af ([Sh.bool,z7 (zg zd)]) (neg,w))
theorem Am(neg:Bool)(w:List Int):T neg w=let c':=z7 (zg zd);let e':=zc .i64 (0-zc .i64 (getD w 0 0));let f':=decide (getD w 0 0<=9223372036854775807);let g':=(length w:Int);let h':=zc .i64 (getD w 0 0);let b':Tr:=.ite neg (.leaf (yw [.dat i64 (-1:Int),.dat c' w]) ([(0,.box [.dat i64 (-1:Int),.dat c' w])])) (.leaf (yw [.dat i64 (1:Int),.dat c' w]) ([(0,.box [.dat i64 (1:Int),.dat c' w])]));let d':=decide (0<g');let a':Tr:=.ite (g'==1) (.ite d' (.ite f' (.ite d' (.leaf (yw [.dat i64 h',.nil]) ([(0,.box [.dat i64 h',.nil])])) .fail) b') .fail) b';.ite (g'==0) (.leaf (yw [.dat i64 (0:Int),.nil]) ([(0,.box [.dat i64 (0:Int),.nil])])) (.ite (g'==1) (.ite d' (.ite f' (.ite neg (.ite d' (.leaf (yw [.dat i64 e',.nil]) ([(0,.box [.dat i64 e',.nil])])) .fail) a') a') .fail) a'):=by kernel_rfl
end T219
namespace T269
def T(w:List Int):Tr:=tree bZ false 9 269 (Af ([z7 (zg zd)]) w)
def L1(v0:List Int)(v3:Int):Tr:=re ((T [])) (AD 21 [(0,.dat (z7 (zg zd)) v0),(3,.dat i64 v3)] [] 0)
theorem Am(w:List Int):T w=L1 w ((length w:Int)):=by kernel_rfl
theorem Ap(v0:List Int)(v3:Int):stepT bZ (L1 v0 v3)=let a':Tr:=.ite (decide (0<=v3)&&decide (0<=toNat v3)&&decide (toNat v3<=length v0)) (.leaf (.dat (z7 (zg zd)) (take (toNat v3) v0)) []) .fail;let b':=zc .i64 (v3-1);.ite (decide (v3>0)) (.ite (decide (0<=zc .i64 (v3-1))&&decide (zc .i64 (v3-1)<(length v0:Int))) (.ite (getD v0 (toNat b') 0==0) (L1 v0 b') a') .fail) a':=by kernel_rfl
end T269
namespace T221
def T(a b:List Int):Tr:=tree bZ false 9 221 (Af ([z7 (zg zd),z7 (zg zd)]) (a,b))
def L1(v0 v1:List Int)(v5:Int):Tr:=re ((T [] []).R) (AD 41 [(0,.dat (z7 (zg zd)) v0),(1,.dat (z7 (zg zd)) v1),(5,.dat i64 v5)] [] 0)
theorem Am(a b:List Int):T a b=let a':=(length a:Int);.ite (a' !=(length b:Int)) (.ite (decide (a'<(length b:Int))) (.leaf (.dat i64 (-1:Int)) []) (.leaf (.dat i64 (1:Int)) [])) (L1 a b (zc .i64 (a'-1))):=by kernel_rfl
theorem Ap(v0 v1:List Int)(v5:Int):stepT bZ (L1 v0 v1 v5)=let a':=decide (0<=v5)&&decide (v5<(length v0:Int));let b':=decide (0<=v5)&&decide (v5<(length v1:Int));.ite (decide (v5>=0)) (.ite a' (.ite b' (.ite (getD v0 (toNat v5) 0 !=getD v1 (toNat v5) 0) (.ite a' (.ite b' (.ite (decide (getD v0 (toNat v5) 0<getD v1 (toNat v5) 0)) (.leaf (.dat i64 (-1:Int)) []) (.leaf (.dat i64 (1:Int)) [])) .fail) .fail) (L1 v0 v1 (zc .i64 (v5-1)))) .fail) .fail) (.leaf (.dat i64 (0:Int)) []):=by kernel_rfl
end T221
namespace T220
def T(x y:List Int):Tr:=tree Ks false 9 220 (Af ([z7 (zg zd),z7 (zg zd)]) (x,y))
def L1(v0 v1:List Int)(v5n:Nat)(v6 v21 v22:Int)(o0:List Int):Tr:=re ((T [] []).L.L) (AD 54 [(0,.dat (z7 (zg zd)) v0),(1,.dat (z7 (zg zd)) v1),(5,.sl 0 1 0 v5n none),(6,.dat (zg zd) v6),(21,.dat i64 v21),(22,.dat i64 v22)] [(0,.arr false 130 (zg zd) o0)] 1)
theorem Am(x y:List Int):T x y=let a':=(length x:Int);let b':=(length y:Int);let c':=zc .i64 (b'+1);let d':=zc .i64 (a'+1);.ite (decide (a'<b')) (.ite (decide (0<=zc .i64 (b'+1))&&decide (zc .i64 (b'+1)=zc .i64 (b'+1))&&decide (8*toNat c'<=281474976710656)&&decide (zc .i64 (b'+1)<9223372036854775808)) (L1 y x (toNat c') 0 (b') 0 (replicate (toNat c') 0)) .fail) (.ite (decide (0<=zc .i64 (a'+1))&&decide (zc .i64 (a'+1)=zc .i64 (a'+1))&&decide (8*toNat d'<=281474976710656)&&decide (zc .i64 (a'+1)<9223372036854775808)) (L1 x y (toNat d') 0 (a') 0 (replicate (toNat d') 0)) .fail):=by kernel_rfl
theorem Ap(v0 v1:List Int)(v5n:Nat)(v6 v21 v22:Int)(o0:List Int):stepT Ks (L1 v0 v1 v5n v6 v21 v22 o0)=let a':=getD v0 (toNat v22) 0;let b':=(length v0:Int);let d':=getD v1 (toNat v22) 0;let e':=decide (0<=v22)&&decide (v22<(↑v5n:Int));let f':=decide ((0:Sh.T (Bz [u64]))<=v6);let g':=decide (v6<=(1:Sh.T (Bz [u64])));let i':=decide (toNat v22<length o0);let j':=decide (v22<(length v1:Int));let k':=zc .i64 (v22+1);let c':=set o0 (toNat b') v6;let h':=decide (0<=v22)&&decide (v22<b');.ite (decide (v22<v21)) (.ite (j') (.ite (decide (0<=v22)&&j') (.ite h' (.ite (Sp.u64 a'&&Sp.u64 d'&&f'&&g') (.ite e' (.ite i' (L1 v0 v1 v5n (NS a' d' v6) v21 k' (set o0 (toNat v22) (HQ a' d' v6))) .fail) .fail) .fail) .fail) .fail) (.ite h' (.ite (Sp.u64 a'&&Sp.u64 0&&f'&&g') (.ite e' (.ite i' (L1 v0 v1 v5n (NS a' 0 v6) v21 k' (set o0 (toNat v22) (HQ a' 0 v6))) .fail) .fail) .fail) .fail)) (.ite (decide (0<=b')&&decide (b'<(↑v5n:Int))) (.ite (decide (toNat b'<length o0)) (.ite (decide (0+v5n<=length c')&&true&&CR (take v5n c')) (.leaf (.dat (z7 (zg zd)) (As (take v5n c'))) ([(0,.arr true 130 (zg zd) c')])) .fail) .fail) .fail):=by kernel_rfl
end T220
namespace T222
def T(x y:List Int):Tr:=tree Ks false 9 222 (Af ([z7 (zg zd),z7 (zg zd)]) (x,y))
def L1(v0 v1:List Int)(v5n:Nat)(v6 v13 v14:Int)(o0:List Int):Tr:=re ((T [] []).L) (AD 41 [(0,.dat (z7 (zg zd)) v0),(1,.dat (z7 (zg zd)) v1),(5,.sl 0 1 0 v5n none),(6,.dat (zg zd) v6),(13,.dat i64 v13),(14,.dat i64 v14)] [(0,.arr false 130 (zg zd) o0)] 1)
theorem Am(x y:List Int):T x y=let a':=(length x:Int);.ite (decide (0<=a')&&decide (a'=a')&&decide (8*toNat a'<=281474976710656)&&decide (a'<9223372036854775808)) (L1 x y (toNat a') 0 (a') 0 (replicate (toNat a') 0)) .fail:=by kernel_rfl
theorem Ap(v0 v1:List Int)(v5n:Nat)(v6 v13 v14:Int)(o0:List Int):stepT Ks (L1 v0 v1 v5n v6 v13 v14 o0)=let a':=getD v0 (toNat v14) 0;let b':=decide (0<=v14)&&decide (v14<(length v0:Int));let c':=getD v1 (toNat v14) 0;let d':=decide (0<=v14)&&decide (v14<(↑v5n:Int));let e':=decide ((0:Sh.T (Bz [u64]))<=v6);let f':=decide (v6<=(1:Sh.T (Bz [u64])));let g':=decide (toNat v14<length o0);let h':=decide (v14<(length v1:Int));let i':=zc .i64 (v14+1);.ite (decide (v14<v13)) (.ite (h') (.ite (decide (0<=v14)&&h') (.ite b' (.ite (Sp.u64 a'&&Sp.u64 c'&&e'&&f') (.ite d' (.ite g' (L1 v0 v1 v5n (P4 a' c' v6) v13 i' (set o0 (toNat v14) (Ta a' c' v6))) .fail) .fail) .fail) .fail) .fail) (.ite b' (.ite (Sp.u64 a'&&Sp.u64 0&&e'&&f') (.ite d' (.ite g' (L1 v0 v1 v5n (P4 a' 0 v6) v13 i' (set o0 (toNat v14) (Ta a' 0 v6))) .fail) .fail) .fail) .fail)) (.ite (decide (0+v5n<=length o0)&&true&&CR (take v5n o0)) (.leaf (.dat (z7 (zg zd)) (As (take v5n o0))) ([(0,.arr true 130 (zg zd) o0)])) .fail):=by kernel_rfl
end T222
namespace T223
def T(x y:Int):Tr:=tree bZ false 9 223 (Af ([zg zd,zg zd]) (x,y))
theorem Am(x y:Int):T x y=let a':=zc .u64 (zc .u64 (zq x (2^32)*HD zd y 4294967295)+zq (zc .u64 (HD zd x 4294967295*HD zd y 4294967295)) (2^32));.ite true (.ite true (.ite true (.ite true (.ite true (.leaf (.tup [.dat (zg zd) (zc .u64 (zc .u64 (zc .u64 (zq x (2^32)*zq y (2^32))+zq a' (2^32))+zq (zc .u64 (HD zd a' 4294967295+zc .u64 (HD zd x 4294967295*zq y (2^32)))) (2^32))),.dat (zg zd) (zc .u64 (x*y))]) []) .fail) .fail) .fail) .fail) .fail:=by kernel_rfl
end T223
namespace T225
def T(x y:List Int):Tr:=tree Ks false 9 225 (Af ([z7 (zg zd),z7 (zg zd)]) (x,y))
def L1(v1:List Int)(v5n:Nat)(v20:List Int)(v21 v22:Int)(o0:List Int):Tr:=re ((T [] []).L) (AD 80 [(1,.dat (z7 (zg zd)) v1),(5,.sl 0 1 0 v5n none),(20,.dat (z7 (zg zd)) v20),(21,.dat i64 v21),(22,.dat i64 v22)] [(0,.arr false 130 (zg zd) o0)] 1)
theorem Am(x y:List Int):T x y=let a':=(length x:Int)+(length y:Int);let b':=zc .i64 a';.ite (decide (0<=zc .i64 a')&&decide (zc .i64 a'=zc .i64 a')&&decide (8*toNat b'<=281474976710656)&&decide (zc .i64 a'<9223372036854775808)) (L1 y (toNat b') x ((length x:Int)) 0 (replicate (toNat b') 0)) .fail:=by kernel_rfl
def L2(v1:List Int)(v5n:Nat)(v6 v7 v8:Int)(v20:List Int)(v21 v22:Int)(v27:List Int)(v28 v29:Int)(o0:List Int):Tr:=re ((stepT Ks (L1 [] 0 [] 0 0 [])).L.L) (AD 80 [(1,.dat (z7 (zg zd)) v1),(5,.sl 0 1 0 v5n none),(6,.dat i64 v6),(7,.dat (zg zd) v7),(8,.dat (zg zd) v8),(20,.dat (z7 (zg zd)) v20),(21,.dat i64 v21),(22,.dat i64 v22),(27,.dat (z7 (zg zd)) v27),(28,.dat i64 v28),(29,.dat i64 v29)] [(0,.arr false 130 (zg zd) o0)] 1)
theorem Ap(v1:List Int)(v5n:Nat)(v20:List Int)(v21 v22:Int)(o0:List Int):stepT Ks (L1 v1 v5n v20 v21 v22 o0)=.ite (decide (v22<v21)) (.ite (decide (0<=v22)&&decide (v22<(length v20:Int))) (L2 v1 v5n v22 (getD v20 (toNat v22) 0) 0 v20 v21 v22 v1 ((length v1:Int)) 0 o0) .fail) (.ite (decide (0+v5n<=length o0)&&true&&CR (take v5n o0)) (.leaf (.dat (z7 (zg zd)) (As (take v5n o0))) ([(0,.arr true 130 (zg zd) o0)])) .fail):=by kernel_rfl
theorem AY(v1:List Int)(v5n:Nat)(v6 v7 v8:Int)(v20:List Int)(v21 v22:Int)(v27:List Int)(v28 v29:Int)(o0:List Int):stepT Ks (L2 v1 v5n v6 v7 v8 v20 v21 v22 v27 v28 v29 o0)=let b':=zc .i64 (v6+v29);let c':=getD v27 (toNat v29) 0;let d':=decide (0<=zc .i64 (v6+v29))&&decide (zc .i64 (v6+v29)<(↑v5n:Int));let e':=v6+(length v1:Int);let g':=decide ((0:Sh.T (Bz [u64]))<=0);let h':=decide (0<=(1:Sh.T (Bz [u64])));let f':=getD o0 (toNat b') 0;let i':=decide (toNat b'<length o0);let j':=Iu v7 c';let a':=HQ j' f' 0;.ite (decide (v29<v28)) (.ite (decide (0<=v29)&&decide (v29<(length v27:Int))) (.ite (Sp.u64 v7&&Sp.u64 c') (.ite d' (.ite i' (.ite (Sp.u64 j'&&Sp.u64 f'&&g'&&h') (.ite (Sp.u64 a'&&Sp.u64 v8&&g'&&h') (.ite d' (.ite i' (L2 v1 v5n v6 v7 (zc .u64 (zc .u64 (QT v7 c'+NS j' f' 0)+NS a' v8 0)) v20 v21 v22 v27 v28 (zc .i64 (v29+1)) (set o0 (toNat b') (HQ a' v8 0))) .fail) .fail) .fail) .fail) .fail) .fail) .fail) .fail) (.ite (decide (0<=zc .i64 e')&&decide (zc .i64 e'<(↑v5n:Int))) (.ite (decide (toNat (zc .i64 e')<length o0)) (L1 v1 v5n v20 v21 (zc .i64 (v22+1)) (set o0 (toNat (zc .i64 e')) v8)) .fail) .fail):=by kernel_rfl
end T225
end
theorem Ja:D3 bZ:=fun g sp h=>by cases h
theorem wu(x:Int)(h1:0<=x)(h2:x<=18446744073709551615):zc .u64 x=x:=IntWalk.u64_in x ⟨h1,h2⟩
theorem Ed{n:Int}(h:CD n=true): -9223372036854775808<=n/\n<9223372036854775808:=by
 unfold CD at h;rw[ze,w5,w5]at h;exact h
namespace T224
theorem ok:Ag Bh 224 VC:=by
 refine Cn Ja (fun(n:Int) hn=>?_);have hn:=Ed (n:=n) hn;refine yk (Am n) (zk (fun c=>?_) (fun c=>?_))
 ·have c:=w6 c;refine zh (Ad.of rfl rfl ?_);show zc .u64 (zc .i64 (0-n))=Ae n;simp only[Ah];rcases ya (-9223372036854775808) n with h|h
  ·rw[wr _ (by omega) (by omega),wu _ (by omega) (by omega)];omega
  ·have:n= -9223372036854775808:=by omega
   subst this;decide+kernel
 ·have c:=w7 c;refine zh (Ad.of rfl rfl ?_);show zc .u64 n=Ae n;simp only[Ah];rw[wu _ (by omega) (by omega)];omega
end T224
namespace T269
theorem Al{Q:PV->Ob->Prop}(w:List Int)(hw:w.length<=20000)(hq:∀ob,Q (.dat C9 (As w)) ob):∀(i:Nat),i<=w.length->As w=As (w.take i)->Ends bZ (L1 w i) Q
 |0,hi,he=>by
  have he:As w=[]:=he;rw[he]at hq;refine yp (Ap ..) (ym (by simp) (zf (by simp) (zh (hq _))))
 |i+1,hi,he=>by
  have e1:zc .i64 (((i+1:Nat):Int)-1)=(i:Int):=by rw[wr _ (by omega) (by omega)];omega
  have ht:w.take (i+1)=w.take i++[w.getD i 0]:=by
   rw[List.take_add_one];congr 1;rw[zr,z8 (by omega)];rfl
  refine yp (Ap ..) (zf (by simp<;>omega) ?_);rw[e1,zo];refine zf (by simp<;>omega) (zk (fun c=>?_) (fun c=>?_))
  ·have c:w.getD i 0=0:=by simpa using c
   refine Al w hw hq i (by omega) ?_;rw[he,ht,c,H9]
  ·have c:w.getD i 0≠0:=by simpa using c
   refine zf (by simp;omega) (zh ?_);have:As w=w.take (i+1):=by rw[he,ht,H8 (Yj c)]
   rw[this]at hq;exact hq _
theorem ok:Ag Bh 269 V6:=by
 refine Cn Ja (fun(w:List Int) hw=>?_);obtain⟨h1,h2⟩:=HW (l:=w) hw;refine yk (Am w) (Al w h1 (fun ob=>Ad.of rfl rfl rfl) w.length (Nat.le_refl _) (by rw[yu]))
end T269
theorem EV{l:List Int}(h:B5 l=true):l.length<=20000/\Au Ai l/\Sp.nz l:=by
 unfold B5 at h;rw[ze]at h;have:=HW h.1;exact⟨this.1,this.2,by
  have:=h.2;unfold tH at this;have:l.getLast?≠some 0:=w6 this;exact this⟩
namespace T221
theorem Al{Q:PV->Ob->Prop}(a b:List Int)(ha:Au Ai a)(hb:Au Ai b)(hl:a.length=b.length)(h2:b.length<=20000)(hq:∀ob,Q (.dat i64 (BO (Ak a) (Ak b))) ob):∀(i:Nat),i<=a.length->a.drop i=b.drop i->Ends bZ (L1 a b ((i:Int)-1)) Q
 |0,hi,he=>by
  have he:a=b:=he;have:BO (Ak a) (Ak b)=0:=by rw[he];unfold BO;simp
  rw[this]at hq;exact yp (Ap ..) (ym (by simp) (zh (hq _)))
 |i+1,hi,he=>by
  have e1:(((i+1:Nat):Int)-1)=(i:Int):=by omega
  have da:a.drop i=a.getD i 0::a.drop (i+1):=by
   rw[zr,z8 (by omega)];exact yj (by omega)
  have db:b.drop i=b.getD i 0::a.drop (i+1):=by
   rw[he,zr,z8 (by omega)];exact yj (by omega)
  have ga:=Sp.AX (AU ha i);have gb:=Sp.AX (AU hb i);rw[e1];refine yp (Ap ..) (zf (by simp) ?_);rw[zo];refine zf (by simp;omega) (zf (by simp;omega) (zk (fun c=>zf (by simp;omega) (zf (by simp;omega) (zk (fun d=>?_) (fun d=>?_)))) (fun c=>?_)))
  ·have d:=w6 d;have:=IS (b:=Ai) (by decide) ha hb da db d;have e:BO (Ak a) (Ak b)= -1:=by unfold BO;exact wd this
   rw[e]at hq;exact zh (hq _)
  ·have d:=w7 d;have c:a.getD i 0≠b.getD i 0:=by simpa using c
   have:=IS (b:=Ai) (by decide) hb ha db da (by omega);have e:BO (Ak a) (Ak b)=1:=by
    unfold BO Ak;rw[wc (by omega),wd (by omega)]
   rw[e]at hq;exact zh (hq _)
  ·have c:a.getD i 0=b.getD i 0:=by simpa using c
   rw[wr ((i:Int)-1) (by omega) (by omega)];exact Al a b ha hb hl h2 hq i (by omega) (by rw[da,db,c])
theorem ok:Ag Bh 221 X5:=by
 refine Cn Ja (fun(i:List Int×List Int) hi=>?_);obtain⟨a,b⟩:=i;have hi:(B5 a&&B5 b)=true:=hi;rw[ze]at hi;obtain⟨a1,a2,a3⟩:=EV hi.1;obtain⟨b1,b2,b3⟩:=EV hi.2;have hq:∀ob,Ad X5 (a,b) (.dat i64 (BO (Ak a) (Ak b))) ob:=fun ob=>Ad.of rfl rfl rfl
 refine yk (Am a b) (zk (fun c=>zk (fun d=>?_) (fun d=>?_)) (fun c=>?_))
 ·have d:=w6 d;have e:BO (Ak a) (Ak b)= -1:=by unfold BO;exact wd (Ex (by decide) a2 b2 b3 (by omega))
  rw[e]at hq;exact zh (hq _)
 ·have d:=w7 d;have c:(a.length:Int)≠b.length:=by simpa using c
  have:=Ex (b:=Ai) (by decide) b2 a2 a3 (by omega);have e:BO (Ak a) (Ak b)=1:=by
   unfold BO Ak;rw[wc (by omega),wd (by omega)]
  rw[e]at hq;exact zh (hq _)
 ·have c:(a.length:Int)=b.length:=by simpa using c
  rw[wr _ (by omega) (by omega)];exact Al a b a2 b2 (by omega) b1 hq a.length (Nat.le_refl _) (by rw[List.drop_length,show a.length=b.length by omega,List.drop_length])
end T221
theorem DT{a:AR}(h:Dk a=true):(-9223372036854775808<=a.1/\a.1<9223372036854775808)/\(a.2=[]\/(B5 a.2=true/\(a.1=1\/a.1= -1)/\9223372036854775808<=Ak a.2)):=by
 unfold Dk at h;rw[ze,qn,ze,ze,qn,w5,w5,w5,w5]at h;exact⟨Ed h.1,h.2.imp id fun h=>⟨h.1.1,h.1.2,h.2⟩⟩
theorem val_one(d:Int):yc Ai [d]=d:=by simp[yc]
theorem tV{d:Int}(h1:0<d)(h2:d<18446744073709551616):[d]=Bq d:=by
 have:=Ie (b:=Ai) (l:=[d]) (by decide) (fun x hx=>by rw[List.mem_singleton]at hx;subst hx;exact⟨by omega,h2⟩) (by unfold Sp.nz;simp;omega);rw[val_one]at this;exact this
theorem Ep{s:Int}:Sp.vI (s,[])=s:=by unfold Sp.vI;exact wd rfl
namespace T218
theorem ok(hall:∀g sp,Ks.sp g=some sp->Ag Bh g sp):Ag Bh 218 NP:=by
 refine Lb (X:=Ks) rfl hall (d:=9) (by kernel_rfl) (by kernel_rfl) (by kernel_rfl) (fun(a:Int×List Int) ha=>?_) (Bl (by kernel_rfl));obtain⟨hr,hw⟩:=DT (a:=a) ha;obtain⟨s,w⟩:=a;have hr: -9223372036854775808<=s/\s<9223372036854775808:=hr;refine yk (Am (s,w)) (zk (fun c=>?_) (fun c=>zk (fun d=>?_) (fun d=>zf ?_ ?_)))
 ·have c:0<w.length:=w6 c;have hne:w≠[]:=by rintro rfl;simp at c
  rcases hw with hw|⟨h1,h2,h3⟩
  ·exact wh hw hne
  ·obtain⟨n1,n2,n3⟩:=EV h1;have h2:s=1\/s= -1:=h2;have h3:9223372036854775808<=Ak w:=h3;have ev:Sp.vI (s,w)=if s<0 then -Ak w else Ak w:=by unfold Sp.vI;exact wc hne
   have e1:Ae (Sp.vI (s,w))=Ak w:=by rw[ev];simp only[Ah];split<;>omega
   have e2:decide (Sp.vI (s,w)<0)=decide (s<0):=by
    rw[ev];rcases h2 with rfl|rfl<;>simp<;>omega
   refine zh (Ad.of rfl rfl ?_);show(decide (s<0),w)=(decide (Sp.vI (s,w)<0),Bq (Ae (Sp.vI (s,w))));rw[e1,e2,show w=Bq (Ak w)from Ie (by decide) n2 n3];congr 2;exact(CS (b:=Ai) (by decide) (Ax (b:=Ai) (by decide) n2)).symm
 all_goals
  have c:¬0<w.length:=w7 c;have hn:w=[]:=List.length_eq_zero_iff.1 (by omega);subst hn
 ·have d:s=0:=by simpa using d
  subst d;exact zh (Ad.of rfl rfl rfl)
 ·show CD s=true;unfold CD;rw[ze,w5,w5];exact hr
 ·have d:s≠0:=by simpa using d
  refine zh (Ad.of rfl rfl ?_);show(decide (s<0),[Ae s])=(decide (Sp.vI (s,[])<0),Bq (Ae (Sp.vI (s,[]))));rw[Ep,tV (d:=Ae s) (by simp only[Ah];omega) (by simp only[Ah];omega)]
end T218
theorem B0{n:Int}(h: -9223372036854775808<n/\n<9223372036854775808):CP n=(n,[]):=wd h
theorem RU{w:List Int}(neg:Bool)(h1:Au Ai w)(h2:Sp.nz w)(h3:9223372036854775808<=Ak w):CP (if neg=true then -Ak w else Ak w)=(if neg=true then -1 else 1,w):=by
 have e:Bq (Ak w)=w:=(Ie (by decide) h1 h2).symm;cases neg with
 |true=>
  simp only[wk];unfold CP;rw[wc (by omega),wd (by omega)];rw[show Ae (-Ak w)=Ak w by simp only[Ah];omega,e]
 |false=>
  show CP (Ak w)=(1,w);unfold CP;rw[wc (by omega),wc (by omega)];rw[show Ae (Ak w)=Ak w by simp only[Ah];omega,e]
namespace T219
theorem ok(hall:∀g sp,Ks.sp g=some sp->Ag Bh g sp):Ag Bh 219 gB:=by
 refine Lb (X:=Ks) rfl hall (d:=9) (by kernel_rfl) (by kernel_rfl) (by kernel_rfl) (fun(i:Bool×List Int) hi=>?_) (Bl (by kernel_rfl));obtain⟨neg,w⟩:=i;obtain⟨n1,n2,n3⟩:=EV (l:=w) hi;refine yk (Am neg w) ?_;conv=>zeta
 cases w with
 |nil=>
  refine zf rfl (zh (Ad.of rfl rfl ?_));show _=CP (if neg=true then -0 else 0);rw[show(if neg=true then(-0:Int)else 0)=0 by split<;>rfl,B0 (by omega)]
 |cons d t=>
  cases t with
  |nil=>
   have hd:=n2 d (by simp);have hz:d≠0:=by intro h;subst h;exact n3 rfl
   have hd1:0<=d:=hd.1;have hd2:d<18446744073709551616:=hd.2;have ev:Ak [d]=d:=val_one d;refine ym rfl (zf rfl (zf rfl (zk (fun c=>?_) (fun c=>?_))))
   ·have c:d<=9223372036854775807:=w6 c;have e1:zc .i64 d=d:=wr _ (by omega) (by omega);have e2:zc .i64 (0-d)= -d:=by rw[wr _ (by omega) (by omega)];omega
    refine zk (fun n=>zf rfl (zh (Ad.of rfl rfl ?_))) (fun n=>zf rfl (zf rfl (zf (w4 c) (zf rfl (zh (Ad.of rfl rfl ?_))))))
    ·show(zc .i64 (0-zc .i64 d),[])=CP (if neg=true then -Ak [d]else Ak [d]);rw[e1,e2,wd n,ev,B0 (by omega)]
    ·show(zc .i64 d,[])=CP (if neg=true then -Ak [d]else Ak [d]);subst n;rw[e1,wc (by decide),ev,B0 (by omega)]
   ·have c':¬d<=9223372036854775807:=w7 c;have hb:=RU neg n2 n3 (by rw[ev];omega);refine zf rfl (zf rfl (ym c (zk (fun n=>zh (Ad.of rfl rfl ?_)) (fun n=>zh (Ad.of rfl rfl ?_)))))
    ·show(-1,[d])=CP (if neg=true then -Ak [d]else Ak [d]);rw[hb,wd n]
    ·show(1,[d])=CP (if neg=true then -Ak [d]else Ak [d]);rw[hb,n];rfl
  |cons e t=>
   have hv:9223372036854775808<=Ak (d::e::t):=by
    have h:=De (b:=Ai) (by decide) n2 n3 (by simp);have h2:=AH (b:=Ai) (by decide) (show 1<=(d::e::t).length-1 by simp);rw[Int.pow_one]at h2;have:(9223372036854775808:Int)<=(Ai:Int):=by decide
    exact Int.le_trans this (Int.le_trans h2 h)
   have hb:=RU neg n2 n3 hv;have z0:(((d::e::t).length:Int)==0)=false:=by simp;omega
   have z1:(((d::e::t).length:Int)==1)=false:=by simp;omega
   refine ym z0 (ym z1 (ym z1 (zk (fun n=>zh (Ad.of rfl rfl ?_)) (fun n=>zh (Ad.of rfl rfl ?_)))))
   ·show(-1,d::e::t)=CP (if neg=true then -Ak (d::e::t)else Ak (d::e::t));rw[hb,wd n]
   ·show(1,d::e::t)=CP (if neg=true then -Ak (d::e::t)else Ak (d::e::t));rw[hb,n];rfl
end T219
namespace T220
variable {Q:PV->Ob->Prop}
theorem Al(x y:List Int)(hx:Au Ai x)(hy:Au Ai y)(hl:y.length<=x.length)(hm:x.length<=9000)(hq:∀ob,Q (.dat C9 (Bq (Ak x+Ak y))) ob):∀(k i:Nat) (p:List Int) (c:Int),i+k=x.length->p.length=i->Au Ai p->(0<=c/\c<=1)->yc Ai p+(Ai:Int)^i*c=yc Ai (x.take i)+yc Ai (y.take i)->
  Ends Ks (L1 x y (x.length+1) c x.length i (p++zl (x.length+1-i) 0)) Q
 |0,i,p,c,hi,hp,hd,hc,he=>by
  have hi:i=x.length:=by omega
  subst hi;have er:x.length+1-x.length=1:=by omega
  have es:(p++zl (x.length+1-x.length) (0:Int)).set x.length c=p++[c]:=by
   rw[er];exact Pe.Dg p [] 0 c hp
  have ht:(p++[c]).take (x.length+1)=p++[c]:=z6 (by simp;omega);have hd':Au Ai (p++[c]):=D8 hd (CE hc.1 (by omega));have hv:Ak (p++[c])=Ak x+Ak y:=by
   unfold Ak;rw[EO,hp,he,yu,z6 hl]
  refine yp (Ap ..) (ym (by simp) ?_);rw[zo,es,ht];refine zf (by simp<;>omega) (zf (by simp;omega) (zf ?_ (zh ?_)))
  ·rw[El (by simp;omega) hd'];simp;omega
  ·rw[KM hd',hv];exact hq _
 |k+1,i,p,c,hi,hp,hd,hc,he=>by
  have gx:=AU hx i;have gy:=AU hy i;have lo:(p++zl (x.length+1-i) (0:Int)).length=x.length+1:=by simp;omega
  have step:∀z,Sp.u64 z=true->z=y.getD i 0->Ends Ks (L1 x y (x.length+1) (NS (x.getD i 0) z c) x.length (zc .i64 ((i:Int)+1)) ((p++zl (x.length+1-i) 0).set i (HQ (x.getD i 0) z c))) Q:=by
   intro z hz ez;obtain⟨a1,a2,a3⟩:=La gx hz hc;rw[wr ((i:Int)+1) (by omega) (by omega),Jm p (x.length+1) i _ hp (by omega)];refine Al x y hx hy hl hm hq k (i+1) (p++[HQ (x.getD i 0) z c]) _ (by omega) (by simp;omega) (D8 hd a1) a2 ?_;rw[EO,hp,Kk,AB _ x i,AB _ y i, <-ez,qq, <-ye,a3,ye,ye];omega
  refine yp (Ap ..) (zf (by simp;omega) ?_);rw[zo];refine zk (fun d=>?_) (fun d=>?_)
  ·have d:=w6 d;refine zf (by simp;omega) (zf (by simp;omega) (zf ?_ (zf (by simp;omega) (zf (w4 (by rw[lo];omega)) (step _ gy rfl)))));rw[gx,gy,yh,yh,ze];exact⟨w4 hc.1,w4 hc.2⟩
  ·have d:=w7 d;have hz:y.getD i 0=0:=by rw[zr,y8 (by omega)];rfl
   refine zf (by simp;omega) (zf ?_ (zf (by simp;omega) (zf (w4 (by rw[lo];omega)) (step _ rfl hz.symm))));rw[gx,show Sp.u64 0=true from rfl,yh,yh,ze];exact⟨w4 hc.1,w4 hc.2⟩
theorem start(x y:List Int)(hx:Au Ai x)(hy:Au Ai y)(hl:y.length<=x.length)(hm:x.length<=9000)(hq:∀ob,Q (.dat C9 (Bq (Ak x+Ak y))) ob){t:Tr}:
  Ends Ks (.ite (decide ((0:Int)<=zc yq ((x.length:Int)+(1:Int)))&&decide (zc yq ((x.length:Int)+(1:Int))=zc yq ((x.length:Int)+(1:Int)))&&decide ((8:Nat)*qv (zc yq ((x.length:Int)+(1:Int)))<=(281474976710656:Nat))&&decide (zc yq ((x.length:Int)+(1:Int))<(9223372036854775808:Int)))
   (L1 x y (qv (zc yq ((x.length:Int)+(1:Int)))) ((0:Int)) ((x.length:Int)) ((0:Int)) (zl (qv (zc yq ((x.length:Int)+(1:Int)))) (0:Int))) t) Q:=by
 have e1:zc .i64 ((x.length:Int)+1)=((x.length+1:Nat):Int):=by rw[wr _ (by omega) (by omega)];omega
 rw[e1,zo];refine zf (by simp;omega) ?_;exact Al x y hx hy hl hm hq x.length 0 [] 0 (by omega) rfl (fun _ h=>by cases h) (by omega) (by simp[yc])
theorem ok(hall:∀g sp,Ks.sp g=some sp->Ag Bh g sp):Ag Bh 220 kL:=by
 refine Lb (X:=Ks) rfl hall (d:=9) (by kernel_rfl) (by kernel_rfl) (by kernel_rfl) (fun(i:List Int×List Int) hi=>?_) (Bl (by kernel_rfl));obtain⟨x,y⟩:=i;have hi:(Sp.hW x&&Sp.hW y)=true:=hi;rw[ze]at hi;obtain⟨x1,x2⟩:=XG hi.1;obtain⟨y1,y2⟩:=XG hi.2;have hq:∀ob,Ad kL (x,y) (.dat C9 (Bq (Ak x+Ak y))) ob:=fun ob=>Ad.of rfl rfl rfl
 refine yk (Am x y) (zk (fun c=>?_) (fun c=>?_))
 ·have c:=w6 c;exact start y x y2 x2 (by omega) y1 (by rw[Int.add_comm];exact hq)
 ·have c:=w7 c;exact start x y x2 y2 (by omega) x1 hq
end T220
namespace T222
variable {Q:PV->Ob->Prop}
theorem gE{b:Int}(hb:0<b){l:List Int}{n:Nat}(h:Au b l)(hv:yc b l<b^n):yc b (l.take n)=yc b l:=by
 rcases qt n l.length with hn|hn
 ·have h1:=Ca b l n (by omega);have h2:=Ax (by omega) (AK h n);have h3:=Ax (by omega) (Eu h n);rcases ya 0 (yc b (l.drop n))with h4|h4
  ·have:=yf (show 1<=yc b (l.drop n)by omega) (yv (AN hb n));rw[Int.mul_one]at this;omega
  ·have:yc b (l.drop n)=0:=by omega
   rw[this,Int.mul_zero]at h1;omega
 ·rw[z6 hn]
theorem Al(x y:List Int)(hx:Au Ai x)(hy:Au Ai y)(hl:Ak y<=Ak x)(hm:x.length<=20000)(hq:∀ob,Q (.dat C9 (Bq (Ak x-Ak y))) ob):∀(k i:Nat) (p:List Int) (c:Int),i+k=x.length->p.length=i->Au Ai p->(0<=c/\c<=1)->yc Ai p-(Ai:Int)^i*c=yc Ai (x.take i)-yc Ai (y.take i)->
  Ends Ks (L1 x y x.length c x.length i (p++zl (x.length-i) 0)) Q
 |0,i,p,c,hi,hp,hd,hc,he=>by
  have hi:i=x.length:=by omega
  subst hi;have er:p++zl (x.length-x.length) (0:Int)=p:=by rw[Nat.sub_self];simp
  have ht:p.take x.length=p:=z6 (by omega);have hX:Ak x<(Ai:Int)^x.length:=Bo (by decide) hx;have hP:Ak p<(Ai:Int)^p.length:=Bo (by decide) hd;have hv:Ak p=Ak x-Ak y:=by
   rw[yu,gE (by decide) hy (show yc Ai y<_ from yi hl hX)]at he;have he:Ak p-(Ai:Int)^x.length*c=Ak x-Ak y:=he;rw[hp]at hP;rcases ya 0 c with h|h
   ·have:c=1:=by omega
    subst this;rw[Int.mul_one]at he;omega
   ·have:c=0:=by omega
    subst this;rw[Int.mul_zero]at he;omega
  rw[er];refine yp (Ap ..) (ym (by simp) ?_);rw[ht];refine zf ?_ (zh ?_)
  ·rw[El (by omega) hd];simp;omega
  ·rw[KM hd,hv];exact hq _
 |k+1,i,p,c,hi,hp,hd,hc,he=>by
  have gx:=AU hx i;have gy:=AU hy i;have lo:(p++zl (x.length-i) (0:Int)).length=x.length:=by simp;omega
  have step:∀z,Sp.u64 z=true->z=y.getD i 0->Ends Ks (L1 x y x.length (P4 (x.getD i 0) z c) x.length (zc .i64 ((i:Int)+1)) ((p++zl (x.length-i) 0).set i (Ta (x.getD i 0) z c))) Q:=by
   intro z hz ez;obtain⟨a1,a2,a3⟩:=Sp.GO gx hz hc;rw[wr ((i:Int)+1) (by omega) (by omega),Jm p x.length i _ hp (by omega)];refine Al x y hx hy hl hm hq k (i+1) (p++[Ta (x.getD i 0) z c]) _ (by omega) (by simp;omega) (D8 hd a1) a2 ?_;have e:(Ai:Int)^i*Ta (x.getD i 0) z c-(Ai:Int)^i*(18446744073709551616*P4 (x.getD i 0) z c)=(Ai:Int)^i*x.getD i 0-(Ai:Int)^i*z-(Ai:Int)^i*c:=by
    rw[<-qp,a3,qp,qp]
   rw[EO,hp,Kk,AB _ x i,AB _ y i, <-ez];omega
  refine yp (Ap ..) (zf (by simp;omega) ?_);rw[zo];refine zk (fun d=>?_) (fun d=>?_)
  ·have d:=w6 d;refine zf (by simp;omega) (zf (by simp;omega) (zf ?_ (zf (by simp;omega) (zf (w4 (by rw[lo];omega)) (step _ gy rfl)))));rw[gx,gy,yh,yh,ze];exact⟨w4 hc.1,w4 hc.2⟩
  ·have d:=w7 d;have hz:y.getD i 0=0:=by rw[zr,y8 (by omega)];rfl
   refine zf (by simp;omega) (zf ?_ (zf (by simp;omega) (zf (w4 (by rw[lo];omega)) (step _ rfl hz.symm))));rw[gx,show Sp.u64 0=true from rfl,yh,yh,ze];exact⟨w4 hc.1,w4 hc.2⟩
theorem ok(hall:∀g sp,Ks.sp g=some sp->Ag Bh g sp):Ag Bh 222 dK:=by
 refine Lb (X:=Ks) rfl hall (d:=9) (by kernel_rfl) (by kernel_rfl) (by kernel_rfl) (fun(i:List Int×List Int) hi=>?_) (Bl (by kernel_rfl));obtain⟨x,y⟩:=i;have hi:(CR x&&CR y&&decide (Ak y<=Ak x))=true:=hi;rw[ze,ze,w5]at hi;obtain⟨x1,x2⟩:=HW hi.1.1;obtain⟨y1,y2⟩:=HW hi.1.2;have hq:∀ob,Ad dK (x,y) (.dat C9 (Bq (Ak x-Ak y))) ob:=fun ob=>Ad.of rfl rfl rfl
 refine yk (Am x y) ?_;conv=>zeta
 rw[zo];refine zf (by simp;omega) ?_;exact Al x y x2 y2 hi.2 x1 hq x.length 0 [] 0 (by omega) rfl (fun _ h=>by cases h) (by omega) (by simp[yc])
end T222
theorem K9(n:Int):zc .u64 n=n % 18446744073709551616:=by simp[zc,IntKind.bits,IntKind.signed]
theorem Zr(n:Nat):zq (n:Int) ((2:Int)^(32:Nat))=((n/4294967296:Nat):Int):=by
 rw[yr _ (by decide)];rfl
theorem bR(n:Nat)(h:n<18446744073709551616):zc .u64 (n:Int)=n:=wu _ (by omega) (by omega)
theorem Pp(n:Nat)(h:n<18446744073709551616):HD .u64 (n:Int) 4294967295=((n % 4294967296:Nat):Int):=by
 have e:(yg 64 (n:Int)&&&yg 64 4294967295).toNat=n % 4294967296:=by
  rw[BitVec.toNat_and];have h1:(yg 64 (n:Int)).toNat=n:=by rw[y9,qe];exact qj h
  have h2:(yg 64 4294967295).toNat=2^32-1:=by decide
  rw[h1,h2,Nat.and_two_pow_sub_one_eq_mod]
 show zc .u64 (((yg 64 (n:Int)&&&yg 64 4294967295).toNat:Nat):Int)=_;rw[e];exact bR _ (by omega)
namespace T223
theorem ok:Ag Bh 223 Sl:=by
 refine Cn Ja (fun(i:Int×Int) hi=>?_);obtain⟨x,y⟩:=i;have hi:(Sp.u64 x&&Sp.u64 y)=true:=hi;rw[ze]at hi;have hx:=Sp.AX hi.1;have hy:=Sp.AX hi.2;obtain⟨x,rfl⟩:=zi hx.1;obtain⟨y,rfl⟩:=zi hy.1;have hx:x<18446744073709551616:=by omega
 have hy:y<18446744073709551616:=by omega
 obtain⟨m1,m2,m3,m4⟩:=Go.Lib.mul64_hi x y hx hy;have k1:=qf (a:=x/4294967296) (b:=y/4294967296) (by omega) (by omega);have k2:=qf (a:=x/4294967296) (b:=y % 4294967296) (by omega) (by omega);have k3:=qf (a:=x % 4294967296) (b:=y/4294967296) (by omega) (by omega);refine yk (Am (x:Int) (y:Int)) (zf rfl (zf rfl (zf rfl (zf rfl (zf rfl (zh (Ad.of rfl rfl ?_)))))));refine Prod.ext ?_ ?_
 ·show zc zd (zc zd (zc zd (zq (x:Int) ((2:Int)^(32:Nat))*zq (y:Int) ((2:Int)^(32:Nat)))+zq (zc zd (zc zd (zq (x:Int) ((2:Int)^(32:Nat))*HD zd (y:Int) (4294967295:Int))+zq (zc zd (HD zd (x:Int) (4294967295:Int)*HD zd (y:Int) (4294967295:Int))) ((2:Int)^(32:Nat)))) ((2:Int)^(32:Nat)))+zq (zc zd (HD zd (zc zd (zc zd (zq (x:Int) ((2:Int)^(32:Nat))*HD zd (y:Int) (4294967295:Int))+zq (zc zd (HD zd (x:Int) (4294967295:Int)*HD zd (y:Int) (4294967295:Int))) ((2:Int)^(32:Nat)))) (4294967295:Int)+zc zd (HD zd (x:Int) (4294967295:Int)*zq (y:Int) ((2:Int)^(32:Nat))))) ((2:Int)^(32:Nat)))=QT x y;have em:QT x y=((x*y/18446744073709551616:Nat):Int):=by unfold QT;omega
  rw[em, <-m4];have hlt:x*y/18446744073709551616<18446744073709551616:=Nat.div_lt_of_lt_mul (Nat.mul_lt_mul'' hx hy);rw[<-m4]at hlt;simp only[Zr,Pp x hx,Pp y hy];simp only[<-yx];generalize (x/4294967296)*(y/4294967296)=a at*;generalize (x/4294967296)*(y % 4294967296)=b at*;generalize (x % 4294967296)*(y/4294967296)=c at*;generalize (x % 4294967296)*(y % 4294967296)=d at*;rw[bR d (by omega),bR a (by omega),bR b (by omega),bR c (by omega),Zr, <-qd,bR _ m2,Zr,Pp _ m2, <-qd, <-qd,bR _ m3,Zr,bR (a+_) (by omega), <-qd,bR _ hlt]
 ·show zc .u64 ((x:Int)*y)=Iu x y;unfold Iu;exact K9 _
end T223
theorem fF{x y o c:Int}(hx:Sp.u64 x=true)(hy:Sp.u64 y=true)(ho:Sp.u64 o=true)(hc:Sp.u64 c=true):
  Sp.u64 (Iu x y)=true/\Sp.u64 (HQ (Iu x y) o 0)=true/\Sp.u64 (HQ (HQ (Iu x y) o 0) c 0)=true/\
  zc .u64 (zc .u64 (QT x y+NS (Iu x y) o 0)+NS (HQ (Iu x y) o 0) c 0)=(x*y+o+c)/18446744073709551616/\
  Sp.u64 ((x*y+o+c)/18446744073709551616)=true/\
  HQ (HQ (Iu x y) o 0) c 0+18446744073709551616*((x*y+o+c)/18446744073709551616)=x*y+o+c:=by
 have hx:=Sp.AX hx;have hy:=Sp.AX hy;have ho:=Sp.AX ho;have hc:=Sp.AX hc;have h0:0<=x*y:=zw hx.1 hy.1;have h1:x*y<=18446744073709551615*18446744073709551615:=by
  have a:=yf (show y<=18446744073709551615 by omega) hx.1;have b:=zj (show x<=18446744073709551615 by omega) (show(0:Int)<=18446744073709551615 by omega);omega
 unfold Iu QT HQ NS;generalize x*y=P at*;refine⟨CE (by omega) (by omega),CE (by omega) (by omega),CE (by omega) (by omega),?_,CE (by omega) (by omega),by omega⟩;rw[K9,K9];omega
namespace T225
variable {Q:PV->Ob->Prop}
theorem A2(x y:List Int)(n i:Nat)(hi:i<x.length)(hn:n=x.length+y.length)(hx9:x.length<=9000)(hy9:y.length<=9000)(hx:Au Ai x)(hy:Au Ai y)(p:List Int)(hp:p.length=i+y.length)(hdp:Au Ai p)
  (hq:∀q c,q.length=i+y.length->Au Ai q->Sp.u64 c=true->yc Ai q+(Ai:Int)^(i+y.length)*c=yc Ai p+(Ai:Int)^i*(x.getD i 0*yc Ai y)->Ends Ks (L1 y n x x.length ((i+1:Nat):Int) ((q++[c])++zl (n-(i+y.length+1)) 0)) Q):∀(k j:Nat) (q:List Int) (c:Int),j+k=y.length->q.length=i+j->Au Ai q->Sp.u64 c=true->yc Ai q+(Ai:Int)^(i+j)*c=yc Ai (p.take (i+j))+(Ai:Int)^i*(x.getD i 0*yc Ai (y.take j))->
  Ends Ks (L2 y n i (x.getD i 0) c x x.length i y y.length j (q++(p.drop (i+j)++zl (n-(i+y.length)) 0))) Q
 |0,j,q,c,hj,hl,hd,hc,he=>by
  have hj:j=y.length:=by omega
  subst hj;have e1:zc .i64 ((i:Int)+(y.length:Int))=((i+y.length:Nat):Int):=by rw[wr _ (by omega) (by omega)];omega
  have e2:zc .i64 ((i:Int)+1)=((i+1:Nat):Int):=by rw[wr _ (by omega) (by omega)];omega
  have ed:p.drop (i+y.length)=[]:=ql (by omega);refine yp (AY ..) (ym (by simp) ?_);rw[e1,e2,zo,ed,List.nil_append,Jm q n _ c hl (by omega)];refine zf (by simp;omega) (zf (by simp;omega) (hq q c hl hd hc ?_));rw[he,z6 (by omega),yu]
 |k+1,j,q,c,hj,hl,hd,hc,he=>by
  have gx:=AU hx i;have gy:=AU hy j;have gp:=AU hdp (i+j);have ep:p.drop (i+j)=p.getD (i+j) 0::p.drop (i+j+1):=by
   rw[zr,z8 (by omega)];exact yj (by omega)
  have e1:zc .i64 ((i:Int)+(j:Int))=((i+j:Nat):Int):=by rw[wr _ (by omega) (by omega)];omega
  have e2:zc .i64 ((j:Int)+1)=((j+1:Nat):Int):=by rw[wr _ (by omega) (by omega)];omega
  have lo:(q++(p.drop (i+j)++zl (n-(i+y.length)) (0:Int))).length=n:=by simp;omega
  have g1:(q++(p.drop (i+j)++zl (n-(i+y.length)) (0:Int))).getD (i+j) 0=p.getD (i+j) 0:=by
   rw[ep,List.cons_append];exact DH _ _ _ _ hl
  have s1:∀z,(q++(p.drop (i+j)++zl (n-(i+y.length)) (0:Int))).set (i+j) z=(q++[z])++(p.drop (i+(j+1))++zl (n-(i+y.length)) 0):=by
   intro z;rw[ep,List.cons_append,Dg _ _ _ _ hl,qi];rfl
  obtain⟨m1,m2,m3,m4,m5,m6⟩:=fF gx gy gp hc;refine yp (AY ..) (zf (by simp;omega) ?_);rw[e1,e2,zo,zo,g1,s1,m4];have t1:(decide ((0:Int)<=((i+j:Nat):Int))&&decide (((i+j:Nat):Int)<(n:Int)))=true:=by simp;omega
  refine zf (by simp;omega) (zf (by rw[gx,gy];rfl) (zf t1 (zf (w4 (by rw[lo];omega)) (zf (by rw[m1,gp];rfl) (zf (by rw[m2,hc];rfl) (zf t1 (zf (w4 (by rw[lo];omega)) ?_)))))));refine A2 x y n i hi hn hx9 hy9 hx hy p hp hdp hq k (j+1) _ _ (by omega) (by simp;omega) (D8 hd m3) m5 ?_;have ea:i+(j+1)=(i+j)+1:=by omega
  have eb:(Ai:Int)^i*(x.getD i 0*((Ai:Int)^j*y.getD j 0))=(Ai:Int)^(i+j)*(x.getD i 0*y.getD j 0):=by
   rw[Int.pow_add,zu,Int.mul_left_comm (x.getD i 0)]
  rw[ea,EO,hl,Kk,qq, <-ye,m6,AB _ p (i+j),AB _ y j,ye,ye,ye (x.getD i 0),ye,eb];omega
theorem Al(x y:List Int)(n:Nat)(hn:n=x.length+y.length)(hx9:x.length<=9000)(hy9:y.length<=9000)(hx:Au Ai x)(hy:Au Ai y)(hq:∀ob,Q (.dat C9 (Bq (Ak x*Ak y))) ob):∀(k i:Nat) (p:List Int),i+k=x.length->p.length=i+y.length->Au Ai p->yc Ai p=yc Ai (x.take i)*yc Ai y->
  Ends Ks (L1 y n x x.length i (p++zl (n-(i+y.length)) 0)) Q
 |0,i,p,hi,hp,hd,he=>by
  have hi:i=x.length:=by omega
  subst hi;have ez:p++zl (n-(x.length+y.length)) (0:Int)=p:=by rw[hn,Nat.sub_self];simp
  have hv:Ak p=Ak x*Ak y:=by
   rw[yu]at he;exact he
  rw[ez];refine yp (Ap ..) (ym (by simp) ?_);rw[z6 (by omega)];refine zf ?_ (zh ?_)
  ·rw[El (by omega) hd];simp;omega
  ·rw[KM hd,hv];exact hq _
 |k+1,i,p,hi,hp,hd,he=>by
  refine yp (Ap ..) (zf (by simp;omega) ?_);rw[zo];refine zf (by simp;omega) ?_;have h0:yc Ai (p.take (i+y.length))=yc Ai p:=by rw[z6 (by omega)]
  have:=A2 (Q:=Q) x y n i (by omega) hn hx9 hy9 hx hy p hp hd (fun q c hl hdq hc hv=>by
   have:=Al x y n hn hx9 hy9 hx hy hq k (i+1) (q++[c]) (by omega) (by simp;omega) (D8 hdq hc) (by
    rw[EO,hl,hv,he,AB,yd,zu])
   rw[show i+1+y.length=i+y.length+1 by omega]at this;exact this) y.length 0 (p.take i) 0 (by omega) (by simp;omega) (AK hd i) rfl (by simp[yc])
  rw[Nat.add_zero, <-qi,List.take_append_drop]at this;exact this
theorem ok(hall:∀g sp,Ks.sp g=some sp->Ag Bh g sp):Ag Bh 225 jI:=by
 refine Lb (X:=Ks) rfl hall (d:=9) (by kernel_rfl) (by kernel_rfl) (by kernel_rfl) (fun(i:List Int×List Int) hi=>?_) (Bl (by kernel_rfl));obtain⟨x,y⟩:=i;have hi:(Sp.hW x&&Sp.hW y)=true:=hi;rw[ze]at hi;obtain⟨x1,x2⟩:=XG hi.1;obtain⟨y1,y2⟩:=XG hi.2;have hq:∀ob,Ad jI (x,y) (.dat C9 (Bq (Ak x*Ak y))) ob:=fun ob=>Ad.of rfl rfl rfl
 have e1:zc .i64 ((x.length:Int)+(y.length:Int))=((x.length+y.length:Nat):Int):=by rw[wr _ (by omega) (by omega)];omega
 refine yk (Am x y) ?_;conv=>zeta
 rw[e1,zo];refine zf (by simp;omega) ?_;have:=Al x y (x.length+y.length) rfl x1 y1 x2 y2 hq x.length 0 (zl y.length 0) (by omega) (by simp) (fun d hd=>by
  obtain⟨_,rfl⟩:=List.mem_replicate.1 hd;exact⟨by decide,by decide⟩) (by rw[LH];simp[yc])
 rw[Nat.zero_add,List.replicate_append_replicate,show y.length+(x.length+y.length-y.length)=x.length+y.length by omega]at this;exact this
end T225
theorem Fi:D3 Ks:=
 Aa T224.ok (Aa T268.ok (Aa T270.ok (Aa T269.ok (Aa T223.ok AO))))
theorem SW:D3 XI2:=
 Aa (T218.ok Fi) (Aa (T219.ok Fi) (Aa (T220.ok Fi) (Aa (T222.ok Fi) (Aa T221.ok (Aa (T225.ok Fi) (Aa T223.ok (Aa T224.ok AO)))))))
end Go.Pe
namespace Go.Sp
def A4(a:AR):Bool:=Dk a&&decide (a.2.length<=9000)
def NZ(a b:AR):Int:=BO (vI a) (vI b)
def EN(a:AR):Int:=Qc (vI a)
end Go.Sp
namespace Go.Pe
open Sp
open Go.Det
def Td:Ao:=⟨[BJ],fun a=>Dk a,[BJ],fun a=>(FR a,Fv a),false⟩
def rD:Ao:=⟨[BJ],fun a=>Dk a,[BJ],fun a=>(NM a,Pd a),false⟩
def HZ:Ao:=⟨[BJ],fun a=>Dk a,[i64],fun a=>EN a,false⟩
def Oa:Ao:=⟨[BJ,BJ],fun i=>A4 i.1&&A4 i.2,[BJ],fun i=>(Iq i.1 i.2,H6 i.1 i.2),false⟩
def eH:Ao:=⟨[BJ,BJ],fun i=>A4 i.1&&A4 i.2,[BJ],fun i=>(fD i.1 i.2,dI i.1 i.2),false⟩
def QS:Ao:=⟨[BJ,BJ],fun i=>A4 i.1&&A4 i.2,[BJ],fun i=>(EG i.1 i.2,EW i.1 i.2),false⟩
def Ym:Ao:=⟨[BJ,BJ],fun i=>A4 i.1&&A4 i.2,[i64],fun i=>NZ i.1 i.2,false⟩
def XJ1:A0:=X7 [(174,Td),(158,Oa)]
def XJ2:A0:=X7 [(217,eH),(173,HZ)]
section
open List Int Prod
namespace T174
def T(a:Int×List Int):Tr:=tree XI2 false 9 174 (Af ([yz i64 (yb (zg zd))]) a)
theorem Am(a:Int×List Int):T a=let c':=yb (zg zd);let d':=Bq (Ae (Sp.vI (fst a,snd a)));let e':=zc .i64 (0-fst a);let b':=Sp.sg (!decide (Sp.vI (fst a,snd a)<0)) (Ak d');let a':Tr:=.ite (Dk (fst a,snd a)) (.ite (B5 d') (.leaf (yw [.dat i64 (Cz b'),.dat c' (Cx b')]) ([(zt 0 1,.box [.dat i64 (Cz b'),.dat c' (Cx b')]),(0,.box [.dat i64 (fst a),.dat c' (snd a)])])) .fail) .fail;.ite (!decide (0<length (snd a))) (.ite (fst a !=(-9223372036854775808)) (.leaf (yw [.dat i64 e',.nil]) ([(zt 0 1,.box [.dat i64 e',.nil]),(0,.box [.dat i64 (fst a),.dat c' (snd a)])])) a') a':=by kernel_rfl
end T174
namespace T158
def T(a b:Int×List Int):Tr:=tree XI2 false 9 158 (Af ([yz i64 (yb (zg zd)),yz i64 (yb (zg zd))]) (a,b))
theorem Am(a b:Int×List Int):T a b=let b':=Bq (Ae (Sp.vI (fst a,snd a)));let c':=Bq (Ae (Sp.vI (fst b,snd b)));let d':=yb (zg zd);let h':=decide (Sp.vI (fst a,snd a)<0);let i':=zc .i64 (fst a+fst b);let m':=decide (Sp.vI (fst b,snd b)<0);let j':=Bq (Ak b'+Ak c');let k':=Bq (Ak b'-Ak c');let l':=Bq (Ak c'-Ak b');let e':=Sp.sg (h') (Ak j');let f':=Sp.sg (h') (Ak k');let g':=Sp.sg (m') (Ak l');let a':Tr:=.ite (Dk (fst a,snd a)) (.ite (Dk (fst b,snd b)) (.ite (h'==m') (.ite (Sp.hW b'&&Sp.hW c') (.ite (B5 j') (.leaf (yw [.dat i64 (Cz e'),.dat d' (Cx e')]) ([(zt (zt 0 1) 1,.box [.dat i64 (Cz e'),.dat d' (Cx e')]),(zt 0 1,.box [.dat i64 (fst b),.dat d' (snd b)]),(0,.box [.dat i64 (fst a),.dat d' (snd a)])])) .fail) .fail) (.ite (B5 b'&&B5 c') (.ite (decide (BO (Ak b') (Ak c')>=0)) (.ite (CR b'&&CR c'&&decide (Ak c'<=Ak b')) (.ite (B5 k') (.leaf (yw [.dat i64 (Cz f'),.dat d' (Cx f')]) ([(zt (zt 0 1) 1,.box [.dat i64 (Cz f'),.dat d' (Cx f')]),(zt 0 1,.box [.dat i64 (fst b),.dat d' (snd b)]),(0,.box [.dat i64 (fst a),.dat d' (snd a)])])) .fail) .fail) (.ite (CR c'&&CR b'&&decide (Ak b'<=Ak c')) (.ite (B5 l') (.leaf (yw [.dat i64 (Cz g'),.dat d' (Cx g')]) ([(zt (zt 0 1) 1,.box [.dat i64 (Cz g'),.dat d' (Cx g')]),(zt 0 1,.box [.dat i64 (fst b),.dat d' (snd b)]),(0,.box [.dat i64 (fst a),.dat d' (snd a)])])) .fail) .fail)) .fail)) .fail) .fail;.ite (!decide (0<length (snd a))) (.ite (!decide (0<length (snd b))) (.ite (decide (zc .i64 (fst a+fst b)>fst a)==decide (fst b>0)) (.leaf (yw [.dat i64 i',.nil]) ([(zt (zt 0 1) 1,.box [.dat i64 i',.nil]),(zt 0 1,.box [.dat i64 (fst b),.dat d' (snd b)]),(0,.box [.dat i64 (fst a),.dat d' (snd a)])])) a') a') a':=by kernel_rfl
end T158
namespace T159
def T(a b:Int×List Int):Tr:=tree XI2 false 9 159 (Af ([yz i64 (yb (zg zd)),yz i64 (yb (zg zd))]) (a,b))
theorem Am(a b:Int×List Int):T a b=let c':=yb (zg zd);let f':=Ae (fst a);let g':=Ae (fst b);let i':=Bq (Ae (Sp.vI (fst a,snd a)));let j':=Bq (Ae (Sp.vI (fst b,snd b)));let d':=Iu f' g';let e':=Bq (Ak i'*Ak j');let b':=Sp.sg (!decide (Sp.vI (fst a,snd a)<0)==decide (Sp.vI (fst b,snd b)<0)) (Ak e');let h':=zc .i64 (0-zc .i64 d');let a':Tr:=.ite (Dk (fst a,snd a)) (.ite (Dk (fst b,snd b)) (.ite (Sp.hW i'&&Sp.hW j') (.ite (B5 e') (.leaf (yw [.dat i64 (Cz b'),.dat c' (Cx b')]) ([(zt (zt 0 1) 1,.box [.dat i64 (Cz b'),.dat c' (Cx b')]),(zt 0 1,.box [.dat i64 (fst b),.dat c' (snd b)]),(0,.box [.dat i64 (fst a),.dat c' (snd a)])])) .fail) .fail) .fail) .fail;.ite (!decide (0<length (snd a))) (.ite (!decide (0<length (snd b))) (.ite (CD (fst a)) (.ite (CD (fst b)) (.ite (Sp.u64 f'&&Sp.u64 g') (.ite (QT f' g'==0) (.ite (decide (Iu f' g'<=9223372036854775807)) (.ite (!decide (fst a<0)==decide (fst b<0)) (.leaf (yw [.dat i64 h',.nil]) ([(zt (zt 0 1) 1,.box [.dat i64 h',.nil]),(zt 0 1,.box [.dat i64 (fst b),.dat c' (snd b)]),(0,.box [.dat i64 (fst a),.dat c' (snd a)])])) (.leaf (yw [.dat i64 (zc .i64 d'),.nil]) ([(zt (zt 0 1) 1,.box [.dat i64 (zc .i64 d'),.nil]),(zt 0 1,.box [.dat i64 (fst b),.dat c' (snd b)]),(0,.box [.dat i64 (fst a),.dat c' (snd a)])]))) a') a') .fail) .fail) .fail) a') a':=by kernel_rfl
end T159
namespace T212
def T(a:Int×List Int):Tr:=tree XJ1 false 9 212 (Af ([yz i64 (yb (zg zd))]) a)
theorem Am(a:Int×List Int):T a=let a':=yb (zg zd);let b':=FR (fst a,snd a);let c':=Fv (fst a,snd a);.ite (decide (fst a<0)) (.ite (Dk (fst a,snd a)) (.leaf (yw [.dat i64 b',.dat a' c']) ([(zt 0 1,.box [.dat i64 b',.dat a' c']),(0,.box [.dat i64 (fst a),.dat a' (snd a)])])) .fail) (.leaf (yw [.dat i64 (fst a),.dat a' (snd a)]) ([(zt 0 1,.box [.dat i64 (fst a),.dat a' (snd a)]),(0,.box [.dat i64 (fst a),.dat a' (snd a)])])):=by kernel_rfl
end T212
namespace T173
def T(a:Int×List Int):Tr:=tree bZ false 9 173 (Af ([yz i64 (yb (zg zd))]) a)
theorem Am(a:Int×List Int):T a=.leaf (.dat i64 (imax (-1) (Ew 1 (fst a)))) ([(0,.box [.dat i64 (fst a),.dat (yb (zg zd)) (snd a)])]):=by kernel_rfl
end T173
namespace T217
def T(a b:Int×List Int):Tr:=tree XJ1 false 9 217 (Af ([yz i64 (yb (zg zd)),yz i64 (yb (zg zd))]) (a,b))
theorem Am(a b:Int×List Int):T a b=let a':=(FR (fst b,snd b),Fv (fst b,snd b));let b':=yb (zg zd);let c':=Iq (fst a,snd a) a';let d':=H6 (fst a,snd a) a';.ite (Dk (fst b,snd b)) (.ite (A4 (fst a,snd a)&&A4 a') (.leaf (yw [.dat i64 c',.dat b' d']) ([(zt (zt 0 1) 1,.box [.dat i64 c',.dat b' d']),(zt 0 1,.box [.dat i64 (fst b),.dat b' (snd b)]),(0,.box [.dat i64 (fst a),.dat b' (snd a)])])) .fail) .fail:=by kernel_rfl
end T217
namespace T154
def T(a b:Int×List Int):Tr:=tree XJ2 false 9 154 (Af ([yz i64 (yb (zg zd)),yz i64 (yb (zg zd))]) (a,b))
theorem Am(a b:Int×List Int):T a b=let c':=(fD (fst a,snd a) (fst b,snd b),dI (fst a,snd a) (fst b,snd b));let d':=yb (zg zd);let a':=[(zt 0 1,.box [.dat i64 (fst b),.dat d' (snd b)]),(0,.box [.dat i64 (fst a),.dat d' (snd a)])];let b':Tr:=.ite (A4 (fst a,snd a)&&A4 (fst b,snd b)) (.ite (Dk c') (.leaf (.dat i64 (EN c')) a') .fail) .fail;.ite (!decide (0<length (snd a))) (.ite (!decide (0<length (snd b))) (.ite (decide (fst a<fst b)) (.leaf (.dat i64 (-1:Int)) a') (.ite (decide (fst a>fst b)) (.leaf (.dat i64 (1:Int)) a') (.leaf (.dat i64 (0:Int)) a'))) b') b':=by kernel_rfl
end T154
end
theorem SU(k:Nat):((Ai^k:Nat):Int)=(Ai:Int)^k:=yy ..
theorem JO{n:Int}{k:Nat}(h0:0<=n)(h:n<(Ai:Int)^k):(Bq n).length<=k:=by
 refine No Ai (by decide) k n.toNat n.toNat ?_;rw[<-SU]at h;generalize Ai^k=P at*;omega
theorem CZ{n:Int}{k:Nat}(h0:0<=n)(h:n<(Ai:Int)^k)(hk:k<=20000):B5 (Bq n)=true/\CR (Bq n)=true/\Ak (Bq n)=n:=by
 have h1:=JO h0 h;have h2:CR (Bq n)=true:=El (by omega) (Fh (by decide) n);have h3:tH (Bq n)=true:=by
  unfold tH;exact w4 (Yu (by decide) n)
 exact⟨by unfold B5;rw[h2,h3];rfl,h2,CS (by decide) h0⟩
theorem Ce{a:AR}(h:A4 a=true):Dk a=true/\a.2.length<=9000:=by
 unfold A4 at h;rw[ze,w5]at h;exact h
theorem WH{s:Int}{w:List Int}(hw:w≠[]):Sp.vI (s,w)=if s<0 then -Ak w else Ak w:=by unfold Sp.vI;exact wc hw
theorem Ol{a:AR}(h:Dk a=true):(a.2=[]/\Ae (Sp.vI a)<=9223372036854775808)\/(Bq (Ae (Sp.vI a))=a.2):=by
 obtain⟨hr,hw⟩:=DT h;obtain⟨s,w⟩:=a;have hr: -9223372036854775808<=s/\s<9223372036854775808:=hr;rcases hw with hw|⟨h1,h2,h3⟩
 ·have hw:w=[]:=hw;subst hw;refine .inl ⟨rfl,?_⟩;rw[Ep];simp only[Ah];omega
 ·obtain⟨n1,n2,n3⟩:=EV (l:=w) h1;have h2:s=1\/s= -1:=h2;have h3:9223372036854775808<=Ak w:=h3;have hne:w≠[]:=by rintro rfl;exact wh h3 (by decide)
  refine .inr ?_;have e1:Ae (Sp.vI (s,w))=Ak w:=by rw[WH hne];simp only[Ah];split<;>omega
  rw[e1];exact(Ie (by decide) n2 n3).symm
theorem AE(n:Int):0<=Ae n:=by simp only[Ah];omega
theorem Is{a:AR}(h:Dk a=true){k:Nat}(hk:a.2.length<=k)(h1:1<=k):Ae (Sp.vI a)<(Ai:Int)^k:=by
 rcases Ol h with⟨_,hb⟩|he
 ·have:=AH (b:=Ai) (by decide) h1;rw[Int.pow_one]at this;have h3:(9223372036854775808:Int)<(Ai:Int):=by decide
  exact yi hb (Int.lt_of_lt_of_le h3 this)
 ·have hv:=CS (b:=Ai) (by decide) (AE (Sp.vI a));have:=Bo (b:=Ai) (by decide) (Fh (b:=Ai) (by decide) (Ae (Sp.vI a)));rw[hv,show Sp.dg Ai (Ae (Sp.vI a))=a.2 from he]at this;exact Int.lt_of_lt_of_le this (AH (by decide) hk)
theorem LA{x y:Int}(hx:0<=x)(h1:x<(Ai:Int)^9000)(h2:y<(Ai:Int)^9000):x+y<(Ai:Int)^9001/\x*y<(Ai:Int)^18000:=by
 have e1:(Ai:Int)^9001=(Ai:Int)^9000*Ai:=qu ..;have e2:(Ai:Int)^18000=(Ai:Int)^9000*(Ai:Int)^9000:=Int.pow_add _ 9000 9000;rw[e1,e2];generalize (Ai:Int)^9000=P at*;refine⟨?_,?_⟩
 ·show x+y<P*18446744073709551616;omega
 ·have a:=yf (show y<=P-1 by omega) hx;have b:=zj (show x<=P-1 by omega) (show 0<=P-1 by omega);have c:(P-1)*(P-1)=P*P-P-P+1:=by
   rw[Int.sub_mul,qp];omega
  omega
theorem Dv(n:Bool)(v:Int):Sp.sg n v=if n=true then -v else v:=rfl
theorem Cr(n:Int):Sp.vI (CP n)=n:=by
 unfold CP;split
 ·exact Ep
 ·have hv:=CS (b:=Ai) (by decide) (AE n);have hne:Bq (Ae n)≠[]:=by
   intro h;rw[show Sp.dg Ai (Ae n)=[]from h]at hv;have:(0:Int)=Ae n:=hv;simp only[Ah]at this;omega
  rw[WH hne,show Ak (Bq (Ae n))=Ae n from hv];simp only[Ah];split<;>split<;>omega
theorem Yk{a:AR}{c:Bool}(h:(!decide (0<a.2.length))=c):(c=true->a.2=[])/\(c=false->a.2≠[]):=by
 subst h;rcases a with⟨s,w⟩
 cases w<;>simp
theorem PA{a:AR}(h:(!decide (0<a.2.length))=true):a.2=[]:=(Yk h).1 rfl
theorem gZ{a:AR}(h:(!decide (0<a.2.length))=false):a.2≠[]:=(Yk h).2 rfl
theorem Bi{a:AR}(h:a.2=[]):Sp.vI a=a.1:=by unfold Sp.vI;exact wd h
theorem words{a:AR}(h:A4 a=true):Dk a=true/\Sp.hW (Bq (Ae (Sp.vI a)))=true/\B5 (Bq (Ae (Sp.vI a)))=true/\CR (Bq (Ae (Sp.vI a)))=true/\Ak (Bq (Ae (Sp.vI a)))=Ae (Sp.vI a)/\Ae (Sp.vI a)<(Ai:Int)^9000:=by
 obtain⟨h1,h2⟩:=Ce h;have hb:=Is h1 h2 (by omega);obtain⟨n,d,v⟩:=CZ (AE _) hb (by omega);have hl:=JO (AE _) hb;refine⟨h1,?_,n,d,v,hb⟩;unfold Sp.hW;rw[d,yh];exact w4 hl
theorem Ac{a b:Bool}(h1:a=true)(h2:b=true):(a&&b)=true:=by rw[h1,h2];rfl
theorem K4(n:Int):Qc n=if n<0 then -1 else if n>0 then 1 else 0:=rfl
theorem wV{a:AR}(h:Dk a=true):imax (-1) (Ew 1 a.1)=Qc (Sp.vI a):=by
 obtain⟨hr,hw⟩:=DT h;obtain⟨s,w⟩:=a;rcases hw with hw|⟨h1,h2,h3⟩
 ·have hw:w=[]:=hw;subst hw;rw[Ep,K4,iE];show imax (-1) (if (1:Int)<=s then 1 else s)=_;unfold imax;split<;>split<;>split<;>(try split)<;>omega
 ·have h2:s=1\/s= -1:=h2;have h3:9223372036854775808<=Ak w:=h3;have hne:w≠[]:=by rintro rfl;exact wh h3 (by decide)
  rw[WH hne,K4];rcases h2 with rfl|rfl
  ·have e:(if (1:Int)<0 then -Ak w else Ak w)=Ak w:=wc (by decide);rw[e,wc (show ¬Ak w<0 by omega),wd (show Ak w>0 by omega)];show imax (-1) (Ew 1 1)=1;decide
  ·have e:(if (-1:Int)<0 then -Ak w else Ak w)= -Ak w:=wd (by decide);rw[e,wd (show -Ak w<0 by omega)];show imax (-1) (Ew 1 (-1))= -1;decide
namespace T174
theorem ok:Ag Bh 174 Td:=by
 refine Cn SW (fun(a:Int×List Int) ha=>?_);have ha:Dk a=true:=ha;have hn:B5 (Bq (Ae (Sp.vI a)))=true/\Ak (Bq (Ae (Sp.vI a)))=Ae (Sp.vI a):=by
  refine⟨?_,CS (by decide) (AE _)⟩;rcases Ol ha with⟨_,hb⟩|he
  ·have:(9223372036854775808:Int)<(Ai:Int)^1:=by decide
   exact(CZ (AE _) (yi hb this) (by omega)).1
  ·obtain⟨_,hw⟩:=DT ha;rw[he];rcases hw with hw|⟨h1,_⟩
   ·rw[hw];decide+kernel
   ·exact h1
 have hv:Sp.sg (!decide (Sp.vI a<0)) (Ak (Bq (Ae (Sp.vI a))))= -Sp.vI a:=by
  rw[hn.2,Dv,Ah];rcases ya (Sp.vI a) 0 with h|h
  ·rw[w4 h];simp;omega
  ·rw[w8 (by omega)];simp;omega
 have hr:=(DT ha).1;refine yk (Am a) (zk (fun c=>zk (fun d=>zh (Ad.of rfl rfl ?_)) (fun d=>zf ha (zf hn.1 (zh (Ad.of rfl rfl ?_))))) (fun c=>zf ha (zf hn.1 (zh (Ad.of rfl rfl ?_)))))
 ·have c:=PA c;have d:a.1≠ -9223372036854775808:=by simpa using d
  show(zc .i64 (0-a.1),[])=Ds a;unfold Ds;rw[wd ⟨c,d⟩,wr _ (by omega) (by omega),Int.zero_sub]
 ·have d:a.1= -9223372036854775808:=by simpa using d
  show CP (Sp.sg (!decide (Sp.vI a<0)) (Ak (Bq (Ae (Sp.vI a)))))=Ds a;unfold Ds;rw[wc (fun h=>h.2 d),hv]
 ·have c:=gZ c;show CP (Sp.sg (!decide (Sp.vI a<0)) (Ak (Bq (Ae (Sp.vI a)))))=Ds a;unfold Ds;rw[wc (fun h=>c h.1),hv]
end T174
namespace T158
theorem ok:Ag Bh 158 Oa:=by
 refine Cn SW (fun(i:(Int×List Int)×(Int×List Int)) hi=>?_);obtain⟨a,b⟩:=i;have hi:(A4 a&&A4 b)=true:=hi;rw[ze]at hi;obtain⟨a1,a2,a3,a4,a5,a6⟩:=words hi.1;obtain⟨b1,b2,b3,b4,b5,b6⟩:=words hi.2;have hra:=(DT a1).1;have hrb:=(DT b1).1;have na:=AE (Sp.vI a);have nb:=AE (Sp.vI b);obtain⟨t1,_⟩:=LA na a6 b6;have hq:∀v ob,Eo a b=CP v->Ad Oa (a,b) (.agg [.dat i64 (Cz v),.dat (.nlist (.int .u64)) (Cx v)]) ob:=fun v ob h=>Ad.of rfl rfl (by
  show CP v=Eo a b;rw[h])
 have mono:(Ai:Int)^9000<=(Ai:Int)^9001:=AH (by decide) (by omega);have slow1:decide (Sp.vI a<0)=decide (Sp.vI b<0)->Sp.sg (decide (Sp.vI a<0)) (Ak (Bq (Ak (Bq (Ae (Sp.vI a)))+Ak (Bq (Ae (Sp.vI b))))))=Sp.vI a+Sp.vI b:=by
  intro e;rw[a5,b5,show Ak (Bq (Ae (Sp.vI a)+Ae (Sp.vI b)))=_ from CS (by decide) (by omega),Dv,Ah,Ah];rcases ya (Sp.vI a) 0 with h|h
  ·rw[w4 h]at e ⊢;have:=w6 e.symm;simp only[wk];omega
  ·rw[w8 (by omega)]at e ⊢;have:=w7 e.symm;simp only[qg,ve];omega
 have slow2:decide (Sp.vI a<0)≠decide (Sp.vI b<0)->Ae (Sp.vI b)<=Ae (Sp.vI a)->Sp.sg (decide (Sp.vI a<0)) (Ak (Bq (Ak (Bq (Ae (Sp.vI a)))-Ak (Bq (Ae (Sp.vI b))))))=Sp.vI a+Sp.vI b:=by
  intro e hle;rw[a5,b5,show Ak (Bq (Ae (Sp.vI a)-Ae (Sp.vI b)))=_ from CS (by decide) (by omega),Dv,Ah,Ah];rcases ya (Sp.vI a) 0 with h|h
  ·rw[w4 h]at e ⊢;have:¬Sp.vI b<0:=fun h=>e (w4 h).symm
   simp only[wk];omega
  ·rw[w8 (by omega)]at e ⊢;have:Sp.vI b<0:=by
    rcases ya (Sp.vI b) 0 with h|h
    ·exact h
    ·exact wh (w8 (by omega)).symm e
   simp only[qg,ve];omega
 have slow3:decide (Sp.vI a<0)≠decide (Sp.vI b<0)->Ae (Sp.vI a)<=Ae (Sp.vI b)->Sp.sg (decide (Sp.vI b<0)) (Ak (Bq (Ak (Bq (Ae (Sp.vI b)))-Ak (Bq (Ae (Sp.vI a))))))=Sp.vI a+Sp.vI b:=by
  intro e hle;rw[a5,b5,show Ak (Bq (Ae (Sp.vI b)-Ae (Sp.vI a)))=_ from CS (by decide) (by omega),Dv,Ah,Ah];rcases ya (Sp.vI b) 0 with h|h
  ·rw[w4 h]at e ⊢;have:¬Sp.vI a<0:=fun h=>e (w4 h)
   simp only[wk];omega
  ·rw[w8 (show ¬Sp.vI b<0 by omega)]at e ⊢;have:Sp.vI a<0:=by
    rcases ya (Sp.vI a) 0 with h|h
    ·exact h
    ·exact wh (w8 (by omega)) e
   simp only[qg,ve];omega
 have n1:B5 (Bq (Ak (Bq (Ae (Sp.vI a)))+Ak (Bq (Ae (Sp.vI b)))))=true:=by
  rw[a5,b5];exact(CZ (by omega) t1 (by omega)).1
 have n2:Ae (Sp.vI b)<=Ae (Sp.vI a)->B5 (Bq (Ak (Bq (Ae (Sp.vI a)))-Ak (Bq (Ae (Sp.vI b)))))=true:=by
  intro h;rw[a5,b5];exact(CZ (by omega) (yi (by omega) a6) (by omega)).1
 have n3:Ae (Sp.vI a)<=Ae (Sp.vI b)->B5 (Bq (Ak (Bq (Ae (Sp.vI b)))-Ak (Bq (Ae (Sp.vI a)))))=true:=by
  intro h;rw[a5,b5];exact(CZ (by omega) (yi (by omega) b6) (by omega)).1
 have cge:∀ {c:Bool},decide (BO (Ak (Bq (Ae (Sp.vI a)))) (Ak (Bq (Ae (Sp.vI b))))>=0)=c->(c=true->Ae (Sp.vI b)<=Ae (Sp.vI a))/\(c=false->Ae (Sp.vI a)<=Ae (Sp.vI b)):=by
  intro c h;subst h;rw[a5,b5,w5,w9];unfold BO;constructor
  ·intro h;split at h<;>omega
  ·intro h;split at h
   ·omega
   ·split at h<;>omega
 refine yk (Am a b) (zk (fun c1=>zk (fun c2=>zk (fun c3=>zh (Ad.of rfl rfl ?_)) (fun c3=>?_)) (fun c2=>?_)) (fun c1=>?_))
 ·have c1:=PA c1;have c2:=PA c2;have hs:zc .i64 (a.1+b.1)=a.1+b.1:=by
   rw[wj]at c3;rcases ya (a.1+b.1) (-9223372036854775808)with h|h
   ·exfalso;have e:zc .i64 (a.1+b.1)=a.1+b.1+18446744073709551616:=by rw[qk];omega
    rw[e,w4 (by omega),w8 (by omega)]at c3;cases c3
   ·rcases ya (a.1+b.1) 9223372036854775808 with h2|h2
    ·exact wr _ (by omega) (by omega)
    ·exfalso;have e:zc .i64 (a.1+b.1)=a.1+b.1-18446744073709551616:=by rw[qk];omega
     rw[e,w8 (by omega),w4 (by omega)]at c3;cases c3
  have hr:CD (a.1+b.1)=true:=by
   have: -9223372036854775808<=zc .i64 (a.1+b.1)/\zc .i64 (a.1+b.1)<9223372036854775808:=by rw[qk];omega
   rw[hs]at this;unfold CD;rw[ze,w5,w5];exact this
  show(zc .i64 (a.1+b.1),[])=Eo a b;unfold Eo;rw[wd ⟨c1,c2,hr⟩,hs]
 all_goals
  have hm:Eo a b=CP (Sp.vI a+Sp.vI b):=by
   unfold Eo;refine wc (fun h=>?_);obtain⟨h1,h2,h3⟩:=h;first
    |exact gZ c1 h1
    |exact gZ c2 h2
    |(have h3:=Ed h3
      have hs:zc .i64 (a.1+b.1)=a.1+b.1:=wr _ (by omega) (by omega);rw[hs,beq_eq_false_iff_ne]at c3;refine c3 ?_;rcases ya 0 b.1 with h|h
      ·rw[w4 (show a.1+b.1>a.1 by omega),w4 h]
      ·rw[w8 (show ¬a.1+b.1>a.1 by omega),w8 (show ¬b.1>0 by omega)])
  refine zf a1 (zf b1 (zk (fun e=>zf (Ac a2 b2) (zf n1 (zh (hq _ _ ?_)))) (fun e=>zf (Ac a3 b3) (zk (fun d=>zf ?_ (zf (n2 ((cge d).1 rfl)) (zh (hq _ _ ?_)))) (fun d=>zf ?_ (zf (n3 ((cge d).2 rfl)) (zh (hq _ _ ?_))))))))
  ·rw[hm];exact wi _ (slow1 (by simpa using e)).symm
  ·refine Ac (Ac a4 b4) (w4 ?_);rw[a5,b5];exact(cge d).1 rfl
  ·rw[hm];exact wi _ (slow2 (by simpa using e) ((cge d).1 rfl)).symm
  ·refine Ac (Ac b4 a4) (w4 ?_);rw[a5,b5];exact(cge d).2 rfl
  ·rw[hm];exact wi _ (slow3 (by simpa using e) ((cge d).2 rfl)).symm
end T158
theorem C4{n:Int}(h1: -9223372036854775808<=n)(h2:n<9223372036854775808):CD n=true:=by
 unfold CD;rw[ze,w5,w5];exact⟨h1,h2⟩
theorem Kx{n:Int}(h:CD n=true):Dk (n,[])=true:=by
 unfold Dk;rw[h];rfl
theorem Nt{n:Int}{k:Nat}(h:Ae n<(Ai:Int)^k)(hk:k<=20000):Dk (CP n)=true/\(CP n).2.length<=k:=by
 unfold CP;split
 ·next c=>exact⟨Kx (C4 (by omega) (by omega)),Nat.zero_le _⟩
 ·next c=>
  obtain⟨n1,n2,n3⟩:=CZ (AE n) h hk;refine⟨?_,JO (AE n) h⟩;have hb:9223372036854775808<=Ae n:=by rw[Ah];omega
  unfold Dk;refine Ac (C4 ?_ ?_) ?_
  ·show -9223372036854775808<=(if n<0 then -1 else 1);split<;>decide
  ·show(if n<0 then -1 else 1)<9223372036854775808;split<;>decide
  ·rw[qn];refine .inr (Ac (Ac n1 ?_) (w4 (by show _<=Ak (Bq (Ae n));rw[n3];exact hb)));show(decide ((if n<0 then(-1:Int)else 1)=1)||decide ((if n<0 then(-1:Int)else 1)= -1))=true;split<;>rfl
theorem LN(a:AR):Sp.vI (Ds a)= -Sp.vI a:=by
 unfold Ds;split
 ·next h=>rw[Ep,Bi h.1]
 ·exact Cr _
theorem NX(n:Int):Ae (-n)=Ae n:=by rw[Ah,Ah];omega
theorem uF{a:AR}(h:Dk a=true){k:Nat}(h1:1<=k)(hk:k<=20000)(hl:a.2.length<=k):Dk (Ds a)=true/\(Ds a).2.length<=k:=by
 have hr:=(DT h).1;unfold Ds;split
 ·next c=>exact⟨Kx (C4 (by omega) (by omega)),Nat.zero_le _⟩
 ·exact Nt (by rw[NX];exact Is h hl h1) hk
theorem Uq{a:AR}(h:A4 a=true):A4 (Ds a)=true:=by
 obtain⟨h1,h2⟩:=Ce h;obtain⟨h3,h4⟩:=uF h1 (k:=9000) (by omega) (by omega) h2;unfold A4;exact Ac h3 (w4 h4)
theorem qM{a:AR}(h:Dk a=true):a.1<0↔Sp.vI a<0:=by
 obtain⟨_,hw⟩:=DT h;obtain⟨s,w⟩:=a;rcases hw with hw|⟨_,h2,h3⟩
 ·have hw:w=[]:=hw;subst hw;rw[Ep]
 ·have h2:s=1\/s= -1:=h2;have h3:9223372036854775808<=Ak w:=h3;have hne:w≠[]:=by rintro rfl;exact wh h3 (by decide)
  rw[WH hne];show s<0↔_;split<;>omega
theorem VR(a b:AR):Sp.vI (Eo a b)=Sp.vI a+Sp.vI b:=by
 unfold Eo;split
 ·next h=>rw[Ep,Bi h.1,Bi h.2.1]
 ·exact Cr _
theorem qR(x y:Int):Ae (x+y)<=Ae x+Ae y:=by
 rw[Ah,Ah,Ah];omega
theorem KI(x y:Int):Ae (x*y)=Ae x*Ae y:=by
 rw[Ah,Ah,Ah,Int.natAbs_mul,yx]
theorem bounds{a:AR}(h:A4 a=true):Ae (Sp.vI a)<(Ai:Int)^9000:=(words h).2.2.2.2.2
theorem RZ{a b:AR}(ha:A4 a=true)(hb:A4 b=true):Dk (Eo a b)=true:=by
 unfold Eo;split
 ·next h=>exact Kx h.2.2
 ·exact(Nt (yi (qR _ _) (LA (AE _) (bounds ha) (bounds hb)).1) (by omega)).1
theorem gO(a b:AR):Sp.vI (MY a b)=Sp.vI a-Sp.vI b:=by
 unfold MY;rw[VR,LN];omega
theorem Du(a b:AR):Sp.vI (E1 a b)=Sp.vI a*Sp.vI b:=Cr _
theorem XU:D3 XJ1:=
 Aa T174.ok (Aa T158.ok AO)
namespace T173
theorem ok:Ag Bh 173 HZ:=by
 refine Cn Ja (fun(a:Int×List Int) ha=>?_);have ha:Dk a=true:=ha;exact yk (Am a) (zh (Ad.of rfl rfl (wV ha)))
end T173
namespace T212
theorem ok:Ag Bh 212 rD:=by
 refine Cn XU (fun(a:Int×List Int) ha=>?_);have ha:Dk a=true:=ha;refine yk (Am a) (zk (fun c=>zf ha (zh (Ad.of rfl rfl ?_))) (fun c=>zh (Ad.of rfl rfl ?_)))
 ·show Ds a=Uz a;unfold Uz;rw[wd (w6 c)]
 ·show a=Uz a;unfold Uz;rw[wc (w7 c)]
end T212
namespace T217
theorem ok:Ag Bh 217 eH:=by
 refine Cn XU (fun(i:(Int×List Int)×(Int×List Int)) hi=>?_);obtain⟨a,b⟩:=i;have hi:(A4 a&&A4 b)=true:=hi;rw[ze]at hi;exact yk (Am a b) (zf (Ce hi.2).1 (zf (Ac hi.1 (Uq hi.2)) (zh (Ad.of rfl rfl rfl))))
end T217
theorem oZ:D3 XJ2:=
 Aa T217.ok (Aa T173.ok AO)
theorem pJ(x y:Int):Qc (x-y)=BO x y:=by
 unfold Qc BO;split
 ·rw[wd (by omega)]
 ·split
  ·rw[wc (by omega),wd (by omega)]
  ·rw[wc (by omega),wc (by omega)]
namespace T154
theorem ok:Ag Bh 154 Ym:=by
 refine Cn oZ (fun(i:(Int×List Int)×(Int×List Int)) hi=>?_);obtain⟨a,b⟩:=i;have hi:(A4 a&&A4 b)=true:=hi;have hi2:=hi;rw[ze]at hi2;have hs:Dk (MY a b)=true:=by
  unfold MY;exact RZ hi2.1 (Uq hi2.2)
 have hv:EN (MY a b)=NZ a b:=by
  show Qc (Sp.vI (MY a b))=BO (Sp.vI a) (Sp.vI b);rw[gO,pJ]
 refine yk (Am a b) (zk (fun c1=>zk (fun c2=>zk (fun d=>zh (Ad.of rfl rfl ?_)) (fun d=>zk (fun e=>zh (Ad.of rfl rfl ?_)) (fun e=>zh (Ad.of rfl rfl ?_)))) (fun c2=>zf hi (zf hs (zh (Ad.of rfl rfl hv))))) (fun c1=>zf hi (zf hs (zh (Ad.of rfl rfl hv)))));all_goals
  have e1:=Bi (PA c1);have e2:=Bi (PA c2);show _=BO (Sp.vI a) (Sp.vI b);rw[e1,e2];unfold BO
 ·rw[wd (w6 d)]
 ·rw[wc (w7 d),wd (w6 e)]
 ·rw[wc (w7 d),wc (w7 e)]
end T154
theorem Rj(x y:Int):x*y=Sp.sg (!(decide (x<0)==decide (y<0))) (Ae x*Ae y):=by
 unfold Ae;rw[Dv];by_cases h1:x<0<;>by_cases h2:y<0<;>simp[h1,h2,Int.neg_mul,Int.mul_neg]
namespace T159
theorem ok:Ag Bh 159 QS:=by
 refine Cn SW (fun(i:(Int×List Int)×(Int×List Int)) hi=>?_);obtain⟨a,b⟩:=i;have hi:(A4 a&&A4 b)=true:=hi;rw[ze]at hi;obtain⟨a1,a2,a3,a4,a5,a6⟩:=words hi.1;obtain⟨b1,b2,b3,b4,b5,b6⟩:=words hi.2;have hra:=(DT a1).1;have hrb:=(DT b1).1;have na:=AE (Sp.vI a);have nb:=AE (Sp.vI b);obtain⟨_,t2⟩:=LA na a6 b6;have np:0<=Ae (Sp.vI a)*Ae (Sp.vI b):=zw na nb;have n1:B5 (Bq (Ak (Bq (Ae (Sp.vI a)))*Ak (Bq (Ae (Sp.vI b)))))=true:=by
  rw[a5,b5];exact(CZ np t2 (by omega)).1
 have hv:Sp.sg (!(decide (Sp.vI a<0)==decide (Sp.vI b<0))) (Ak (Bq (Ak (Bq (Ae (Sp.vI a)))*Ak (Bq (Ae (Sp.vI b))))))=Sp.vI a*Sp.vI b:=by
  rw[a5,b5,show Ak (Bq (Ae (Sp.vI a)*Ae (Sp.vI b)))=_ from CS (by decide) np, <-Rj]
 have hq:∀ob,Ad QS (a,b) (.agg [.dat i64 (Cz (Sp.sg (!(decide (Sp.vI a<0)==decide (Sp.vI b<0))) (Ak (Bq (Ak (Bq (Ae (Sp.vI a)))*Ak (Bq (Ae (Sp.vI b)))))))),.dat (.nlist (.int .u64)) (Cx (Sp.sg (!(decide (Sp.vI a<0)==decide (Sp.vI b<0))) (Ak (Bq (Ak (Bq (Ae (Sp.vI a)))*Ak (Bq (Ae (Sp.vI b))))))))]) ob:=fun ob=>Ad.of rfl rfl (by
  show CP _=CP (Sp.vI a*Sp.vI b);rw[hv])
 have ua:Sp.u64 (Ae a.1)=true:=CE (AE _) (by rw[Ah];omega);have ub:Sp.u64 (Ae b.1)=true:=CE (AE _) (by rw[Ah];omega);refine yk (Am a b) (zk (fun c1=>zk (fun c2=>zf (C4 hra.1 hra.2) (zf (C4 hrb.1 hrb.2) (zf (Ac ua ub) (zk (fun c3=>zk (fun c4=>zk (fun c5=>zh (Ad.of rfl rfl ?_)) (fun c5=>zh (Ad.of rfl rfl ?_))) (fun c4=>?_)) (fun c3=>?_))))) (fun c2=>?_)) (fun c1=>?_))
 ·have e1:=Bi (PA c1);have e2:=Bi (PA c2);have c3:(Ae a.1*Ae b.1)/18446744073709551616=0:=by simpa [QT]using c3
  have c4:(Ae a.1*Ae b.1) % 18446744073709551616<=9223372036854775807:=w6 c4;have p0:0<=Ae a.1*Ae b.1:=zw (AE _) (AE _);have hm:=Rj a.1 b.1;have c5:(!(decide (a.1<0)==decide (b.1<0)))=true:=c5;rw[c5,Dv,wd rfl]at hm;show(zc .i64 (0-zc .i64 ((Ae a.1*Ae b.1) % 18446744073709551616)),[])=CP (Sp.vI a*Sp.vI b);rw[e1,e2,hm,B0 (by omega),wr ((Ae a.1*Ae b.1) % 18446744073709551616) (by omega) (by omega),wr _ (by omega) (by omega)];congr 1;omega
 ·have e1:=Bi (PA c1);have e2:=Bi (PA c2);have c3:(Ae a.1*Ae b.1)/18446744073709551616=0:=by simpa [QT]using c3
  have c4:(Ae a.1*Ae b.1) % 18446744073709551616<=9223372036854775807:=w6 c4;have p0:0<=Ae a.1*Ae b.1:=zw (AE _) (AE _);have hm:=Rj a.1 b.1;have c5:(!(decide (a.1<0)==decide (b.1<0)))=false:=c5;rw[c5,Dv,wc (by decide)]at hm;show(zc .i64 ((Ae a.1*Ae b.1) % 18446744073709551616),[])=CP (Sp.vI a*Sp.vI b);rw[e1,e2,hm,B0 (by omega),wr ((Ae a.1*Ae b.1) % 18446744073709551616) (by omega) (by omega)];congr 1;omega
 all_goals exact zf a1 (zf b1 (zf (Ac a2 b2) (zf n1 (zh (hq _)))))
end T159
end Go.Pe
namespace Go.Sp
def EP(n:Int):Int:=if n<=0 then 0 else(n.toNat.log2:Int)+1
def lz(n:Int):Int:=64-EP n
def dq(h l y:Int):Int:=(h*18446744073709551616+l)/y
def dr(h l y:Int):Int:=(h*18446744073709551616+l) % y
end Go.Sp
namespace Go.Pe
open Go.Det
def Vs:Ao:=⟨[u64],fun n=>Sp.u64 n,[i64],fun n=>Sp.EP n,false⟩
def zI:Ao:=⟨[u64],fun n=>Sp.u64 n,[i64],fun n=>Sp.lz n,false⟩
def RA:Ao:=⟨[u64,u64,u64],fun i=>Sp.u64 i.1&&Sp.u64 i.2.1&&Sp.u64 i.2.2&&decide ((i.1:Int)<i.2.2),[u64,u64],fun i=>(Sp.dq i.1 i.2.1 i.2.2,Sp.dr i.1 i.2.1 i.2.2),false⟩
def XD1:A0:=X7 [(247,Vs)]
def jC:A0:=X7 [(272,zI)]
section
open List Int Prod
namespace T247
def T(x:Int):Tr:=tree bZ false 9 247 (Af ([zg zd]) x)
theorem Am(x:Int):T x=let a':=([0,1,2,2,3,3,3,3,4,4,4,4,4,4,4,4,5,5,5,5,5,5,5,5,5,5,5,5,5,5,5,5,6,6,6,6,6,6,6,6,6,6,6,6,6,6,6,6,6,6,6,6,6,6,6,6,6,6,6,6,6,6,6,6,7,7,7,7,7,7,7,7,7,7,7,7,7,7,7,7,7,7,7,7,7,7,7,7,7,7,7,7,7,7,7,7,7,7,7,7,7,7,7,7,7,7,7,7,7,7,7,7,7,7,7,7,7,7,7,7,7,7,7,7,7,7,7,7,8,8,8,8,8,8,8,8,8,8,8,8,8,8,8,8,8,8,8,8,8,8,8,8,8,8,8,8,8,8,8,8,8,8,8,8,8,8,8,8,8,8,8,8,8,8,8,8,8,8,8,8,8,8,8,8,8,8,8,8,8,8,8,8,8,8,8,8,8,8,8,8,8,8,8,8,8,8,8,8,8,8,8,8,8,8,8,8,8,8,8,8,8,8,8,8,8,8,8,8,8,8,8,8,8,8,8,8,8,8,8,8,8,8,8,8,8,8,8,8,8,8,8,8,8,8,8,8]:List UInt8);let b':=zq x (2^32);let c':=(0:Sh.T (zg IntKind.u8));let e':=zq x (2^16);let i':=zq x (2^8);let d':=zq b' (2^16);let g':=zq b' (2^8);let h':=zq e' (2^8);let f':=zq d' (2^8);.ite (decide (x>=4294967296)) (.ite true (.ite (decide (zq x (2^32)>=65536)) (.ite true (.ite (decide (zq b' (2^16)>=256)) (.ite true (.ite (decide (c'<=zc .u8 f')&&decide (zc .u8 f'<(↑256:Int))) (.leaf (.dat i64 (zc .i64 (zc .i64 (zc .i64 (32+16)+8)+zc .i64 (↑(yt (getD a' (toNat (zc .u8 f')) (0:UInt8))):Int)))) []) .fail) .fail) (.ite (decide (c'<=zc .u8 d')&&decide (zc .u8 d'<(↑256:Int))) (.leaf (.dat i64 (zc .i64 (zc .i64 (32+16)+zc .i64 (↑(yt (getD a' (toNat (zc .u8 d')) (0:UInt8))):Int)))) []) .fail)) .fail) (.ite (decide (zq x (2^32)>=256)) (.ite true (.ite (decide (c'<=zc .u8 g')&&decide (zc .u8 g'<(↑256:Int))) (.leaf (.dat i64 (zc .i64 (zc .i64 (32+8)+zc .i64 (↑(yt (getD a' (toNat (zc .u8 g')) (0:UInt8))):Int)))) []) .fail) .fail) (.ite (decide (c'<=zc .u8 b')&&decide (zc .u8 b'<(↑256:Int))) (.leaf (.dat i64 (zc .i64 (32+zc .i64 (↑(yt (getD a' (toNat (zc .u8 b')) (0:UInt8))):Int)))) []) .fail))) .fail) (.ite (decide (x>=65536)) (.ite true (.ite (decide (zq x (2^16)>=256)) (.ite true (.ite (decide (c'<=zc .u8 h')&&decide (zc .u8 h'<(↑256:Int))) (.leaf (.dat i64 (zc .i64 (zc .i64 (zc .i64 (0+16)+8)+zc .i64 (↑(yt (getD a' (toNat (zc .u8 h')) (0:UInt8))):Int)))) []) .fail) .fail) (.ite (decide (c'<=zc .u8 e')&&decide (zc .u8 e'<(↑256:Int))) (.leaf (.dat i64 (zc .i64 (zc .i64 (0+16)+zc .i64 (↑(yt (getD a' (toNat (zc .u8 e')) (0:UInt8))):Int)))) []) .fail)) .fail) (.ite (decide (x>=256)) (.ite true (.ite (decide (c'<=zc .u8 i')&&decide (zc .u8 i'<(↑256:Int))) (.leaf (.dat i64 (zc .i64 (zc .i64 (0+8)+zc .i64 (↑(yt (getD a' (toNat (zc .u8 i')) (0:UInt8))):Int)))) []) .fail) .fail) (.ite (decide (c'<=zc .u8 x)&&decide (zc .u8 x<(↑256:Int))) (.leaf (.dat i64 (zc .i64 (0+zc .i64 (↑(yt (getD a' (toNat (zc .u8 x)) (0:UInt8))):Int)))) []) .fail))):=by kernel_rfl
end T247
namespace T272
def T(x:Int):Tr:=tree XD1 false 9 272 (Af ([zg zd]) x)
theorem Am(x:Int):T x=.ite (Sp.u64 x) (.leaf (.dat i64 (zc .i64 (64-Sp.EP x))) []) .fail:=by kernel_rfl
end T272
namespace T271
def T(hi lo y:Int):Tr:=tree jC false 9 271 (Af ([zg zd,zg zd,zg zd]) (hi,lo,y))
def L1(v2 v8 v9 v10 v11 v13 v14 v15 v16:Int):Tr:=re ((T 0 0 0).R.R.R.L.L.L.L.L.L.L.L) (AD 135 [(2,.dat (zg zd) v2),(8,.dat (zg zd) v8),(9,.dat (zg zd) v9),(10,.dat (zg zd) v10),(11,.dat (zg zd) v11),(13,.dat (zg zd) v13),(14,.dat (zg zd) v14),(15,.dat (zg zd) v15),(16,.dat (zg zd) v16)] [] 0)
theorem Am(hi lo y:Int):T hi lo y=let e':=decide (0<=zc .u64 (Sp.lz y));let i':=64-zc .u64 (Sp.lz y);let j':=zc .u64 (Sp.lz y);let c':=toNat j';let d':=zq lo (2^qm (toNat (zc .u64 i')) 64);let a':=zc .u64 (y*2^qm c' 64);let f':=zc .u64 (lo*2^qm c' 64);let g':=zc .u64 (hi*2^qm c' 64);let b':=aA zd g' d';let h':=zq a' (2^32);.ite (y==0) .fail (.ite (decide (y<=hi)) .fail (.ite (hi==0) (.ite (decide (y≠0)) (.ite (decide (y≠0)) (.leaf (.tup [.dat (zg zd) (zc .u64 (y7 lo y)),.dat (zg zd) (Int.tmod lo y)]) []) .fail) .fail) (.ite (Sp.u64 y) (.ite e' (.ite true (.ite e' (.ite (decide (0<=zc .u64 i')) (.ite e' (.ite true (.ite (decide (zq a' (2^32)≠0)) (L1 a' j' h' (HD zd a' 4294967295) b' (zq f' (2^32)) (HD zd f' 4294967295) (zc .u64 (y7 b' h')) (zc .u64 (aA zd g' d'-zc .u64 (zc .u64 (y7 b' h')*zq a' (2^32))))) .fail) .fail) .fail) .fail) .fail) .fail) .fail) .fail))):=by kernel_rfl
def L2(v2 v8 v9 v10 v14 v15 v16 v17 v18:Int):Tr:=re ((stepT jC (L1 0 0 0 0 0 0 0 0 0)).L.L.L) (AD 135 [(2,.dat (zg zd) v2),(8,.dat (zg zd) v8),(9,.dat (zg zd) v9),(10,.dat (zg zd) v10),(14,.dat (zg zd) v14),(15,.dat (zg zd) v15),(16,.dat (zg zd) v16),(17,.dat (zg zd) v17),(18,.dat (zg zd) v18)] [] 0)
theorem Ap(v2 v8 v9 v10 v11 v13 v14 v15 v16:Int):stepT jC (L1 v2 v8 v9 v10 v11 v13 v14 v15 v16)=let f':=zc .u64 (v11*4294967296)+v13;let g':=zc .u64 (v15-1);let b':=zc .u64 f'-zc .u64 (zc .u64 (v15-1)*v2);let c':=zc .u64 f'-zc .u64 (v15*v2);let d':=zc .u64 c';let e':=zc .u64 b';let a':Tr:=.ite (decide (zc .u64 (v16+v9)>=4294967296)) (.ite (decide (v9≠0)) (L2 v2 v8 v9 v10 v14 g' (zc .u64 (zc .u64 b'-zc .u64 (zc .u64 (y7 e' v9)*v9))) e' (zc .u64 (y7 e' v9))) .fail) (L1 v2 v8 v9 v10 v11 v13 v14 g' (zc .u64 (v16+v9)));.ite (decide (v15>=4294967296)) a' (.ite (decide (zc .u64 (v15*v10)>zc .u64 (zc .u64 (4294967296*v16)+v13))) a' (.ite (decide (v9≠0)) (L2 v2 v8 v9 v10 v14 v15 (zc .u64 (zc .u64 c'-zc .u64 (zc .u64 (y7 d' v9)*v9))) d' (zc .u64 (y7 d' v9))) .fail)):=by kernel_rfl
theorem AY(v2 v8 v9 v10 v14 v15 v16 v17 v18:Int):stepT jC (L2 v2 v8 v9 v10 v14 v15 v16 v17 v18)=let b':=zg zd;let c':=zc .u64 (v17*4294967296)+v14;let d':=2^qm (toNat v8) 64;let a':Tr:=.ite (decide (zc .u64 (v16+v9)>=4294967296)) (.ite (decide (0<=v8)) (.leaf (.tup [.dat b' (zc .u64 (zc .u64 (v15*4294967296)+zc .u64 (v18-1))),.dat b' (zq (zc .u64 (zc .u64 c'-zc .u64 (zc .u64 (v18-1)*v2))) d')]) []) .fail) (L2 v2 v8 v9 v10 v14 v15 (zc .u64 (v16+v9)) v17 (zc .u64 (v18-1)));.ite (decide (v18>=4294967296)) a' (.ite (decide (zc .u64 (v18*v10)>zc .u64 (zc .u64 (4294967296*v16)+v14))) a' (.ite (decide (0<=v8)) (.leaf (.tup [.dat b' (zc .u64 (zc .u64 (v15*4294967296)+v18)),.dat b' (zq (zc .u64 (zc .u64 c'-zc .u64 (v18*v2))) d')]) []) .fail)):=by kernel_rfl
end T271
end
namespace T271
variable {Q:PV->Ob->Prop}
def Exact(Y u w q:Int):Prop:=q*Y<=u*4294967296+w/\u*4294967296+w<(q+1)*Y
theorem X4{Y y1 y0 u w q r:Int}(hY:Y=y1*4294967296+y0)(he:q*y1+r=u)(h:q*y0>4294967296*r+w):u*4294967296+w<q*Y:=by
 subst hY;rw[ye, <-zu];generalize q*y1=A at*;generalize q*y0=C at*;omega
theorem Kq{Y y1 y0 u w q r:Int}(hY:Y=y1*4294967296+y0)(he:q*y1+r=u)(h:q*y0<=4294967296*r+w):q*Y<=u*4294967296+w:=by
 subst hY;rw[ye, <-zu];generalize q*y1=A at*;generalize q*y0=C at*;omega
theorem UK{Y u w q:Int}(hu:u<Y)(hY:0<=Y)(hw:w<4294967296)(hq:4294967296<=q):u*4294967296+w<q*Y:=by
 have:=zj hq hY;omega
theorem Uf{y1 y0 u w r:Int}{n:Nat}{Y:Int}(hY:Y=y1*4294967296+y0)(h1:0<=y1)(h0:0<=y0/\y0<4294967296)(hu:u<Y)(hw:0<=w)(he:(n:Int)*y1+r=u)(hr:4294967296<=r):(n:Int)*Y<=u*4294967296+w:=by
 have hn:(n:Int)<4294967296:=by
  rcases ya (n:Int) 4294967296 with h|h
  ·exact h
  ·have:=zj h h1;omega
 refine Kq hY he ?_;have a:=zj (show(n:Int)<=4294967295 by omega) h0.1;omega
theorem Al(Y s y1 y0 u w z:Int)(hY:Y=y1*4294967296+y0)(h1:0<y1/\y1<4294967296)(h0:0<=y0/\y0<4294967296)(hu:u<Y)(hw:0<=w/\w<4294967296)
  (hx:∀q:Int,0<=q->Exact Y u w q->Ends jC (L2 Y s y1 y0 z q (zc zd (zc zd (zc zd (zc zd (u*(4294967296:Int))+w)-zc zd (q*Y))-zc zd (zc zd (y7 (zc zd (zc zd (zc zd (u*(4294967296:Int))+w)-zc zd (q*Y))) y1)*y1))) (zc zd (zc zd (zc zd (u*(4294967296:Int))+w)-zc zd (q*Y))) (zc zd (y7 (zc zd (zc zd (zc zd (u*(4294967296:Int))+w)-zc zd (q*Y))) y1))) Q):
  ∀(n:Nat) (r:Int),(n:Int)<18446744073709551616->(n:Int)*y1+r=u->0<=r->r<4294967296->u*4294967296+w<((n:Int)+1)*Y->Ends jC (L1 Y s y1 y0 u w z n r) Q:=by
 intro n;induction n with
 |zero=>
  intro r hn he r0 r1 hup;have hz:decide (y1≠0)=true:=w4 (by omega);refine yp (Ap ..) (ym (by simp) (ym (w8 ?_) (zf hz (hx _ (by omega) ⟨?_,hup⟩))))
  ·rw[show((0:Nat):Int)*y0=0 by simp,wu 0 (by omega) (by omega),wu (4294967296*r) (by omega) (by omega),wu _ (by omega) (by omega)];omega
  ·exact Kq hY he (by rw[show((0:Nat):Int)*y0=0 by simp];omega)
 |succ n ih=>
  intro r hn he r0 r1 hup;have hz:decide (y1≠0)=true:=w4 (by omega);have e1:zc .u64 (((n+1:Nat):Int)-1)=(n:Int):=by rw[wu _ (by omega) (by omega)];omega
  have e2:zc .u64 (r+y1)=r+y1:=wu _ (by omega) (by omega);have hY0:0<=Y:=by omega
  have he':(n:Int)*y1+(r+y1)=u:=by
   rw[show((n+1:Nat):Int)=(n:Int)+1 by omega,yd,yn]at he;omega
  have ec:((n+1:Nat):Int)=(n:Int)+1:=by omega
  have dec:u*4294967296+w<((n:Int)+1)*Y->r+y1<4294967296->Ends jC (L1 Y s y1 y0 u w z n (r+y1)) Q:=fun h1' h2'=>
   ih (r+y1) (by omega) he' (by omega) h2' h1'
  have cut:u*4294967296+w<((n:Int)+1)*Y->4294967296<=r+y1->Exact Y u w n:=fun h1' h2'=>
   ⟨Uf hY (by omega) h0 hu hw.1 he' h2',h1'⟩
  refine yp (Ap ..) ?_;conv=>zeta
  rw[e1,e2];refine zk (fun c=>?_) (fun c=>zk (fun d=>?_) (fun d=>?_))
  ·have c:=w6 c;have hb:u*4294967296+w<((n:Int)+1)*Y:=by rw[<-ec];exact UK hu hY0 hw.2 c
   exact zk (fun e=>zf hz (hx _ (by omega) (cut hb (w6 e)))) (fun e=>dec hb (by have:=w7 e;omega))
  ·have c:=w7 c;have d:=w6 d;have a:=zj (show((n+1:Nat):Int)<=4294967295 by omega) h0.1;have b:=zw (show 0<=((n+1:Nat):Int)by omega) h0.1;rw[wu (((n+1:Nat):Int)*y0) (by omega) (by omega),wu (4294967296*r) (by omega) (by omega),wu _ (by omega) (by omega)]at d;have hb:u*4294967296+w<((n:Int)+1)*Y:=by rw[<-ec];exact X4 hY he d
   exact zk (fun e=>zf hz (hx _ (by omega) (cut hb (w6 e)))) (fun e=>dec hb (by have:=w7 e;omega))
  ·have c:=w7 c;have d:=w7 d;have a:=zj (show((n+1:Nat):Int)<=4294967295 by omega) h0.1;have b:=zw (show 0<=((n+1:Nat):Int)by omega) h0.1;rw[wu (((n+1:Nat):Int)*y0) (by omega) (by omega),wu (4294967296*r) (by omega) (by omega),wu _ (by omega) (by omega)]at d;exact zf hz (hx _ (by omega) ⟨Kq hY he (by omega),hup⟩)
theorem A2(Y s y1 y0 u w p:Int)(hY:Y=y1*4294967296+y0)(h1:0<y1/\y1<4294967296)(h0:0<=y0/\y0<4294967296)(hu:u<Y)(hw:0<=w/\w<4294967296)(hs:0<=s)
  (hx:∀q:Int,0<=q->Exact Y u w q->∀ob,Q (PV.tup [PV.dat (zg zd) (zc zd (zc zd (p*(4294967296:Int))+q)),PV.dat (zg zd) (zq (zc zd (zc zd (zc zd (u*(4294967296:Int))+w)-zc zd (q*Y))) ((2:Int)^qm (qv s) (64:Nat)))]) ob):
  ∀(n:Nat) (r:Int),(n:Int)<18446744073709551616->(n:Int)*y1+r=u->0<=r->r<4294967296->u*4294967296+w<((n:Int)+1)*Y->Ends jC (L2 Y s y1 y0 w p r u n) Q:=by
 intro n;induction n with
 |zero=>
  intro r hn he r0 r1 hup;have hz:decide (0<=s)=true:=w4 hs;refine yp (AY ..) (ym (by simp) (ym (w8 ?_) (zf hz (zh (hx _ (by omega) ⟨?_,hup⟩ _)))))
  ·rw[show((0:Nat):Int)*y0=0 by simp,wu 0 (by omega) (by omega),wu (4294967296*r) (by omega) (by omega),wu _ (by omega) (by omega)];omega
  ·exact Kq hY he (by rw[show((0:Nat):Int)*y0=0 by simp];omega)
 |succ n ih=>
  intro r hn he r0 r1 hup;have hz:decide (0<=s)=true:=w4 hs;have e1:zc .u64 (((n+1:Nat):Int)-1)=(n:Int):=by rw[wu _ (by omega) (by omega)];omega
  have e2:zc .u64 (r+y1)=r+y1:=wu _ (by omega) (by omega);have hY0:0<=Y:=by omega
  have he':(n:Int)*y1+(r+y1)=u:=by
   rw[show((n+1:Nat):Int)=(n:Int)+1 by omega,yd,yn]at he;omega
  have ec:((n+1:Nat):Int)=(n:Int)+1:=by omega
  have dec:u*4294967296+w<((n:Int)+1)*Y->r+y1<4294967296->Ends jC (L2 Y s y1 y0 w p (r+y1) u n) Q:=fun h1' h2'=>
   ih (r+y1) (by omega) he' (by omega) h2' h1'
  have cut:u*4294967296+w<((n:Int)+1)*Y->4294967296<=r+y1->Exact Y u w n:=fun h1' h2'=>
   ⟨Uf hY (by omega) h0 hu hw.1 he' h2',h1'⟩
  refine yp (AY ..) ?_;conv=>zeta
  rw[e1,e2];refine zk (fun c=>?_) (fun c=>zk (fun d=>?_) (fun d=>?_))
  ·have c:=w6 c;have hb:u*4294967296+w<((n:Int)+1)*Y:=by rw[<-ec];exact UK hu hY0 hw.2 c
   exact zk (fun e=>zf hz (zh (hx _ (by omega) (cut hb (w6 e)) _))) (fun e=>dec hb (by have:=w7 e;omega))
  ·have c:=w7 c;have d:=w6 d;have a:=zj (show((n+1:Nat):Int)<=4294967295 by omega) h0.1;have b:=zw (show 0<=((n+1:Nat):Int)by omega) h0.1;rw[wu (((n+1:Nat):Int)*y0) (by omega) (by omega),wu (4294967296*r) (by omega) (by omega),wu _ (by omega) (by omega)]at d;have hb:u*4294967296+w<((n:Int)+1)*Y:=by rw[<-ec];exact X4 hY he d
   exact zk (fun e=>zf hz (zh (hx _ (by omega) (cut hb (w6 e)) _))) (fun e=>dec hb (by have:=w7 e;omega))
  ·have c:=w7 c;have d:=w7 d;have a:=zj (show((n+1:Nat):Int)<=4294967295 by omega) h0.1;have b:=zw (show 0<=((n+1:Nat):Int)by omega) h0.1;rw[wu (((n+1:Nat):Int)*y0) (by omega) (by omega),wu (4294967296*r) (by omega) (by omega),wu _ (by omega) (by omega)]at d;exact zf hz (zh (hx _ (by omega) ⟨Kq hY he (by omega),hup⟩ _))
end T271
theorem Uw{y:Int}(h1:0<y)(h2:y<18446744073709551616):∃s:Nat,Sp.lz y=(s:Int)/\s<=63/\y*2^s<18446744073709551616/\9223372036854775808<=y*2^s:=by
 obtain⟨n,rfl⟩:=zi (yv h1);have hn:n≠0:=by omega
 have hk:n.log2<64:=(Nat.log2_lt hn).2 (by omega);have a:=Nat.log2_self_le hn;have b:=Nat.lt_log2_self (n:=n);have e1:2^n.log2*2^(63-n.log2)=2^63:=by rw[<-Nat.pow_add];congr 1;omega
 have e2:2^(n.log2+1)*2^(63-n.log2)=2^64:=by rw[<-Nat.pow_add];congr 1;omega
 have c1:2^63<=n*2^(63-n.log2):=by rw[<-e1];exact Nat.mul_le_mul_right _ a
 have c2:n*2^(63-n.log2)<2^64:=by rw[<-e2];exact Nat.mul_lt_mul_of_pos_right b (Nat.two_pow_pos _)
 refine⟨63-n.log2,?_,by omega,?_,?_⟩
 ·unfold Sp.lz Sp.EP;rw[wc (by omega),zo];omega
 ·have:((n*2^(63-n.log2):Nat):Int)<18446744073709551616:=by omega
  rw[yx,yy]at this;exact this
 ·have:(9223372036854775808:Int)<=((n*2^(63-n.log2):Nat):Int):=by omega
  rw[yx,yy]at this;exact this
theorem Xk{a b:Int}{s:Nat}(ha:0<=a)(hb:0<=b)(h:b<2^s)(hm:a*2^s+b<18446744073709551616):aA .u64 (a*2^s) b=a*2^s+b:=by
 obtain⟨m,rfl⟩:=zi ha;obtain⟨k,rfl⟩:=zi hb;have ep:((m:Int)*2^s)=((m*2^s:Nat):Int):=by rw[yx,yy];rfl
 have hk:k<2^s:=by
  have e:((2:Int)^s)=((2^s:Nat):Int):=by rw[yy];rfl
  rw[e]at h;omega
 rw[ep]at hm ⊢;have e:(yg 64 ((m*2^s:Nat):Int)|||yg 64 (k:Int)).toNat=m*2^s+k:=by
  rw[BitVec.toNat_or,y9,y9,qe,qe,qj (by omega),qj (by omega),Nat.mul_comm m,Nat.two_pow_add_eq_or_of_lt hk]
 show zc .u64 (((yg 64 ((m*2^s:Nat):Int)|||yg 64 (k:Int)).toNat:Nat):Int)=_;rw[e,bR _ (by omega)];omega
namespace T271
theorem start{u y1 y0 Y w:Int}(hY:Y=y1*4294967296+y0)(h1:0<y1/\y1<4294967296)(h0:0<=y0)(hu:0<=u/\u<18446744073709551616)(hw:w<4294967296):
  ∃(n:Nat) (r:Int),zc .u64 (y7 u y1)=(n:Int)/\zc .u64 (u-zc .u64 ((n:Int)*y1))=r/\(n:Int)<18446744073709551616/\(n:Int)*y1+r=u/\0<=r/\r<4294967296/\u*4294967296+w<((n:Int)+1)*Y:=by
 have q0:0<=u/y1:=qo hu.1 (by omega);have q1:u/y1<=u:=Int.ediv_le_self _ hu.1;have ed:=Int.mul_ediv_add_emod u y1;have r0:=Int.emod_nonneg u (show y1≠0 by omega);have r1:=Int.emod_lt_of_pos u h1.1;rw[yo]at ed;obtain⟨n,hn⟩:=zi q0;have hp:0<=(n:Int)*y1:=zw (by omega) (by omega);rw[hn]at ed;refine⟨n,u % y1,?_,?_,by omega,ed,r0,by omega,?_⟩
 ·rw[qh hu.1,hn,wu _ (by omega) (by omega)]
 ·rw[wu ((n:Int)*y1) (by omega) (by omega),wu _ (by omega) (by omega)];omega
 ·subst hY;have a:((n:Int)+1)*(y1*4294967296+y0)=((n:Int)*y1+y1)*4294967296+((n:Int)+1)*y0:=by
   rw[ye, <-zu,yd,yn]
  have b:0<=((n:Int)+1)*y0:=zw (by omega) h0;rw[a];omega
theorem Q4{u w q Y:Int}(hE:Exact Y u w q)(hY:Y<18446744073709551616):zc .u64 (zc .u64 (zc .u64 (u*(4294967296:Int))+w)-zc .u64 (q*Y))=u*4294967296+w-q*Y:=by
 obtain⟨a,b⟩:=hE;rw[yd,yn]at b;rw[K9,K9,K9,K9];generalize q*Y=A at*;omega
theorem mX(h:Ag Bh 272 zI):D3 jC:=Aa h AO
set_option maxHeartbeats 1000000 in
theorem ok(hlz:Ag Bh 272 zI):Ag Bh 271 RA:=by
 refine Lb (X:=jC) rfl (mX hlz) (d:=9) (by kernel_rfl) (by kernel_rfl) (by kernel_rfl) (fun(i:Int×Int×Int) hi=>?_) (Bl (by kernel_rfl));obtain⟨hi',lo,y⟩:=i;have hi:(Sp.u64 hi'&&Sp.u64 lo&&Sp.u64 y&&decide (hi'<y))=true:=hi;rw[ze,ze,ze,w5]at hi;obtain⟨⟨⟨h1,h2⟩,h3⟩,h4⟩:=hi;have uy:=h3;have h1:=Sp.AX h1;have h2:=Sp.AX h2;have h3:=Sp.AX h3;have hg:∀q r ob,q=Sp.dq hi' lo y->r=Sp.dr hi' lo y->Ad RA (hi',lo,y) (PV.tup [PV.dat (zg zd) q,PV.dat (zg zd) r]) ob:=fun q r ob e1 e2=>Ad.of rfl rfl (Prod.ext e1 e2)
 refine yk (Am hi' lo y) (ym (by simp;omega) (ym (w8 (by omega)) (zk (fun c=>?_) (fun c=>?_))))
 ·have c:hi'=0:=by simpa using c
  subst c;have q0:0<=lo/y:=qo h2.1 (by omega);have q1:lo/y<=lo:=Int.ediv_le_self _ h2.1;refine zf (w4 (by omega)) (zf (w4 (by omega)) (zh (hg _ _ _ ?_ ?_)))
  ·unfold Sp.dq;rw[qh h2.1,wu _ (by omega) (by omega),Int.zero_mul,Int.zero_add]
  ·unfold Sp.dr;rw[Int.tmod_eq_emod_of_nonneg h2.1,Int.zero_mul,Int.zero_add]
 ·have c:hi'≠0:=by simpa using c
  obtain⟨s,hs,hs63,hlt,hge⟩:=Uw (y:=y) (by omega) h3.2;have es:zc .u64 (s:Int)=(s:Int):=bR s (by omega);have em:qm s 64=s:=by omega
  have es2:zc .u64 ((64:Int)-(s:Int))=((64-s:Nat):Int):=by rw[wu _ (by omega) (by omega)];omega
  have em2:qm (64-s) 64=64-s:=by omega
  have hPR:(2:Int)^s*2^(64-s)=18446744073709551616:=by rw[<-Int.pow_add,show s+(64-s)=64 by omega];rfl
  have hP:(0:Int)<2^s:=Int.pow_pos (by decide);have hR:(0:Int)<2^(64-s):=Int.pow_pos (by decide);have a0:0<=lo/2^(64-s):=qo h2.1 (by omega);have led:=Int.mul_ediv_add_emod lo (2^(64-s));have c0:=Int.emod_nonneg lo (show(2:Int)^(64-s)≠0 by omega);have c1:=Int.emod_lt_of_pos lo hR;have aP:lo/2^(64-s)<2^s:=Int.ediv_lt_of_lt_mul hR (by rw[hPR];exact h2.2);have hiP:hi'*2^s+2^s<=y*2^s:=by
   have:=zj (show hi'+1<=y by omega) (yv hP);rw[yd,yn]at this;exact this
  have hi0:0<=hi'*2^s:=zw h1.1 (yv hP);have efd:zq lo ((2:Int)^(64-s))=lo/2^(64-s):=yr _ (by omega);have eio:aA .u64 (hi'*2^s) (lo/2^(64-s))=hi'*2^s+lo/2^(64-s):=Xk h1.1 a0 aP (by omega);have cP0:0<=(lo % 2^(64-s))*2^s:=zw c0 (yv hP);have cP1:(lo % 2^(64-s))*2^s<18446744073709551616:=by
   have:=Int.mul_lt_mul_of_pos_right c1 hP;rw[yo (2^(64-s)),hPR]at this;exact this
  have loP:lo*2^s=(lo/2^(64-s))*18446744073709551616+(lo % 2^(64-s))*2^s:=by
   conv=>lhs;rw[<-led]
   rw[yd, <-hPR,yo (2^(64-s)) (lo/2^(64-s)),zu,yo (2^(64-s)) (2^s)]
  have elo:zc .u64 (lo*2^s)=(lo % 2^(64-s))*2^s:=by rw[loP,K9];omega
  have hN:(hi'*2^s+lo/2^(64-s))*18446744073709551616+(lo % 2^(64-s))*2^s=(hi'*18446744073709551616+lo)*2^s:=by
   rw[yd (hi'*18446744073709551616) lo (2^s),loP,zu hi' 18446744073709551616 (2^s),yo 18446744073709551616 ((2:Int)^s), <-zu];omega
  have ewy:zc .u64 (y*2^s)=y*2^s:=wu _ (by omega) (by omega);have ewh:zc .u64 (hi'*2^s)=hi'*2^s:=wu _ hi0 (by omega);have z0:decide ((0:Int)<=(s:Int))=true:=w4 (by omega);have fin:∀q:Int,q*(y*2^s)<=(hi'*18446744073709551616+lo)*2^s->(hi'*18446744073709551616+lo)*2^s<(q+1)*(y*2^s)->q=Sp.dq hi' lo y/\zq ((hi'*18446744073709551616+lo)*2^s-q*(y*2^s)) (2^s)=Sp.dr hi' lo y:=by
   intro q f1 f2;unfold Sp.dq Sp.dr;generalize hi'*18446744073709551616+lo=M at*;rw[<-zu]at f1 f2;have g1:q*y<=M:=Int.le_of_mul_le_mul_right f1 hP;have g2:M<(q+1)*y:=Int.lt_of_mul_lt_mul_right f2 (yv hP);rw[yd,yn]at g2;obtain⟨u1,u2⟩:=(Int.ediv_emod_unique (a:=M) (b:=y) (r:=M-q*y) (q:=q) (by omega)).2 ⟨by rw[yo y q];omega,by omega,by omega⟩;refine⟨u1.symm,?_⟩;rw[u2, <-zu, <-Int.sub_mul,yr _ (yv hP)];exact Int.mul_ediv_cancel _ (by omega)
  obtain⟨Y,eY⟩:=zi (show 0<=y*2^s by omega);obtain⟨C,eC⟩:=zi cP0;have hU0:0<=hi'*2^s+lo/2^(64-s):=by omega
  have hUY:hi'*2^s+lo/2^(64-s)<y*2^s:=by omega
  rw[hs,es,es2,zo,zo,em,em2,ewy,ewh,efd,eio,elo];rw[eC]at hN cP1 ⊢;rw[eY]at hlt hge hUY fin ⊢;generalize hU:hi'*2^s+lo/2^(64-s)=U at*;generalize hM:(hi'*18446744073709551616+lo)*2^s=M at*;rw[Zr,Zr,Pp Y (by omega),Pp C (by omega)];have hY:(Y:Int)=((Y/4294967296:Nat):Int)*4294967296+((Y % 4294967296:Nat):Int):=by omega
  have b1:0<((Y/4294967296:Nat):Int)/\((Y/4294967296:Nat):Int)<4294967296:=by omega
  have b0:0<=((Y % 4294967296:Nat):Int)/\((Y % 4294967296:Nat):Int)<4294967296:=by omega
  have w1:0<=((C/4294967296:Nat):Int)/\((C/4294967296:Nat):Int)<4294967296:=by omega
  have w0:0<=((C % 4294967296:Nat):Int)/\((C % 4294967296:Nat):Int)<4294967296:=by omega
  have hC:(C:Int)=((C/4294967296:Nat):Int)*4294967296+((C % 4294967296:Nat):Int):=by omega
  generalize ((Y/4294967296:Nat):Int)=y1 at*;generalize ((Y % 4294967296:Nat):Int)=y0 at*;generalize ((C/4294967296:Nat):Int)=w at*;generalize ((C % 4294967296:Nat):Int)=z at*;refine zf uy (zf z0 (zf rfl (zf z0 (zf (w4 (by omega)) (zf z0 (zf rfl (zf (w4 (by omega)) ?_)))))));obtain⟨n,r,e1,e2,n1,n2,n3,n4,n5⟩:=start (u:=U) (w:=w) hY b1 b0.1 (by omega) w1.2;rw[e1,e2];refine Al (Y:Int) s y1 y0 U w z hY b1 b0 hUY w1 (fun p p0 hp=>?_) n r n1 n2 n3 n4 n5;have er:=Q4 hp (by omega);rw[er];have hp1:=hp.1;have hp2:=hp.2;rw[yd,yn]at hp2;obtain⟨m,t,k1,k2,m1,m2,m3,m4,m5⟩:=start (u:=U*4294967296+w-p*Y) (w:=z) hY b1 b0.1 (by omega) w0.2;rw[k1,k2];refine A2 (Y:Int) s y1 y0 _ z p hY b1 b0 (by omega) w0 (by omega) (fun q q0 hq ob=>?_) m t m1 m2 m3 m4 m5;rw[Q4 hq (by omega),zo,em];obtain⟨hq1,hq2⟩:=hq;have ez:(p*4294967296+q)*(Y:Int)=p*Y*4294967296+q*Y:=by
   rw[yd,zu,yo 4294967296 (Y:Int), <-zu]
  have ez1:(p*4294967296+q+1)*(Y:Int)=p*Y*4294967296+q*Y+Y:=by
   rw[yd,ez,yn]
  rw[yd,yn]at hq2;obtain⟨f1,f2⟩:=fin (p*4294967296+q) (by rw[ez];omega) (by rw[ez1];omega);refine hg _ _ _ ?_ ?_
  ·have hb:Sp.dq hi' lo y<18446744073709551616:=by
    unfold Sp.dq;refine Int.ediv_lt_of_lt_mul (by omega) ?_;have:=yf (show hi'+1<=y by omega) (show(0:Int)<=18446744073709551616 by decide);omega
   rw[<-f1]at hb ⊢;rw[K9,K9];omega
  ·rw[<-f2,ez];congr 1;omega
end T271
end Go.Pe
