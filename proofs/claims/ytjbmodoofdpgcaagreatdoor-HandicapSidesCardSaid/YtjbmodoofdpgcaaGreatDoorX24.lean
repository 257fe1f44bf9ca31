import Derived.Test.YtjbmodoofdpgcaaGreatDoorX15
/- A part of a proof; no law is stated here. -/
noncomputable section
open Go.Pe.Ends renaming tt -> zc, leaf -> zg, ite -> zj, Ap -> zm, ff -> zn, eq -> yj
open Go.IntKind renaming wrap -> zd
open Int renaming toNat_natCast -> ze, tdiv -> zz
open List renaming getD_eq_getElem?_getD -> zf, getElem?_eq_getElem -> zh, length_map -> zi, take -> zo, mem_of_mem_drop -> zp, drop_eq_getElem_cons -> zq, mem_cons_self -> zt, take_succ_eq_append_getElem -> zw, take_append_drop -> zx, getElem_mem -> z7, all_eq_true -> yb, length_take -> yc, drop -> yd, take_of_length_le -> ye, mem_map -> ym
open Go.Pe.Sh renaming list -> zk, str -> zr, bool -> yi
open Nat renaming add -> zl, zero_le -> zu, le_refl -> yg, sub -> yn
open Rat renaming le_of_lt -> zy, not_le -> yk
open Option renaming getD_some -> z6, getD -> yh
open Bool renaming and_eq_true -> z8
open Go.Sp renaming first -> yf
namespace Go.Sp
def Nj(l:List Cp):Int:=if 256<l.length then 5 else Db l
def K4(l:List Cp):Rat:=cC<|l.map AJ
def lW(m:Rat):Int:=if m<= -1 then -1 else if 3<=m then 3 else Bp m
def On(l:List Cp):Int:=if Nj l≠0 then 0 else if l.length<8 then 0 else lW<|K4 l
end Go.Sp
namespace Go.Pe
open Go.Det
def xD:An:=⟨[.list .str],fun l=>decide (List.length (α:=Rd) l<=1000000)&&List.all (α:=Rd) l (fun s=>decide (s.length<=1000000)),[i64,i64],fun l=>(Sp.On l,Sp.Nj l),false⟩
def LL:AX:=X7 [(49,bW),(26,Pq),(65,uS),(68,R4),(69,pV)]
def J1:AX:=(bK [(22,[15,16])] [(22,[(15,[(7,AL)])])] [(22,[(20,[9]),(16,[9]),(15,[7,8]),(12,[0]),(9,[0,13,14,15]),(5,[0,13,14,15]),(4,[0,13,14,15]),(3,[0])])] [(61,FZ),(41,YE),(43,cF),(46,Q1),(44,Qp),(64,fH),(45,lM)]).wr [(63,S3)]
end Go.Pe
namespace Go.Sp
def Mc(h:List Int)(e b:Int)(w:List Int):Bool:=if b≠0 then decide (h=[])&&decide (e=b)else decide (e=0)&&decide (h=w)
end Go.Sp
namespace Go.Pe
open Go.Det
def Vp:An:=⟨[Hv,Hv],fun i=>decide (List.length (α:=Int) i.1<=1000000),[.bool],fun i=>decide (i.1=i.2),false⟩
def mY:An:=⟨[Hv,i64,i64,Hv],fun i=>decide (List.length (α:=Int) i.1<=1000000),[.bool],fun i=>Sp.Mc i.1 i.2.1 i.2.2.1 i.2.2.2,false⟩
def XU:An:=⟨[.list .str],fun l=>decide (Sp.Nj l=0),[i64],fun l=>Sp.On l,false⟩
def Sq:An:=⟨[Hv,Hv,.list .str],fun _=>true,[.bool],fun _=>true,false⟩
def Aae:AX:=X7 [(51,QB)]
def rD:AX:=X7 [(48,Rp)]
def zU:AX:=X7 [(37,Vp)]
def jD:AX:=X7 [(6,Ry),(15,X9),(16,ZH),(17,sI),(18,mY),(19,sM),(8,GB),(20,JK),(11,YB),(21,Aa9),(22,xD),(23,Aat),(24,XU)]
open Sp
section
open List Int Prod
namespace T4
def tl(y:List Rd):Tr:=.ite (decide (length y<=1000000)&&List.all y fun s=>decide (length s<=1000000)) (.ite true (.ite (BO (decide ((length y:Int)>256)) 5==0) (.ite (decide (length y<=1000000)&&List.all y fun s=>decide (length s<=9223372036854775807)) (.ite (Db y !=0) (.ite true (.leaf (.dat yi<|Ht (On y) (Nj y) (Db y) 0) []) .fail)<|.ite (decide ((length y:Int)>20)) (.leaf (.bl true) [])<|.ite (decide (Nj y=0)) (.ite true (.leaf (.dat yi<|Ht (On y) (Nj y) 0<|On y) []) .fail) .fail) .fail)<|.ite (BO (decide ((length y:Int)>256)) 5 !=0) (.ite true (.leaf (.dat yi<|Ht (On y) (Nj y) (BO (decide ((length y:Int)>256)) 5) 0) []) .fail)<|.ite (decide ((length y:Int)>20)) (.leaf (.bl true) [])<|.ite (decide (Nj y=0)) (.ite true (.leaf (.dat yi<|Ht (On y) (Nj y) 0<|On y) []) .fail) .fail) .fail) .fail
def T(l p:List Int)(y:List Rd):Tr:=tree jD false 9 4<|Ae ([zk i64,zk i64,zk zr]) (l,p,y)
def L1(v0 v1:List Int)(v2:List Rd)(a:Int):Tr:=re ((T [] [] []).L.R.R.R.R)<|AE 139 [(0,.dat (zk i64) v0),(1,.dat (zk i64) v1),(2,.dat (zk zr) v2),(7,.dat i64 a)] [] 0
theorem Aj(l p:List Int)(y:List Rd):T l p y=let a:Tr:=.ck true<|.leaf (.dat yi true) [];.ck true (.ite false a<|.di ((length l:Int)>204) a<|.di ((length p:Int)>204) a<|.di ((length y:Int)>260) a<|L1 l p y 0):=by kernel_rfl
theorem Am(v0 v1:List Int)(v2:List Rd)(a:Int):stepT jD (L1 v0 v1 v2 a)=let b':Tr:=.leaf (.bl false) [];let f:=(length v0:Int) !=(length v1:Int);let b:=DD v0 (-99) 99;let e:=decide (length v0<=1000000);let h:=decide (length (H6 v0)<=1000000);let c:=Q4 v0 v1;let h':=decide (a<(length v2:Int));let i:=decide (length v1<=1000000);let d:=GD v0 v1;let g:Tr:=.ite (yf [DD v1 0 100,BO f 2]==0) (.cd (GD v0 v1=0)<|.ck true<|.ite (!Ht c d 0 c) b'<|tl v2)<|tl v2;.ite h' (.ck (decide (0<=a)&&h')<|.di ((↑(length<|getD v2 (toNat a) []):Int)>20) (.leaf (.bl true) [])<|L1 v0 v1 v2<|zd .i64<|a+1) (.ck e<|.ck (e&&i)<|.ck e<|.ite (DD v0 (-99) 99 !=0) (.ck h<|.ite (!Mc (H6 v0) b b []) b'<|.ck true<|.ite (!Ht c d b 0) b'<|tl v2)<|.cd (DD v0 (-99) 99=0)<|.ck h<|.ite (!Mc (H6 v0) b 0 (DK v0)) b'<|.ck i<|.ck true<|.ck (decide (2<=2)&&true&&decide (2<=1000000))<|.ite (yf [DD v1 0 100,BO f 2] !=0) (.ck true<|.ite (!Ht c d (yf [DD v1 0 100,BO f 2]) 0) b' g) g):=by kernel_rfl
end T4
namespace T65
def T(a:Rd):Tr:=tree Aae false 9 65<|Ae ([zr]) a
theorem Aj(a:Rd):T a=.ck (Sp.A4 a&&Sp.A4 [(49:UInt8),47,50]) (.leaf (.dat zr<|Sp.It a [(49:UInt8),47,50]) []):=by kernel_rfl
end T65
namespace T23
def T(l:List Rd):Tr:=tree rD false 9 23<|Ae ([zk zr]) l
def L1(v0:List Rd)(v3:Int):Tr:=re ((T []))<|AE 19 [(0,.dat (zk zr) v0),(3,.dat i64 v3)] [] 0
theorem Aj(l:List Rd):T l=L1 l 0:=by kernel_rfl
theorem Am(v0:List Rd)(v3:Int):stepT rD (L1 v0 v3)=let a:=getD v0 (toNat v3) [];let b':=decide (v3<(length v0:Int));.ite b' (.ck (decide (0<=v3)&&b')<|.cd (length a<=9223372036854775807)<|.ite (Sp.AH a !=0) (.leaf (.dat i64<|Sp.AH a) [])<|L1 v0<|zd .i64<|v3+1) (.leaf (.dat i64 (0:Int)) []):=by kernel_rfl
end T23
namespace T37
def T(a b:List Int):Tr:=tree Ec false 9 37<|Ae ([zk i64,zk i64]) (a,b)
def L1(v0 v1:List Int)(v5:Int):Tr:=re ((T [] []).R)<|AE 26 [(0,.dat (zk i64) v0),(1,.dat (zk i64) v1),(5,.dat i64 v5)] [] 0
theorem Aj(a b:List Int):T a b=.ite ((length a:Int) !=(length b:Int)) (.leaf (.bl false) []) (L1 a b 0):=by kernel_rfl
theorem Am(v0 v1:List Int)(v5:Int):stepT Ec (L1 v0 v1 v5)=let a:=decide (v5<(length v0:Int));.ite a (.ck (decide (0<=v5)&&a)<|.ck (decide (0<=v5)&&decide (v5<(length v1:Int)))<|.ite (getD v0 (toNat v5) 0 !=getD v1 (toNat v5) 0) (.leaf (.bl false) [])<|L1 v0 v1<|zd .i64<|v5+1) (.leaf (.bl true) []):=by kernel_rfl
end T37
namespace T18
def T(l:List Int)(e b:Int)(w:List Int):Tr:=tree zU false 9 18<|Ae ([zk i64,Sh.int IntKind.i64,Sh.int IntKind.i64,zk i64]) (l,e,b,w)
theorem Aj(l:List Int)(e b:Int)(w:List Int):T l e b w=.ite (b !=0) (.ite ((length l:Int)==0) (.leaf (.dat yi<|e==b) [])<|.leaf (.bl false) []) (.ite (e==0) (.cd (length l<=1000000)<|.leaf (.dat yi<|decide (l=w)) [])<|.leaf (.bl false) []):=by kernel_rfl
end T18
namespace T22
def T(l:List Rd):Tr:=tree J1 false 9 22<|Ae ([zk zr]) l
def L1(v0:List Rd)(c:List Rd)(b a:Int):Tr:=re ((T []).R)<|AE 60 [(0,.dat (zk zr) v0),(13,.dat (zk zr) c),(14,.dat i64 b),(15,.dat i64 a)] [] 0
theorem Aj(l:List Rd):T l=.di ((length l:Int)>256) (.leaf (.tup [.dat i64 (0:Int),.dat i64 (5:Int)]) []) (L1 l l ((length l:Int)) 0):=by kernel_rfl
def L2(v0:List Rd)(f:List Rd)(d c:Int)(b:Nat)(v9:List Rd)(e a:Int)(g:List Ah):Tr:=re ((stepT J1<|L1 v0 f d c).R.R.L)<|AE 23 [(3,.sl 0 4 0 b none),(9,.dat (zk zr) v9),(10,.dat i64 e),(11,.dat i64 a)] [(0,.arr false 88 AL g)] 1
theorem Am(v0:List Rd)(b:List Rd)(d a:Int):stepT J1 (L1 v0 b d a)=let c:=(length v0:Int);let b':=getD b (toNat a) [];.di (a<d) (.ck (decide (0<=a)&&decide (a<(length b:Int)))<|.cd (length b'<=1000000)<|.ite (AH b' !=0) (.leaf (.tup [.dat i64 (0:Int),.dat i64<|AH b']) [])<|L1 v0 b d<|zd .i64<|a+1) (.di (c<8) (.leaf (.tup [.dat i64 (0:Int),.dat i64 (0:Int)]) [])<|.ck (decide (0<=c)&&decide (c=c)&&decide (64*toNat c<=281474976710656)&&decide (c<9223372036854775808))<|L2 v0 b d a (toNat c) v0 c 0<|replicate (toNat c) ((0,[]),0,[])):=by kernel_rfl
def L3(b:List Ah)(a:Int):Tr:=re ((stepT J1<|L2 [] [] 0 0 0 [] 0 0 []).R.L)<|AE 60 [(7,.dat (zk AL) b),(8,.dat i64 a)] [] 0
theorem AU(v0:List Rd)(g:List Rd)(f e:Int)(b:Nat)(v9:List Rd)(c a:Int)(d:List Ah):stepT J1 (L2 v0 g f e b v9 c a d)=let h:=getD v9 (toNat a) [];.di (a<c) (.ck (decide (0<=a)&&decide (a<(length v9:Int)))<|.ck (H5 h)<|.ck (decide (0<=a)&&decide (a<(↑b:Int)))<|.cd (toNat a<length d)<|L2 v0 g f e b v9 c (zd .i64<|a+1)<|set d (toNat a)<|Js h) (.ck (RU d&&decide (b=length d)&&true)<|L3 (take b<|E2 d)<|(↑b:Int)):=by kernel_rfl
def L4(d:Int)(c:List Int)(b:Int)(a:List Int):Tr:=re ((stepT J1<|L3 [] 0).L.L.L.L.L.L.L)<|AE 60 [(9,.ptr 0 0)] [(0,.box [.dat i64 d,.dat (Sh.nlist<|Sh.int IntKind.u64) c,.dat i64 b,.dat (Sh.nlist<|Sh.int IntKind.u64) a])] 1
theorem BH(b:List Ah)(d:Int):stepT J1 (L3 b d)=let b':=zz (zd .i64<|d-1) 2;let c:=((2,BV 2),1,BV 1);let e:=zz d 2;let f:=getD b (toNat<|zd .i64 e) ((0,[]),0,[]);let g:=getD b (toNat<|zd .i64 b') ((0,[]),0,[]);let a:=Gt g f;.ck true (.ck (decide (0<=zd .i64 b')&&decide (zd .i64 b'<(length b:Int)))<|.ck true<|.ck (decide (0<=zd .i64 e)&&decide (zd .i64 e<(length b:Int)))<|.ck (Sp.CZ g&&Sp.CZ f)<|.ck true<|.ck (Sp.CZ a&&Sp.CZ c&&decide (Sp.vI (2,BV 2)≠0))<|L4 (tL a c) (uV a c) (uU a c)<|sY a c):=by kernel_rfl
theorem CA(e:Int)(b:List Int)(c:Int)(a:List Int):stepT J1 (L4 e b c a)=let d:=((e,b),c,a);let b':=(((-1),BV<| -1),1,BV 1);let f:=((3,BV 3),1,BV 1);.ck true (.ck (Sp.D2 d&&Sp.D2 b')<|.di (Iq d b'<=0) (.leaf (.tup [.dat i64 (-1:Int),.dat i64 (0:Int)]) [])<|.ck true<|.ck (Sp.D2 d&&Sp.D2 f)<|.di (Iq d f>=0) (.leaf (.tup [.dat i64 (3:Int),.dat i64 (0:Int)]) [])<|.ck (Sp.okV d)<|.leaf (.tup [.dat i64<|eB d,.dat i64 (0:Int)]) []):=by kernel_rfl
end T22
end
end Go.Pe
namespace Go.Sp
theorem Lu(s:Cp)(l:List Cp):Db (s::l)=if AH s≠0 then AH s else Db l:=by rw[Db]
theorem Ov:∀ {l:List Cp},Db l=0->∀s∈l,AH s=0
 |[],_,s,h=>by cases h
 |x::l,e,s,h=>by
  rw[Lu]at e;by_cases c:AH x=0
  ·rw[wc<|fun n=>n c]at e;rcases List.mem_cons.1 h with h|h
   ·rw[h];exact c
   ·exact Ov e s h
  ·rw[wd c]at e;exact wh e c
end Go.Sp
namespace Go.Pe
open Sp
open Go.Det
open Go.Sp (Ah Cp)
theorem kW:Dn J1:=Aa T61.ok<|Aa T41.ok<|Aa T43.ok<|Aa T46.ok<|Aa T44.ok<|Aa T64.ok<|Aa T45.ok AO
theorem mQ:∀g w,J1.ws g=some w->Fj Bb g w:=YJ (l:=[(63,S3)]) fun x a=>by
 cases List.mem_singleton.1 a;exact ZL
theorem gC{i n:Int}(h:0<=i/\i<n):(decide (0<=i)&&decide (i<n))=true:=Ad (w4 h.1)<|w4 h.2
theorem tY{s:Cp}(h:AH s=0):RS 600 (Js s) (AJ s):=⟨IM (Bn h).1,(Bn h).2⟩
namespace T22
variable {Q:PV->Ob->Prop}{l:List Cp}
theorem l4{m:Ah}{q:Rat}(h:RS 1300 m q)(a:∀ob,Q (.tup [.dat i64<|lW q,.dat i64 0]) ob):Ends J1 (L4 m.1.1 m.1.2 m.2.1 m.2.2) Q:=by
 have A:RS 1 (Sp.iF<| -1) ((-1:Int):Rat):=CW af af af;have B:RS 1 (Sp.iF 3) ((3:Int):Rat):=CW af af af;have e1:((-1:Int):Rat)= -1:=rfl;have e3:((3:Int):Rat)=3:=rfl;rw[e1]at A;rw[e3]at B;refine zm (CA ..) (zc rfl (zc (Ad (h.D2 af)<|A.D2 af)<|zj (fun c=>zg ?_)<|fun c=>zc rfl (zc (Ad (h.D2 af)<|B.D2 af)<|zj (fun d=>zg ?_)<|fun d=>zc (RY ⟨_,h.mono af⟩)<|zg ?_)))
 ·have c:q<= -1:=(h.Si A).1<|w6 c;unfold lW at a;rw[wd c]at a;exact a _
 ·have c:¬q<= -1:=fun x=>w7 c<|(h.Si A).2 x
  have d:3<=q:=Rat.not_lt.1 fun x=>by
   have:=(h.LC B).2 x;have d:Iq m (Sp.iF 3)>=0:=w6 d;omega
  unfold lW at a;rw[wc c,wd d]at a;exact a _
 ·have c:¬q<= -1:=fun x=>w7 c<|(h.Si A).2 x
  have d:q<3:=(h.LC B).1 (by
   have d:¬Iq m (Sp.iF 3)>=0:=w7 d;omega)
  have b: -1<q:=yk.1 c;have r1: -1<=Bp q:=J0 (by rw[e1];exact zy b);have r2:Bp q<=3:=JX (by rw[e3];exact zy d);have v:=W5 h af ae;have v:eB ((m.1.1,m.1.2),m.2.1,m.2.2)=Bp q:=v;unfold lW at a;rw[wc c,wc<|yk.2 d, <-v]at a;exact a _
theorem Acs(h:∀s∈l,AH s=0):(l.map Js).map Lh=l.map AJ:=by
 rw[List.map_map];refine List.map_congr_left fun s a=>?_
 exact(tY<|h s a).val.symm
theorem iU(h:∀s∈l,AH s=0):∀x∈l.map Js,RS 600 x (Lh x):=fun x a=>by
 obtain⟨s,b,e⟩:=ym.1 a;rw[<-e];have:=tY<|h s b;rw[<-this.val];exact this
theorem l3(h0:0<l.length)(i:l.length<=256)(h:∀s∈l,AH s=0)(e:∀ob,Q (.tup [.dat i64<|lW<|K4 l,.dat i64 0]) ob):Ends J1 (L3 (E2<|l.map Js) (l.length:Int)) Q:=by
 have d:=iU h;have n0:0<(l.map Js).length:=by rw[zi];exact h0
 have p:=Ko n0 fun x f=>⟨_,(d x f).mono af⟩
 have sl:(E2<|l.map Js).length=l.length:=by rw[p.length_eq,zi]
 have md:=Abp (K:=600) af n0 d;rw[Acs h]at md;have e1:zd .i64 (zz (zd .i64<|(l.length:Int)-1) 2)=(((l.length-1)/2:Nat):Int):=by
  rw[wr ((l.length:Int)-1) ae ae,show(l.length:Int)-1=((l.length-1:Nat):Int)by omega];show zd .i64 (((l.length-1)/2:Nat):Int)=_;exact wr _ ae ae
 have e2:zd .i64 (zz (l.length:Int) 2)=((l.length/2:Nat):Int):=by
  show zd .i64 ((l.length/2:Nat):Int)=_;exact wr _ ae ae
 have c:∀k,k<l.length->RS 600 ((E2<|l.map Js).getD k Sp.zeF) (Lh<|(E2<|l.map Js).getD k Sp.zeF):=fun k g=>by
  rw[zf,zh ae,z6];exact d _<|p.mem_iff.1<|z7 _
 have a:=c ((l.length-1)/2) ae;have b:=c (l.length/2) ae;have t:RS 1 (Sp.iF 2) ((2:Int):Rat):=CW af af af;have s:=a.add b af af;have fin:=l4 (Q:=Q) (md.mono af) e;refine zm (BH ..) ?_;conv=>zeta
 rw[e1,e2,sl,ze,ze];refine zc rfl (zc (gC ae)<|zc rfl (zc (gC ae)<|zc (a.vO b af af)<|zc rfl (zc (s.ok3 t af af<|by decide+kernel) ?_)));unfold Sp.mdF at fin;rw[zi]at fin;exact fin
theorem l2(h0:0<l.length)(m:l.length<=256)(h:∀s∈l,AH s=0)(k:∀ob,Q (.tup [.dat i64<|lW<|K4 l,.dat i64 0]) ob){u v:List Cp}{n j:Int}:∀(r:List Cp) (i:Nat) (A R:List Ah),l.drop i=r->i<=l.length->A.length=i->R.length=r.length->A++r.map Js=l.map Js->Ends J1 (L2 u v n j l.length l (l.length:Int) (i:Int)<|A++R) Q
 |[],i,A,R,g,f,c,b,e=>by
  have C:=drop_nil g f;have:R=[]:=List.length_eq_zero_iff.1 b;subst this;rw[List.map_nil,List.append_nil]at e;rw[List.append_nil,e];have n0:0<(l.map Js).length:=by rw[zi];exact h0
  have o:=iU h;have ok:RU (l.map Js)=true:=qQ ⟨List.length_pos_iff.1 n0,by rw[zi];omega,fun x a=>⟨_,(o x a).mono af⟩⟩;have p:=Ko n0 fun x a=>⟨_,(o x a).mono af⟩
  have tk:zo l.length (E2<|l.map Js)=E2 (l.map Js):=ye (by rw[p.length_eq,zi];exact yg _);refine zm (AU ..) (zn (w8 ae) (zc (Ad (Ad ok<|w4<|by rw[zi]) rfl) ?_));rw[tk];exact l3 h0 m h k
 |x::r,i,A,[],g,f,c,b,e=>by cases b
 |x::r,i,A,z::R,g,f,c,b,e=>by
  obtain⟨t,B,q⟩:=drop_cons (d:=([]:Cp)) g;have a:AH x=0:=h x (zp (i:=i)<|by rw[g];exact zt ..);have e1:=wn (i:=i) ae;have st:List.set (A++z::R) i (Js x)=(A++[Js x])++R:=by
   subst c;simp
  have w:i<(A++z::R).length:=by
   rw[List.length_append,List.length_cons];omega
  refine zm (AU ..) ?_;conv=>zeta
  rw[e1,ze,B,st];refine zc (w4 ae) (zc (gC ae) (zc (Rx a).2<|zc (gC ae)<|zc (w4 w) ?_));refine l2 h0 m h k r (i+1) (A++[Js x]) R q t (by simp[c]) (by simpa using b) ?_;rw[<-e];simp
theorem l1(f:l.length<=256)(h:∀s∈l,s.length<=1000000)(b:∀v e ob,(v,e)=(On l,Nj l)->Q (.tup [.dat i64 v,.dat i64 e]) ob):∀(r:List Cp) (i:Nat),l.drop i=r->i<=l.length->Db l=Db r->Ends J1 (L1 l l (l.length:Int) (i:Int)) Q
 |[],i,g,j,e=>by
  have t:=drop_nil g j;have a:Nj l=0:=by unfold Nj;rw[wc ae,e];rfl
  have e:Db l=0:=e;refine zm (Am ..) (zn (w8 ae)<|zj (fun c=>zg<|b _ _ _ ?_)<|fun c=>zc ?_ ?_)
  ·have c:=w6 c;unfold On;rw[a,wc af,wd ae]
  ·exact Ad (Ad (Ad (w4 ae)<|w4 rfl)<|w4<|by rw[ze];omega) (w4 ae)
  ·have c:=w7 c;rw[ze];refine l2 ae f (Ov e) (fun ob=>b _ _ _ ?_) l 0 [] _ rfl (zu _) rfl (by rw[List.length_replicate]) rfl;unfold On;rw[a,wc af,wc ae]
 |x::r,i,g,j,e=>by
  obtain⟨q,m,o⟩:=drop_cons (d:=([]:Cp)) g;have k:=h x (zp (i:=i) (by rw[g];exact zt ..));have e1:=wn (i:=i) ae;rw[Lu]at e;refine zm (Am ..) ?_;conv=>zeta
  rw[e1,ze,m];refine zc (w4 ae) (zc (gC ae)<|zc (w4 k)<|zj (fun c=>zg<|b _ _ _ ?_)<|fun c=>?_)
  ·have c:AH x≠0:=by simpa using c
   rw[wd c]at e;have a:Nj l=AH x:=by unfold Nj;rw[wc ae,e]
   unfold On;rw[a,wd c]
  ·have c:AH x=0:=by simpa using c
   rw[wc<|fun n=>n c]at e;exact l1 f h b r (i+1) o q e
theorem ok:Af Bb 22 xD:=by
 refine MW (X:=J1) rfl kW (d:=9) ag ag ag (fun(l:List Cp) a=>?_) (BK ag) mQ;have a:(decide (l.length<=1000000)&&l.all (fun s=>decide (s.length<=1000000)))=true:=a;rw[z8,yb]at a;have b:∀v e ob,(v,e)=(On l,Nj l)->Ac xD l (.tup [.dat i64 v,.dat i64 e]) ob:=fun v e ob h=>Ac.of rfl rfl h
 refine yj (Aj l)<|zj (fun c=>zg<|b _ _ _ ?_)<|fun c=>?_
 ·have c:=w6 c;have f:Nj l=5:=by unfold Nj;rw[wd ae]
  unfold On;rw[f,wd af]
 ·have c:=w7 c;exact l1 ae (fun s g=>w6<|a.2 s g) b l 0 rfl (zu _) rfl
end T22
theorem dE:Dn rD:=Aa T48.okU AO
namespace T23
theorem loop{Q:PV->Ob->Prop}(l:List Rd)(k:l.length<=1000000)(b:∀s∈l,s.length<=9223372036854775807):∀(r:List Rd) (i:Nat),l.drop i=r->i<=l.length->(∀ob,Q (.dat i64<|Db r) ob)->Ends rD (L1 l (i:Int)) Q
 |[],i,h,e,a=>by
  have:=drop_nil h e;exact zm (Am ..) (zn (w8 ae)<|zg<|a _)
 |x::r,i,h,e,a=>by
  obtain⟨m,g,j⟩:=drop_cons (d:=([]:Rd)) h;have f:=b x (zp<|by rw[h];exact zt ..);have e1:=wn (i:=i) ae;rw[Lu]at a;refine zm (Am ..) ?_;conv=>zeta
  rw[ze,g,e1];refine zc (w4 ae) (zc (ad ae ae)<|zc (w4 f)<|zj (fun c=>zg ?_)<|fun c=>loop l k b r (i+1) j m ?_)
  ·have c:AH x≠0:=by simpa using c
   rw[wd c]at a;exact a _
  ·have c:AH x=0:=by simpa using c
   rw[wc<|by rw[c];decide]at a;exact a
theorem ok:Af Bb 23 Aat:=by
 refine BL dE<|fun(l:List Rd) a=>?_;have a:(decide (l.length<=1000000)&&l.all fun s=>decide (s.length<=9223372036854775807))=true:=a;rw[z8,w5,yb]at a;exact yj (Aj l)<|loop l a.1 (fun s h=>w6<|a.2 s h) l 0 rfl (zu _) (fun ob=>Ac.of rfl rfl rfl)
end T23
namespace T37
variable {Q:PV->Ob->Prop}
theorem loop(a b:List Int)(o:a.length<=1000000)(m:a.length=b.length)(g:a=b->∀ob,Q (.bl true) ob)(d:a≠b->∀ob,Q (.bl false) ob):∀(k i:Nat),i+k=a.length->(∀j,j<i->a.getD j 0=b.getD j 0)->Ends Ec (L1 a b (i:Int)) Q
 |0,i,h,c=>by
  refine zm (Am ..) (zn (w8 ae)<|zg<|g ?_ _);refine List.ext_getElem m fun j s r=>?_
  have:=c j ae;rw[zf,zh s,zf,zh r]at this;exact this
 |k+1,i,h,c=>by
  have e1:=wn (i:=i) ae;have f:∀n:Nat,i<n->(decide ((0:Int)<=(i:Int))&&decide ((i:Int)<(n:Int)))=true:=fun n t=>ad ae ae
  refine zm (Am ..) ?_;conv=>zeta
  rw[e1,ze];refine zc (w4 ae) (zc (f _ ae) (zc (f _ ae)<|zj (fun z=>zg<|d ?_ _)<|fun z=>loop a b o m g d k (i+1) ae fun j q=>?_))
  ·rintro rfl;simp at z
  ·have z:a.getD i 0=b.getD i 0:=by simpa using z
   by_cases e:j=i
   ·rw[e];exact z
   ·exact c j ae
theorem ok:Af Bb 37 Vp:=by
 refine BL Dy<|fun(i:List Int×List Int) d=>?_;obtain⟨a,b⟩:=i;have d:a.length<=1000000:=w6 d;have c:∀v ob,v=decide (a=b)->Ac Vp (a,b) (.bl v) ob:=fun v ob e=>Ac.of rfl rfl e
 refine yj (Aj a b)<|zj (fun z=>zg<|c _ _ ?_)<|fun z=>?_
 ·refine(w8 fun e=>?_).symm;subst e;simp at z
 ·have z:a.length=b.length:=by
   have z:(a.length:Int)=(b.length:Int):=by simpa using z
   omega
  exact loop a b d z (fun e ob=>c _ _ (w4 e).symm) (fun e ob=>c _ _ (w8 e).symm) a.length 0 ae (fun j h=>wh h ae)
end T37
theorem lC:Dn zU:=Aa T37.ok AO
theorem T18.ok:Af Bb 18 mY:=by
 refine BL lC<|fun(i:List Int×Int×Int×List Int) a=>?_;obtain⟨h,e,b,w⟩:=i;have a:decide (h.length<=1000000)=true:=a;have f:∀v ob,v=Mc h e b w->Ac mY (h,e,b,w) (.dat .bool v) ob:=fun v ob x=>Ac.of rfl rfl x
 have g:∀v ob,v=Mc h e b w->Ac mY (h,e,b,w) (.bl v) ob:=fun v ob x=>Ac.of rfl rfl x
 refine yj (T18.Aj h e b w)<|zj (fun c=>zj (fun d=>zg<|f _ _ ?_)<|fun d=>zg<|g _ _ ?_)<|fun c=>zj (fun d=>zc a<|zg<|f _ _ ?_)<|fun d=>zg<|g _ _ ?_
 ·have c:b≠0:=by simpa using c
  have d:h=[]:=by simpa using d
  unfold Mc;rw[wd c,w4 d,Bool.true_and];rfl
 ·have c:b≠0:=by simpa using c
  have d:¬h=[]:=by simpa using d
  unfold Mc;rw[wd c,w8 d,Bool.false_and]
 ·have c:b=0:=by simpa using c
  have d:e=0:=by simpa using d
  unfold Mc;rw[wc ae,w4 d,Bool.true_and]
 ·have c:b=0:=by simpa using c
  have d:¬e=0:=by simpa using d
  unfold Mc;rw[wc ae,w8 d,Bool.false_and]
section
open List Int Prod
namespace T24
def T(l:List Rd):Tr:=tree LL false 9 24<|Ae ([zk zr]) l
def L1(v0:List Rd)(v4:Int):Tr:=re ((T []).R)<|AE 77 [(0,.dat (zk zr) v0),(3,.nil),(4,.dat i64 v4)] [] 0
theorem Aj(l:List Rd):T l=.di ((length l:Int)<8) (.leaf (.dat i64 (0:Int)) []) (L1 l 0):=by kernel_rfl
def L2(v0:List Rd)(v4 v5:Int):Tr:=re ((stepT LL<|L1 [] 0).L)<|AE 77 [(0,.dat (zk zr) v0),(3,.nil),(4,.dat i64 v4),(5,.dat i64 v5)] [] 0
theorem Am(v0:List Rd)(v4:Int):stepT LL (L1 v0 v4)=.di (v4<(length v0:Int)) (L2 v0 v4 0) (.ck true .fail):=by kernel_rfl
def L3(v0:List Rd)(a:Nat)(v4:Int)(b:List Rd):Tr:=re ((stepT LL<|L2 [] 0 0).R.L.L.L.L.L.L)<|AE 77 [(0,.dat (zk zr) v0),(3,.sl 0 1 0 a none),(4,.dat i64 v4)] [(0,.arr false 22 zr b)] 1
theorem AU(v0:List Rd)(v4 v5:Int):stepT LL (L2 v0 v4 v5)=.di (v5>0) .fail (.ck (decide (0<=v5)&&decide (0<=toNat v5)&&decide (toNat v5<=0))<|.ck (decide (0<=v4)&&decide (v4<(length v0:Int)))<|.ck (decide (0<=v5)&&true&&decide (toNat v5<=0)&&true)<|.ck true<|.ck (decide (1<=1)&&true&&true&&decide ((3*(0+1)+2000)*16<=562949953421312))<|.ck (decide (zl 0 1=length ([]++[]++[getD v0 (toNat v4) []]))&&decide ((3*zl 0 1+2000)*16<=562949953421312))<|L3 v0 1 (zd .i64<|v4+1)<|[]++[]++[getD v0 (toNat v4) []]++[]):=by kernel_rfl
def L4(v0:List Rd)(a:Nat)(v4 v5:Int)(b:List Rd):Tr:=re ((stepT LL<|L3 [] 0 0 []).L)<|AE 77 [(0,.dat (zk zr) v0),(3,.sl 0 1 0 a none),(4,.dat i64 v4),(5,.dat i64 v5)] [(0,.arr false 22 zr b)] 1
theorem BH(v0:List Rd)(a:Nat)(v4:Int)(b:List Rd):stepT LL (L3 v0 a v4 b)=let b':=zz (zd .i64<|(↑a:Int)-1) 2;let d:=zz (↑a:Int) 2;let h:Tr:=.ck true<|.leaf (.dat i64<|Bg [(51:UInt8)]) [];let f:=([45,49]:Rd);let g:=getD b (toNat<|zd .i64 b') [];let h':=getD b (toNat<|zd .i64 d) [];let e:=Ci g h';let c:=Tn (S9 e) [(49:UInt8)];.di (v4<(length v0:Int)) (L4 v0 a v4 ((↑a:Int)) b) (.ck true<|.ck (decide (0<=zd .i64 b')&&decide (zd .i64 b'<(↑a:Int)))<|.cd (toNat (zd .i64 b')<length b)<|.ck true<|.ck (decide (0<=zd .i64 d)&&decide (zd .i64 d<(↑a:Int)))<|.cd (toNat (zd .i64 d)<length b)<|.ck (A4 g&&A4 h')<|.ck (A4 e)<|.ck (VS (S9 e) [(49:UInt8)])<|.ck (A4 f&&E1 c)<|.di (Sy f c>=0) (.ck true<|.ite false h<|.ck true<|.leaf (.dat i64<|Bg f) [])<|.ck (A4 [(51:UInt8)]&&E1 c)<|.di (Sy [(51:UInt8)] c<=0) h<|.ck (Tc c)<|.leaf (.dat i64<|Bg c) []):=by kernel_rfl
theorem CA(v0:List Rd)(a:Nat)(v4 v5:Int)(b:List Rd):stepT LL (L4 v0 a v4 v5 b)=let b':=length<|take (toNat v5) b;let c:=zd .i64<|v5-1;let g:=decide (yh none a<=yh none a);let h:=decide (0<=v4)&&decide (v4<(length v0:Int));let f:=drop (zl 0<|toNat v5) b;let i:=yn a<|toNat v5;let e:=take i f;let h':=zl 0 b';let d:Tr:=.ck (decide (0<=v5)&&true&&decide (0<=toNat v5)&&decide (toNat v5<=yh none a)&&g&&true)<|.ck h<|.ck (decide (0<=v5)&&true&&true&&decide (toNat v5<=a)&&decide (a<=yh none a)&&g&&true)<|.ck (decide (0+toNat v5<=length b)&&true&&true&&decide ((3*(0+length (take (toNat v5) b))+2000)*16<=562949953421312))<|.ck (decide (1<=1)&&true&&decide (zl 0 b'=length ([]++take (toNat v5) b))&&decide ((3*(zl 0 b'+1)+2000)*16<=562949953421312))<|.ck (decide (zl 0 (toNat v5)+yn a (toNat v5)<=length b)&&true&&decide (zl h' 1=length ([]++take (toNat v5) b++[getD v0 (toNat v4) []]))&&decide ((3*(zl h' 1+length e)+2000)*16<=562949953421312))<|L3 v0 (zl (zl h' 1)<|length e) (zd .i64<|v4+1)<|[]++take (toNat v5) b++[getD v0 (toNat v4) []]++take i f;.di (v5>0) (.ck (decide (0<=zd .i64 (v5-1))&&decide (zd .i64 (v5-1)<(↑a:Int)))<|.cd (toNat c<length b)<|.ck h<|.ck (A4 (getD b (toNat c) [])&&E1 (getD v0 (toNat v4) []))<|.di (Sy (getD b (toNat c) []) (getD v0 (toNat v4) [])>0) (L4 v0 a v4 c b) d) d:=by kernel_rfl
end T24
end
end Go.Pe
namespace Go.Sp
theorem Ye:Nu 1 [45,49] (-1):=by
 refine⟨by decide+kernel,?_⟩;unfold Fo;decide+kernel
theorem fJ:Nu 1 [51] 3:=by
 refine⟨by decide+kernel,?_⟩;unfold Fo;decide+kernel
theorem Acl(m:Rat):(if Bp m<= -1 then -1 else if 3<=Bp m then 3 else Bp m)=lW m:=by
 have e1:((-1:Int):Rat)= -1:=rfl;have e3:((3:Int):Rat)=3:=rfl;unfold lW;by_cases a:m<= -1
 ·rw[wd a,wd<|JX<|by rw[e1];exact a]
 ·rw[wc a];by_cases b:3<=m
  ·have r:3<=Bp m:=J0 (by rw[e3];exact b);rw[wd b,wc ae,wd r]
  ·rw[wc b];have r1: -1<=Bp m:=J0 (by rw[e1];exact zy<|yk.1 a);have r2:Bp m<=3:=JX (by rw[e3];exact zy<|yk.1 b);by_cases c:Bp m<= -1
   ·rw[wd c];omega
   ·rw[wc c];by_cases d:3<=Bp m
    ·rw[wd d];omega
    ·rw[wc d]
end Go.Sp
namespace Go.Pe
open Sp
open Go.Det
open Go.Sp (Cp)
theorem Abc{s:Cp}{q:Rat}(h:Sp.Nu 1300 s q):VS s [49]=true/\Sp.Nu 1304 (Tn s [49]) (Bp q:Rat):=by
 have a:=h.H3 Ig (by decide+kernel);have ad:=a.Ci Hy;have fl:=ad.E7;have b:=fl.It Ig;have e:((q/1+1/2).floor:Rat)*1=(Bp q:Rat):=by
  unfold Bp;rw[Rat.mul_one,show q/1=q by grind]
 rw[e]at b;refine⟨?_,b.mono af⟩;unfold VS;rw[h.num af,a.num af,ad.num af,fl.num af,Ig.nz af<|by decide+kernel];rfl
theorem cL:Dn Aae:=Aa T51.ok AO
theorem T65.ok:Af Bb 65 uS:=by
 refine BL cL<|fun(a:Rd) ha=>?_;exact yj (T65.Aj a) (zc (Ad ha<|Hy.num af)<|zg<|Ac.of rfl rfl rfl)
theorem dL:Dn LL:=Aa T49.ok<|Aa T26.ok<|Aa T65.ok<|Aa T68.ok<|Aa T69.ok AO
namespace T24
structure Ins(l:List Cp)(i:Nat)(u:List Cp):Prop where
 p:u.Perm (l.take i)
 s:(u.map AJ).Pairwise fun a b=>a<=b
theorem Ins.len{l:List Cp}{i:Nat}{u:List Cp}(h:Ins l i u)(a:i<=l.length):u.length=i:=by
 rw[h.p.length_eq,yc];omega
theorem Ins.step{l:List Cp}{i:Nat}{u:List Cp}(h:Ins l i u){x:Cp}{r:List Cp}(g:l.drop i=x::r){k:Nat}(v:k<=u.length)(lo:k=0\/AJ (u.getD (k-1) [])<=AJ x)(t:∀j,k<=j->j<u.length->AJ x<AJ (u.getD j [])):Ins l (i+1) (u.take k++x::u.drop k):=by
 refine⟨?_,?_⟩
 ·obtain⟨n,_,_⟩:=drop_cons (d:=([]:Cp)) g;have e:l.take (i+1)=l.take i++[x]:=by
   have:=zx i l;rw[g]at this;have e2:l[i]=x:=by
    have:=zq n;rw[g]at this;exact(List.cons.inj this).1.symm
   rw[zw n,e2]
  rw[e];refine List.perm_middle.trans ?_;rw[zx];exact(h.p.cons x).trans (List.perm_append_singleton x _).symm
 ·have s:=h.s;rw[<-zx k u,List.map_append,List.pairwise_append]at s;obtain⟨s1,s2,s3⟩:=s;rw[List.map_append,List.map_cons,List.pairwise_append,List.pairwise_cons];have up:∀b∈(u.drop k).map AJ,AJ x<b:=fun b c=>by
   obtain⟨y,m,rfl⟩:=ym.1 c;obtain⟨j,hj,rfl⟩:=List.getElem_of_mem m;rw[List.length_drop]at hj;have:=t (k+j) ae ae;rw[zf,zh ae,z6]at this;rw[List.getElem_drop];exact this
  have q:∀a∈(u.take k).map AJ,a<=AJ x:=fun a f=>by
   rcases lo with rfl|lo
   ·simp at f
   ·by_cases o:k=0
    ·subst o;simp at f
    refine Rat.le_trans ?_ lo;obtain⟨y,m,rfl⟩:=ym.1 f;obtain⟨j,hj,rfl⟩:=List.getElem_of_mem m;rw[yc]at hj;rw[List.getElem_take,zf,zh ae,z6];by_cases e:j=k-1
    ·subst e;exact Rat.le_refl
    ·have:=List.pairwise_iff_getElem.1 h.s j (k-1) (by rw[zi];omega) (by rw[zi];omega) ae;simpa using this
  refine⟨s1,⟨fun b c=>zy<|up b c,s2⟩,fun a f b c=>?_⟩;rcases List.mem_cons.1 c with rfl|c
  ·exact q a f
  ·exact s3 a f b c
structure Xs(l:List Cp):Prop where
 z:8<=l.length
 n:l.length<=256
 e:Nj l=0
 nu:∀s∈l,∃q,Sp.Nu 600 s q
variable {Q:PV->Ob->Prop}{l:List Cp}
theorem fin(ok:Xs l)(c:∀ob,Q (.dat i64<|On l) ob){u:List Cp}(h:Ins l l.length u):Ends LL (L3 l l.length (l.length:Int) u) Q:=by
 have E:=ok.z;have l1:=ok.n;have l2:=ok.nu;have C:=h.len<|yg _;have r:u.Perm l:=by have:=h.p;rwa [List.take_length]at this
 have e1:zd .i64 (zz (zd .i64<|(l.length:Int)-1) 2)=(((l.length-1)/2:Nat):Int):=by
  rw[wr ((l.length:Int)-1) ae ae,show(l.length:Int)-1=((l.length-1:Nat):Int)by omega];show zd .i64 (((l.length-1)/2:Nat):Int)=_;exact wr _ ae ae
 have e2:zd .i64 (zz (l.length:Int) 2)=((l.length/2:Nat):Int):=by
  show zd .i64 ((l.length/2:Nat):Int)=_;exact wr _ ae ae
 have nu:∀k,k<l.length->Sp.Nu 600 (u.getD k []) ((HY<|l.map AJ).getD k 0):=fun k D=>by
  have f:k<u.length:=ae
  have es:u.map AJ=HY (l.map AJ):=QJ h.s (Xj _)<|(r.map _).trans (Qd _).symm;rw[<-es,zf,zf,List.getElem?_map,zh f];obtain⟨q,c⟩:=l2 _<|r.mem_iff.1<|z7 f;show Sp.Nu 600 u[k]<|AJ u[k];rw[c.rat];exact c
 have a:=nu ((l.length-1)/2) ae;have b:=nu (l.length/2) ae;have s:=a.Ci b;have m:Sp.Nu 1300 (S9<|Ci (u.getD ((l.length-1)/2) [])<|u.getD (l.length/2) []) (K4 l):=by
  have m:=(s.It Hy).mono (show 600+600+1+1<=1300 by decide);have e:((HY<|l.map AJ).getD ((l.length-1)/2) 0+(HY<|l.map AJ).getD (l.length/2) 0)*(1/2)=K4 l:=by
   unfold K4 cC xI;rw[UJ,zi];grind
  rw[e]at m;exact m
 have v:On l=lW (K4 l):=by
  unfold On;rw[ok.e,wc af,wc ae]
 rw[v, <-Acl]at c;obtain⟨r1,R⟩:=Abc m;have n1:((-1:Int):Rat)= -1:=rfl;have w:((3:Int):Rat)=3:=rfl;have g:=Ye.cmp R;have j:=fJ.cmp R;rw[<-n1]at g;rw[<-w]at j;simp only[Rat.intCast_lt_intCast]at g j;have A:=gC (i:=(((l.length-1)/2:Nat):Int)) (n:=(l.length:Int)) ae;have B:=gC (i:=((l.length/2:Nat):Int)) (n:=(l.length:Int)) ae;refine zm (BH ..) (zn (w8 ae)<|zc rfl ?_);rw[e1,e2,ze,ze];generalize S9 (Ci (u.getD ((l.length-1)/2) [])<|u.getD (l.length/2) [])=t at*;refine zc A (zc (w4 ae)<|zc rfl (zc B<|zc (w4 ae)<|zc (Ad (a.num af)<|b.num af)<|zc (s.num af)<|zc r1<|zc (Ad (Ye.num af)<|R.E1 af)<|zj (fun z=>?_)<|fun z=>zc (Ad (fJ.num af)<|R.E1 af)<|zj (fun y=>?_)<|fun y=>?_)) 
 ·have z:=w6 z;rw[g]at z;have d:Bp (K4 l)<= -1:=by
   refine Int.not_lt.1 fun x=>?_
   rw[wd x]at z;omega
  rw[wd d]at c;exact zc rfl (zn rfl (zc rfl (zg<|c _)))
 ·have z:=w7 z;have y:=w6 y;rw[g]at z;rw[j]at y;have d:¬Bp (K4 l)<= -1:=fun x=>by
   rw[wc ae]at z;split at z<;>omega
  have o:3<=Bp (K4 l):=by
   refine Int.not_lt.1 fun x=>?_
   rw[wc ae,wd x]at y;omega
  rw[wc d,wd o]at c;exact zc rfl (zg<|c _)
 ·have z:=w7 z;have y:=w7 y;rw[g]at z;rw[j]at y;have d:¬Bp (K4 l)<= -1:=fun x=>by
   rw[wc ae]at z;split at z<;>omega
  have o:¬3<=Bp (K4 l):=fun x=>by
   by_cases e:3<Bp (K4 l)
   ·rw[wd e]at y;omega
   ·rw[wc e,wc ae]at y;omega
  rw[wc d,wc o]at c;have t:=uN (n:=Bp<|K4 l) ae;rw[<-R.t]at t;rw[<-t.2]at c;exact zc t.1<|zg<|c _
theorem inner(ok:Xs l){i:Nat}{u:List Cp}(h:Ins l i u){x:Cp}{r:List Cp}(b:l.drop i=x::r)(s:∀v,Ins l (i+1) v->Ends LL (L3 l (i+1) ((i+1:Nat):Int) v) Q):∀k:Nat,k<=i->(∀j,k<=j->j<u.length->AJ x<AJ (u.getD j []))->Ends LL (L4 l i (i:Int) (k:Int) u) Q:=by
 have l1:=ok.n;have l2:=ok.nu;obtain⟨F,A,_⟩:=drop_cons (d:=([]:Cp)) b;have t:=h.len ae;have e1:=wn (i:=i) ae;have g:=gC (i:=(i:Int)) (n:=(l.length:Int)) ae;obtain⟨qx,nx⟩:=l2 x (zp<|by rw[b];exact zt);intro k;induction k with
 |zero=>
  intro C f;have st:=s _<|h.step b (k:=0) (zu _) (.inl rfl)<|fun j w=>f j w;refine zm (CA ..) (zn (w8 ae) ?_);rw[ze,ze,A,e1];have m:zl (zl (zl 0 (zo 0 u).length) 1) (zo (yn i 0)<|yd (zl 0 0) u).length=i+1:=by simp;omega
  have q:[]++zo 0 u++[x]++zo (yn i 0) (yd (zl 0 0) u)=zo 0 u++x::yd 0 u:=by simp[<-t]
  rw[m,q];exact zc (by simp) (zc g<|zc (by simp)<|zc (by simp)<|zc (by simp)<|zc (by simp;omega) st)
 |succ k E=>
  intro C f;have e2:zd .i64 (((k+1:Nat):Int)-1)=(k:Int):=by rw[wr _ ae ae];omega
  have a:k<u.length:=ae
  have D:u.getD k []∈l:=by
   rw[zf,zh a];exact List.mem_of_mem_take<|h.p.mem_iff.1<|z7 a
  obtain⟨G,c⟩:=l2 _ D;have B:=c.cmp nx;refine zm (CA ..) (zc (w4 ae) ?_);rw[e2,ze,ze,ze,A,e1];refine zc (gC ae) (zc (w4 a)<|zc g<|zc (Ad (c.num af)<|nx.E1 af)<|zj (fun z=>?_)<|fun z=>?_)
  ·have z:=w6 z;have lt:AJ x<AJ (u.getD k []):=by
    rw[nx.rat,c.rat];rw[B]at z;grind
   refine E ae fun j w o=>?_
   by_cases e:j=k
   ·subst e;exact lt
   ·exact f j ae o
  ·have z:=w7 z;have le:AJ (u.getD k [])<=AJ x:=by
    rw[nx.rat,c.rat];rw[B]at z;grind
   have st:=s _ (h.step b (k:=k+1) ae (.inr<|by rw[Nat.add_sub_cancel];exact le) f);have H:(zo (k+1) u).length=k+1:=by rw[yc];omega
   have m:zl (zl (zl 0 (zo (k+1) u).length) 1) (zo (yn i<|k+1)<|yd (zl 0<|k+1) u).length=i+1:=by simp;omega
   have q:[]++zo (k+1) u++[x]++zo (yn i<|k+1) (yd (zl 0<|k+1) u)=zo (k+1) u++x::yd (k+1) u:=by
    simp[<-t];exact ye (by rw[List.length_drop];exact yg _)
   rw[m,q];exact zc (by simp;omega) (zc g<|zc (by simp;omega)<|zc (by simp;omega)<|zc (by simp;omega)<|zc (by simp;omega) st)
theorem loop(ok:Xs l)(b:∀ob,Q (.dat i64<|On l) ob):∀(k i:Nat) (u:List Cp),i+k=l.length->Ins l i u->Ends LL (L3 l i (i:Int) u) Q
 |0,i,u,a,h=>by
  have a:i=l.length:=a;subst a;exact fin ok b h
 |k+1,i,u,a,h=>by
  have f:i<l.length:=ae
  have c:l.drop i=l[i]::l.drop (i+1):=zq f;refine zm (BH ..) (zc (w4 ae) ?_);exact inner ok h c (fun v e=>loop ok b k (i+1) v ae e) i (yg _) (fun j g d=>by rw[h.len ae]at d;omega)
theorem ok:Af Bb 24 XU:=by
 refine BL dL<|fun(l:List Cp) hl=>?_;have a:Nj l=0:=w6 hl;have b:∀v ob,v=On l->Ac XU l (.dat i64 v) ob:=fun v ob e=>Ac.of rfl rfl e
 have c:=a;unfold Nj at c;by_cases n:256<l.length
 ·rw[wd n]at c;cases c
 rw[wc n]at c;refine yj (Aj l)<|zj (fun z=>zg<|b _ _ ?_)<|fun z=>?_
 ·have z:=w6 z;unfold On;rw[a,wc af,wd ae]
 have z:=w7 z;have ok:Xs l:=⟨by omega,by omega,a,fun s m=>⟨_,TN<|Ov c s m⟩⟩;have n0:0<l.length:=ae
 have f:l.drop 0=l[0]::l.drop 1:=zq n0;obtain⟨_,i,_⟩:=drop_cons (d:=([]:Cp)) f;have g:Ins l 0 []:=⟨List.Perm.refl _,List.Pairwise.nil⟩;have st:=loop ok (Q:=Ac XU l) (fun ob=>b _ _ rfl) (l.length-1) 1 _ ae (g.step f (k:=0) (zu _) (.inl rfl) (fun j _ h=>by cases h));refine zm (Am ..) (zc (w4 ae) (zm (AU ..)<|zn rfl (zc rfl (zc (gC ae)<|zc rfl (zc rfl (zc rfl (zc rfl ?_)))))));rw[show Int.toNat 0=0 from rfl,i];exact st
end T24
end Go.Pe
namespace Go.Sp
theorem mW{e:Int}(h:e≠0)(l:List Int):first (e::l)=e:=by unfold first;rw[wd h]
end Go.Sp
namespace Go.Pe
open Sp
open Go.Det
open Go.Sp (Cp)
theorem iH:Dn jD:=Aa TG<|Aa T15.ok<|Aa T16.ok<|Aa T17.ok<|Aa T18.ok<|Aa T19.ok<|Aa T8.ok<|Aa T20.ok<|Aa T11.ok<|Aa T21.ok<|Aa T22.ok<|Aa T23.ok<|Aa T24.ok AO
theorem UH(n e b w:Int)(h:if b≠0 then n=0/\e=b else e=0/\n=w):Ht n e b w=true:=by
 unfold Ht;split at h
 ·next c=>rw[wd c,w4 h.1,w4 h.2];rfl
 ·next c=>rw[wc c,w4 h.1,w4 h.2];rfl
theorem sQ(n:List Int)(e b:Int)(w:List Int)(h:if b≠0 then n=[]/\e=b else e=0/\n=w):Mc n e b w=true:=by
 unfold Mc;split at h
 ·next c=>rw[wd c,w4 h.1,w4 h.2];rfl
 ·next c=>rw[wc c,w4 h.1,w4 h.2];rfl
namespace T4
variable {Q:PV->Ob->Prop}{l p:List Int}{y:List Cp}
theorem tail(o:y.length<=260)(i:∀s∈y,s.length<=20)(h:∀ob,Q (.bl true) ob)(j:∀ob,Q (.dat .bool true) ob):Ends jD (tl y) Q:=by
 have g:∀n:Nat,20<=n->(decide (y.length<=1000000)&&y.all fun s=>decide (s.length<=n))=true:=fun n m=>by
  rw[z8,w5,yb];exact⟨by omega,fun s k=>w4<|Nat.le_trans (i s k) m⟩
 have f:∀(b:Bool) ob,b=true->Q (.dat .bool b) ob:=fun b ob e=>by rw[e];exact j ob
 refine zc (g 1000000 af)<|zc rfl ?_;by_cases c:256<y.length
 ·have e:BO (decide ((y.length:Int)>256)) 5=5:=by rw[w4 ae];rfl
  have a:Nj y=5:=by unfold Nj;rw[wd c]
  have v0:On y=0:=by unfold On;rw[a,wd af]
  refine zn (by rw[e];rfl) (zc (by rw[e];rfl)<|zc rfl (zg<|f _ _ ?_));rw[e,a,v0];rfl
 ·have e:BO (decide ((y.length:Int)>256)) 5=0:=by rw[w8 ae];rfl
  have a:Nj y=Db y:=by unfold Nj;rw[wc c]
  refine zc (by rw[e];rfl) (zc (g _ af)<|zj (fun d=>zc rfl (zg<|f _ _ ?_))<|fun d=>zj (fun _=>zg<|h _)<|fun _=>zc ?_<|zc rfl (zg<|f _ _ ?_))
  ·have d:Db y≠0:=by simpa using d
   refine UH _ _ _ _ ?_;rw[wd d];refine⟨?_,a⟩;unfold On;rw[a,wd d]
  ·have d:Db y=0:=by simpa using d
   exact w4<|a.trans d
  ·have d:Db y=0:=by simpa using d
   refine UH _ _ _ _ ?_;rw[wc af];exact⟨a.trans d,rfl⟩
theorem main(A:l.length<=204)(B:p.length<=204)(u:y.length<=260)(j:∀ob,Q (.bl true) ob)(t:∀ob,Q (.dat .bool true) ob):∀(r:List Cp) (i:Nat),y.drop i=r->i<=y.length->(∀s∈y.take i,s.length<=20)->Ends jD (L1 l p y (i:Int)) Q
 |x::r,i,g,v,h=>by
  obtain⟨m,n,z⟩:=drop_cons (d:=([]:Cp)) g;have e1:=wn (i:=i) ae;refine zm (Am ..) ?_;conv=>zeta
  rw[e1,ze,n];refine zc (w4 ae) (zc (gC ae)<|zj (fun _=>zg<|j _)<|fun c=>main A B u j t r (i+1) z m fun s a=>?_);have c:=w7 c;rw[zw m]at a;rcases List.mem_append.1 a with a|a
  ·exact h s a
  ·have e:y[i]=x:=by
    rw[zf,zh m]at n;exact n
   rw[List.mem_singleton.1 a,e];omega
 |[],i,g,v,h=>by
  have w:=drop_nil g v;have h:∀s∈y,s.length<=20:=by
   rw[w,List.take_length]at h;exact h
  have tl:=tail (Q:=Q) u h j t;have l1:decide (l.length<=1000000)=true:=w4 ae;have q:decide (p.length<=1000000)=true:=w4 ae;have o:(H6 l).length<=1000000:=by
   unfold H6;split
   ·exact zu _
   ·unfold DK;rw[zi];omega
  refine zm (Am ..) (zn (w8 ae)<|zc l1<|zc (Ad l1 q)<|zc l1<|zj (fun c=>?_)<|fun c=>?_)
  ·have c:DD l (-99) 99≠0:=by simpa using c
   have f:GD l p=DD l (-99) 99:=mW c _;have k:Mc (H6 l) (DD l (-99) 99) (DD l (-99) 99) []=true:=by
    refine sQ _ _ _ _ ?_;rw[wd c];refine⟨?_,rfl⟩;unfold H6;rw[wd c]
   have b:Ht (Q4 l p) (GD l p) (DD l (-99) 99) 0=true:=by
    refine UH _ _ _ _ ?_;rw[wd c];refine⟨?_,f⟩;unfold Q4;rw[f,wd c]
   exact zc (w4 o) (zn (by rw[k];rfl) (zc rfl (zn (by rw[b];rfl) tl)))
  ·have c:DD l (-99) 99=0:=by simpa using c
   have k:Mc (H6 l) (DD l (-99) 99) 0 (DK l)=true:=by
    refine sQ _ _ _ _ ?_;rw[wc af];refine⟨c,?_⟩;unfold H6;rw[c,wc af]
   have f:GD l p=yf [DD p 0 100,BO ((l.length:Int) !=(p.length:Int)) 2]:=by
    unfold GD;rw[c];show yf (0::_)=_
    rw[yf,wc af]
   refine zc (w4 c) (zc (w4 o)<|zn (by rw[k];rfl)<|zc q<|zc rfl (zc rfl ?_));rw[<-f];refine zj (fun d=>?_)<|fun d=>?_
   ·have d:GD l p≠0:=by simpa using d
    have b:Ht (Q4 l p) (GD l p) (GD l p) 0=true:=by
     refine UH _ _ _ _ ?_;rw[wd d];refine⟨?_,rfl⟩;unfold Q4;rw[wd d]
    exact zc rfl (zn (by rw[b];rfl)<|zn (by simpa using d) tl)
   ·have d:GD l p=0:=by simpa using d
    have b:Ht (Q4 l p) (GD l p) 0 (Q4 l p)=true:=by
     refine UH _ _ _ _ ?_;rw[wc af];exact⟨d,rfl⟩
    exact zc (by rw[d];rfl) (zc (w4 d) (zc rfl (zn (by rw[b];rfl) tl)))
theorem ok:Af Bb 4 Sq:=by
 refine BL iH<|fun(i:List Int×List Int×List Cp) _=>?_;obtain⟨l,p,y⟩:=i;have d:∀ob,Ac Sq (l,p,y) (.dat .bool true) ob:=fun ob=>Ac.of rfl rfl rfl
 have f:∀ob,Ac Sq (l,p,y) (.bl true) ob:=fun ob=>Ac.of rfl rfl rfl
 refine yj (Aj l p y)<|zc rfl (zn rfl (zj (fun _=>zc rfl (zg<|d _))<|fun a=>zj (fun _=>zc rfl (zg<|d _))<|fun b=>zj (fun _=>zc rfl (zg<|d _))<|fun c=>?_));have a:=w7 a;have b:=w7 b;have c:=w7 c;exact main ae ae ae f d y 0 rfl (zu _) (fun s e=>by rw[List.take_zero]at e;cases e)
end T4
abbrev PW:An:=Sq
end Go.Pe
