import Derived.Test.YtipkapecgjpnlaaGreatDoorX04
import Derived.Shelf.SlSortCmp.WholeK
import Derived.Shelf.SlSortCmp.NoneTotal
import Derived.Below
/- A part of a proof; no law is stated here. -/
noncomputable section
open Bool renaming and_eq_true -> zc
open List renaming all_eq_true -> zd, getElem?_eq_some_iff -> ze, mem_cons_self -> zh, mem_cons_of_mem -> zj, mem_singleton -> zl, getElem?_append_left -> zm
open Nat renaming le_of_ble_eq_true -> zf, eq_of_beq_eq_true -> zg, beq -> zi, ble -> zn
open Array renaming getElem?_eq_some_iff -> zk
namespace Go.Det
open Go.Proofs Go.Sort
def Zk:Go.Shelf.Ren:=⟨fun|6=>147|15=>130|14=>222|28=>191|29=>192|20=>267|21=>268|22=>269|23=>270|24=>271|25=>272|26=>273|27=>274|46=>305|47=>246|48=>247|49=>306|50=>307|57=>322|n=>n,fun|22=>22|24=>25|25=>149|3=>3|39=>183|0=>0|53=>242|55=>206|4=>4|46=>236|45=>235|50=>191|5=>5|9=>9|66=>283|70=>287|76=>315|77=>316|n=>n,fun|n=>n⟩
theorem vH:Go.Proofs.SlLaysF0.n6 Go.Proofs.Tryz.prog Zk:=
 {mixed:=by kernel_rfl,
  f6:=⟨Go.Proofs.Tryz.f147.name,by kernel_rfl,Go.Proofs.Tryz.func147.trans<|wi some ag⟩,
  f14:=⟨Go.Proofs.Tryz.f222.name,by kernel_rfl,Go.Proofs.Tryz.func222.trans<|wi some ag⟩,
  f15:=Go.Proofs.Tryz.func130.trans (wi some ag),
  f20:=⟨Go.Proofs.Tryz.f267.name,by kernel_rfl,Go.Proofs.Tryz.func267.trans<|wi some ag⟩,
  f21:=⟨Go.Proofs.Tryz.f268.name,by kernel_rfl,Go.Proofs.Tryz.func268.trans<|wi some ag⟩,
  f22:=⟨Go.Proofs.Tryz.f269.name,by kernel_rfl,Go.Proofs.Tryz.func269.trans<|wi some ag⟩,
  f23:=⟨Go.Proofs.Tryz.f270.name,by kernel_rfl,Go.Proofs.Tryz.func270.trans<|wi some ag⟩,
  f24:=⟨Go.Proofs.Tryz.f271.name,by kernel_rfl,Go.Proofs.Tryz.func271.trans<|wi some ag⟩,
  f25:=⟨Go.Proofs.Tryz.f272.name,by kernel_rfl,Go.Proofs.Tryz.func272.trans<|wi some ag⟩,
  f26:=⟨Go.Proofs.Tryz.f273.name,by kernel_rfl,Go.Proofs.Tryz.func273.trans<|wi some ag⟩,
  f27:=⟨Go.Proofs.Tryz.f274.name,by kernel_rfl,Go.Proofs.Tryz.func274.trans<|wi some ag⟩,
  f28:=Go.Proofs.Tryz.func191.trans (wi some ag),
  f29:=Go.Proofs.Tryz.func192.trans (wi some ag),
  f46:=⟨Go.Proofs.Tryz.f305.name,by kernel_rfl,Go.Proofs.Tryz.func305.trans<|wi some ag⟩,
  f47:=Go.Proofs.Tryz.func246.trans (wi some ag),
  f48:=Go.Proofs.Tryz.func247.trans (wi some ag),
  f49:=⟨Go.Proofs.Tryz.f306.name,by kernel_rfl,Go.Proofs.Tryz.func306.trans<|wi some ag⟩,
  f50:=⟨Go.Proofs.Tryz.f307.name,by kernel_rfl,Go.Proofs.Tryz.func307.trans<|wi some ag⟩,
  f57:=⟨Go.Proofs.Tryz.f322.name,by kernel_rfl,Go.Proofs.Tryz.func322.trans<|wi some ag⟩,
  t0:=Go.Proofs.Tryz.underlying0,
  a0:=Go.Proofs.Tryz.isAgg0,
  z0:=Go.Proofs.Tryz.sizeOf0,
  v0:=Go.Proofs.Tryz.zeroValue0,
  t3:=Go.Proofs.Tryz.underlying3,
  a3:=Go.Proofs.Tryz.isAgg3,
  z3:=Go.Proofs.Tryz.sizeOf3,
  v3:=Go.Proofs.Tryz.zeroValue3,
  t4:=Go.Proofs.Tryz.underlying4,
  a4:=Go.Proofs.Tryz.isAgg4,
  z4:=Go.Proofs.Tryz.sizeOf4,
  v4:=Go.Proofs.Tryz.zeroValue4,
  t5:=Go.Proofs.Tryz.underlying5,
  a5:=Go.Proofs.Tryz.isAgg5,
  z5:=Go.Proofs.Tryz.sizeOf5,
  v5:=Go.Proofs.Tryz.zeroValue5,
  t9:=Go.Proofs.Tryz.underlying9,
  a9:=Go.Proofs.Tryz.isAgg9,
  z9:=Go.Proofs.Tryz.sizeOf9,
  v9:=Go.Proofs.Tryz.zeroValue9,
  t22:=Go.Proofs.Tryz.underlying22,
  a22:=Go.Proofs.Tryz.isAgg22,
  z22:=Go.Proofs.Tryz.sizeOf22,
  v22:=Go.Proofs.Tryz.zeroValue22,
  t25:=Go.Proofs.Tryz.underlying149,
  a25:=Go.Proofs.Tryz.isAgg149,
  z25:=Go.Proofs.Tryz.sizeOf149,
  v25:=Go.Proofs.Tryz.zeroValue149,
  t39:=Go.Proofs.Tryz.underlying183,
  a39:=Go.Proofs.Tryz.isAgg183,
  z39:=Go.Proofs.Tryz.sizeOf183,
  v39:=Go.Proofs.Tryz.zeroValue183,
  t45:=Go.Proofs.Tryz.underlying235,
  a45:=Go.Proofs.Tryz.isAgg235,
  z45:=Go.Proofs.Tryz.sizeOf235,
  v45:=Go.Proofs.Tryz.zeroValue235,
  t46:=Go.Proofs.Tryz.underlying236,
  a46:=Go.Proofs.Tryz.isAgg236,
  z46:=Go.Proofs.Tryz.sizeOf236,
  v46:=Go.Proofs.Tryz.zeroValue236,
  t50:=Go.Proofs.Tryz.underlying191,
  a50:=Go.Proofs.Tryz.isAgg191,
  z50:=Go.Proofs.Tryz.sizeOf191,
  v50:=Go.Proofs.Tryz.zeroValue191,
  t53:=Go.Proofs.Tryz.underlying242,
  a53:=Go.Proofs.Tryz.isAgg242,
  z53:=Go.Proofs.Tryz.sizeOf242,
  v53:=Go.Proofs.Tryz.zeroValue242,
  t55:=Go.Proofs.Tryz.underlying206,
  a55:=Go.Proofs.Tryz.isAgg206,
  z55:=Go.Proofs.Tryz.sizeOf206,
  v55:=Go.Proofs.Tryz.zeroValue206,
  t66:=Go.Proofs.Tryz.underlying283,
  a66:=Go.Proofs.Tryz.isAgg283,
  z66:=Go.Proofs.Tryz.sizeOf283,
  v66:=Go.Proofs.Tryz.zeroValue283,
  t70:=Go.Proofs.Tryz.underlying287,
  a70:=Go.Proofs.Tryz.isAgg287,
  z70:=Go.Proofs.Tryz.sizeOf287,
  v70:=Go.Proofs.Tryz.zeroValue287,
  t76:=Go.Proofs.Tryz.underlying315,
  a76:=Go.Proofs.Tryz.isAgg315,
  z76:=Go.Proofs.Tryz.sizeOf315,
  v76:=Go.Proofs.Tryz.zeroValue315,
  t77:=Go.Proofs.Tryz.underlying316,
  a77:=Go.Proofs.Tryz.isAgg316,
  z77:=Go.Proofs.Tryz.sizeOf316,
  v77:=Go.Proofs.Tryz.zeroValue316 }
section
abbrev Te:=FuncId->Option (List V->H->Option (V×H))
def Fh(P:Program)(s:Te):Prop:=∀f q,s f=some q->∀(p:Pl) (h:H) (w:World) (args:List V) (args':Array Value) v h',R p h w->Gp p->Au p args args'.toList->q args h=some (v,h')->
 Calls P f args' w fun e w'=>∃v' p',e=.returned v'/\Ac p' v v'/\Ext p h w p' h' w'
def gY(a b:Te):Te:=fun f=>match a f with
 |some q=>some q
 |none=>b f
variable {P:Program}
theorem HT{a b:Te}(c:Fh P a)(d:Fh P b):Fh P (gY a b):=by
 grind [gY,Fh]
def PF(C:Ctx)(s:Te):Ctx:={ C with spec:=s }
theorem IX{C:Ctx}(a:C.Ok P){s:Te}(h:Fh P s):(PF C s).Ok P where
 T:=a.T
 fn:=a.fn
 prim:=a.prim
 spec:=h
theorem EL{C:Ctx}(a:Du C)(s:Te):Du (PF C s):=a
theorem Sw{C:Ctx}(b:C.Ok P)(a:Du C)(c:P.follows .mixedOrders=true){n:Nat}{L:CH}(h:AX C n L=true):Fh P (Hj L):=mS (C':=C) b a c h
theorem AQ{C:Ctx}{n:Nat}:∀ {a b:CH},AX C n a=true->AX C n b=true->AX C n (a++b)=true
 |[],b,_,h=>h
 |(f,x,v)::a,b,h,k=>by
  simp only[AX,List.cons_append,zc]at h ⊢;exact⟨h.1,AQ h.2 k⟩
def Hu(C:Ctx)(n:Nat)(L:CH):Te:=fun f=>match Hj L f with
 |none=>none
 |some q=>some fun args h=>match q args h with
  |some x=>some x
  |none=>match AZ C n (.fn f args) h with
   |some [x]=>some x
   |_=>none
theorem Md{C:Ctx}(m:C.Ok P)(c:Du C)(i:P.follows .mixedOrders=true){n k:Nat}{L:CH}(u:AX C k L=true):Fh P (Hu C n L):=by
 intro f q d p h w args args' v h' l o a b;unfold Hu at d;cases j:Hj L f with
 |none=>grind
 |some s=>
  rw[j]at d;cases d;simp only at b;split at b
  case h_1=>rename_i x t;cases b;exact Sw m c i u f s j p h w args args' v h' l o a t
  case h_2=>
   split at b
   case h_2=>cases b
   rename_i x r;refine((EK m c i n).fn f args h _ r p w args' l o a).mono ?_;rintro e w' ⟨v1,z,v',p',g,rfl,A,y⟩;grind
theorem Mr{p:Pl}{h:H}{w w':World}(c:R p h w)(a:Go.RowKit.Below w.heap.size w w')(g:w.drawn<=w'.drawn):Ext p h w p h w':=by
 obtain⟨e,f,i,d,j⟩:=a;refine⟨(by simp),⟨c.len,fun b o a=>?_,c.inj⟩,d,ah,ah,e,i,f,ah,g⟩;obtain⟨r,m,y,g1,g2,g3⟩:=c.obj b o a;grind
def BP:List (Nat×O)->PM O->PM O
 |[],m=>m
 |(b,o)::l,m=>BP l<|m.set b<|some o
theorem Hf:∀ {l:List (Nat×O)} {m:PM O} {b:Nat} {o:O},(BP l m).get b=some o->(b,o)∈l\/m.get b=some o
 |[],m,b,o,h=>.inr h
 |(c,x)::l,m,b,o,h=>by
  rcases Hf (l:=l) h with h1|h1
  ·exact .inl<|zj _ h1
  ·rw[PM.Cz]at h1;by_cases e:b=c
   ·rw[wd e]at h1;cases h1;exact .inl<|e▸zh ..
   ·rw[wc e]at h1;exact .inr h1
theorem K5{n:Nat}:∀ {l:List (Nat×O)} {m:PM O} {b:Nat},(l.all fun x=>zn n x.1)=true->b<n->(BP l m).get b=m.get b
 |[],m,b,_,_=>rfl
 |(c,x)::l,m,b,h,d=>by
  rw[List.all_cons,zc]at h;have a:=zf h.1;have a:n<=c:=a;show(BP l<|m.set c<|some x).get b=_;rw[K5 h.2 d,PM.Cz,wc ae]
structure MY where
 f:FuncId
 a:List V
 foot:List (Nat×O)
 n:Nat
 v:V
 new:List (Nat×O)
 n':Nat
def X1:O->Bool
 | .cells cs _ _=>V.E9 cs
 |_=>false
def Acf(x:MY)(y:V×H):Bool:=V.beq y.1 x.v&&zi y.2.nx x.n'&&Td y.2 x.foot&&Td y.2 x.new
def Acd(x:MY)(y:V×H):Bool:=match x.new,y.1 with
 |[(b,o)],.tup (.sl c off len cap e::a)=>V.beq (.tup (.sl b off len cap e::a)) x.v&&V.E9 a&&zi y.2.nx x.n'&&Td y.2 x.foot&&La (y.2.get c) (some o)&&X1 o&&zn x.n c&&Nat.blt b x.n'&&Td ⟨BP x.foot .leaf,x.n⟩ x.foot&&x.foot.all fun z=>X1 z.2
 |_,_=>false
def myO(x:MY)(y:V×H):Bool:=Acf x y||Acd x y
def Wy(C:Ctx)(k:Nat)(x:MY):Bool:=(match AZ C k (.fn x.f x.a) ⟨BP x.foot .leaf,x.n⟩with
 |some l=>l.all<|myO x
 |none=>false)&&x.new.all fun y=>zn x.n y.1
def JV(C:Ctx)(k:Nat):List MY->Bool
 |[]=>true
 |x::l=>Wy C k x&&JV C k l
def iB:List MY->FuncId->Bool
 |[],_=>false
 |x::l,f=>bif zi x.f f then true else iB l f
def S4:List MY->FuncId->List V->H->Option (V×H)
 |[],_,_,_=>none
 |x::l,f,args,h=>bif zi x.f f&&V.JI x.a args&&zi x.n h.nx&&Td h x.foot then some (x.v,⟨BP x.new h.m,x.n'⟩)else S4 l f args h
def gK(C:Ctx)(k:Nat)(L:List MY):Te:=fun f=>bif iB L f then some fun args h=>match S4 L f args h with
  |some x=>some x
  |none=>match AZ C k (.fn f args) h with
   |some [x]=>some x
   |_=>none
 else none
theorem Zz{p q:Pl}{n:Nat}{o:O}{x:Obj}(b:X1 o=true)(h:JM p n o x):JM q n o x:=by
 cases o with
 |cells cs t fz=>
  obtain⟨c,fz',j,k,w,e,s⟩:=h;refine⟨c,fz',j,k,w,⟨e.1,fun i d v f m r=>?_⟩,s⟩;have u:d.flat=true:=by
   have b:V.E9 cs=true:=b;have key:∀ {l:List V},V.E9 l=true->∀z∈l,z.flat=true:=by
    intro l;induction l with
    |nil=>intro _ z a;cases a
    |cons y l g=>
     intro h z a;simp only[V.E9,zc]at h;rcases List.mem_cons.1 a with rfl|a
     ·exact h.1
     ·exact g h.2 z a
   exact key b d<|List.mem_of_getElem? f
  exact V.CB u<|e.2 i d v f m r
 |_=>cases b
theorem I0{x:MY}{b:Nat}{o:O}(a:H.get ⟨BP x.foot .leaf,x.n⟩ b=some o):(b,o)∈x.foot:=by
 rcases Hf (m:=.leaf) a with q|q
 ·exact q
 ·rw[PM.C1]at q;cases q
theorem Vc{x:MY}{p p':Pl}{h I:H}{w w':World}(s:R p h w)(S:h.nx=x.n)(v:∀z∈x.foot,h.get z.1=some z.2)(e:Ext p ⟨BP x.foot .leaf,x.n⟩ w p' I w')(O:I.nx=x.n')(M:∀z∈x.foot,I.get z.1=some z.2)(A:∀z∈x.new,I.get z.1=some z.2)(N:(x.new.all fun z=>zn x.n z.1)=true):Ext p h w p' ⟨BP x.new h.m,x.n'⟩ w':=by
 have fo:∀b o,H.get ⟨BP x.foot .leaf,x.n⟩ b=some o->(b,o)∈x.foot:=fun b o a=>by
  rcases Hf (m:=.leaf) a with q|q
  ·exact q
  ·rw[PM.C1]at q;cases q
 have lt:∀b o,h.get b=some o->b<x.n:=fun b o a=>by
  obtain⟨r,m,y,l,_,_⟩:=s.obj b o a;rw[<-S, <-s.len];exact(ze.1 l).1
 have out:∀b o,H.get ⟨BP x.new h.m,x.n'⟩ b=some o->(b,o)∈x.new\/h.get b=some o:=fun b o a=>Hf a
 have old:∀b,b<x.n->H.get ⟨BP x.new h.m,x.n'⟩ b=h.get b:=fun b a=>K5 N a
 obtain⟨q,L⟩:=e.pre;have up:∀b o z,h.get b=some o->p[b]?=some z->p'[b]?=some z:=fun b o z a F=>by
  rw[L,zm (ze.1 F).1];exact F
 have J:∀b o z,h.get b=some o->p'[b]?=some z->p[b]?=some z:=fun b o z a F=>by
  obtain⟨r,m,y,l,_,_⟩:=s.obj b o a;have:=up b o _ a l;rw[F]at this;cases this;exact l
 have Q:∀b o,(b,o)∈x.new->x.n<=b:=fun b o a=>zf<|zd.1 N _ a
 have T:∀b o r n,h.get b=some o->p[b]?=some (r,n)->Im p ⟨BP x.foot .leaf,x.n⟩ r->(b,o)∈x.foot:=fun b o r n a g ⟨b',o',n',u,i2⟩=>by
  have i3:=fo b' o' u;have:=s.inj b b' o o' r n n' a (v _ i3) g i2;subst this;have i4:=v _ i3;simp only at i4;rw[a]at i4;cases i4;exact i3
 have sub:∀r,Im p ⟨BP x.foot .leaf,x.n⟩ r->Im p h r:=fun r ⟨b,o,n,u,i2⟩=>⟨b,o,n,v _<|fo b o u,i2⟩
 have B:∀b b' o o' r n n',h.get b=some o->(b',o')∈x.new->p'[b]?=some (r,n)->p'[b']?=some (r,n')->False:=fun b b' o o' r n n' a d g f=>by
  obtain⟨V,m,y,l,E,_⟩:=s.obj b o a;have D:=J b o _ a g;rw[l]at D;cases D;have j:=(zk.1 E).1;rcases e.im r ⟨b',o',n',A _ d,f⟩with⟨c,z,K,u,i2⟩|i
  ·have i3:=fo c z u;have:=e.rel.inj c b' z o' r K n' (M _ i3) (A _ d) (up c z _ (v _ i3) i2) f;have U:=lt c z<|v _ i3;have W:=Q b' o' d;omega
  ·omega
 refine⟨e.pre,⟨by rw[e.rel.len,O],fun b o a=>?_,fun b b' o o' r n n' a d g f=>?_⟩,e.size,fun r j k=>e.same r j fun i=>k<|sub r i,fun r k=>?_,e.os,e.out,e.tape,fun r j G=>?_,e.dr⟩
 ·rcases out b o a with a|a
  ·exact e.rel.obj b o<|A _ a
  ·obtain⟨r,m,y,l,E,D⟩:=s.obj b o a;by_cases k:Im p ⟨BP x.foot .leaf,x.n⟩ r
   ·exact e.rel.obj b o<|M _<|T b o r m a l k
   ·refine⟨r,m,y,up b o _ a l,?_,?_⟩
    ·rw[e.same r (zk.1 E).1 k];exact E
    ·rw[L];exact D.mono q
 ·rcases out b o a with a|a<;>rcases out b' o' d with d|d
  ·exact e.rel.inj b b' o o' r n n' (A _ a) (A _ d) g f
  ·exact(B b' b o' o r n' n d a f g).elim
  ·exact(B b b' o o' r n n' a d g f).elim
  ·exact s.inj b b' o o' r n n' a d (J b o _ a g)<|J b' o' _ d f
 ·obtain⟨b,o,n,a,g⟩:=k;rcases out b o a with a|a
  ·rcases e.im r ⟨b,o,n,A _ a,g⟩with i|i
   ·exact .inl<|sub r i
   ·exact .inr i
  ·exact .inl ⟨b,o,n,a,J b o _ a g⟩
 ·obtain⟨b,n,cs,t,fz,a,g,G⟩:=G;refine⟨?_,.inl ⟨b,n,cs,t,fz,by rw[old b<|lt b _ a];exact a,up b _ _ a g,G⟩⟩;by_cases k:Im p ⟨BP x.foot .leaf,x.n⟩ r
  ·obtain⟨c,z,K,u,i2⟩:=k;have i3:=fo c z u;have:=s.inj b c _ z r n K a (v _ i3) g i2;subst this;have i4:=v _ i3;simp only at i4;rw[a]at i4;cases i4;exact(e.lock r j ⟨b,n,cs,t,fz,u,g,G⟩).1
  ·exact e.same r j k
theorem dF{C:Ctx}(hC:C.Ok P)(hce:Du C)(hm:P.follows .mixedOrders=true){k:Nat}{x:MY}(g:Wy C k x=true){p:Pl}{h:H}{w:World}{args':Array Value}(E:R p h w)(hg:Gp p)(ha:Au p x.a args'.toList)(W:h.nx=x.n)(I:Td h x.foot=true):
  Calls P x.f args' w fun e w'=>∃v' p',e=.returned v'/\Ac p' x.v v'/\Ext p h w p' ⟨BP x.new h.m,x.n'⟩ w':=by
 unfold Wy at g;rw[zc]at g;obtain⟨g,T⟩:=g;split at g
 case h_2=>cases g
 rename_i L he;have I:=Hx I;have lt:∀b o,h.get b=some o->b<x.n:=fun b o U=>by
  obtain⟨r,m,y,Z,_,_⟩:=E.obj b o U;rw[<-W, <-E.len];exact(ze.1 Z).1
 have hr':R p ⟨BP x.foot .leaf,x.n⟩ w:=⟨by rw[E.len,W],fun b o U=>E.obj b o<|I _<|I0 U,fun b b' o o' r n n' U hb'=>E.inj b b' o o' r n n' (I _<|I0 U)<|I _<|I0 hb'⟩;refine((EK hC hce hm k).fn x.f x.a _ _ he p w args' hr' hg ha).mono ?_;rintro e w' ⟨u,h1,v',p',O,rfl,k1,j⟩;have g:=zd.1 g _ O;unfold myO at g;rw[Bool.or_eq_true]at g;rcases g with g|g
 ·unfold Acf at g;simp only[zc]at g;obtain⟨⟨⟨x1,x2⟩,x3⟩,x4⟩:=g;have x1:=V.beq_eq x1;subst x1;exact⟨v',p',rfl,k1,Vc E W I j (zg x2) (Hx x3) (Hx x4) T⟩
 ·unfold Acd at g;split at g
  case h_2=>cases g
  rename_i b o c off len cap e M A hu;have hu:u=.tup (.sl c off len cap e::M):=hu;subst hu;simp only[zc]at g;obtain⟨⟨⟨⟨⟨⟨⟨⟨⟨y1,y2⟩,y3⟩,y4⟩,J⟩,y6⟩,y7⟩,y8⟩,ya⟩,y9⟩:=g;have ya:=Hx ya;have y1:=V.beq_eq y1;have y3:=zg y3;have y4:=Hx y4;have y7:x.n<=c:=zf y7;have y8:b<x.n':=by simpa [Gf]using y8
  have hb0:x.n<=b:=by
   have:=zd.1 T (b,o) (by rw[A];exact zh ..);exact zf this
  have hc:h1.get c=some o:=by
   have J:La (h1.get c) (some o)=true:=J;cases Q:h1.get c with
   |none=>rw[Q]at J;cases J
   |some z=>rw[Q]at J;rw[R8 (a:=z) (b:=o)<|by simpa [La]using J]
  obtain⟨q,Q⟩:=j.pre;have pl:p.length=x.n:=by rw[E.len,W]
  obtain⟨r,m,y,Z,g2,g3⟩:=j.rel.obj c o hc;have ln:p'.length=x.n':=by rw[j.rel.len];exact y3
  have G:(p'.set b (r,m))[b]?=some (r,m):=by rw[List.getElem?_set_self ae]
  have D:∀z,z≠b->(p'.set b (r,m))[z]?=p'[z]?:=fun z i=>List.getElem?_set_ne ae
  have ft:∀z d,(z,d)∈x.foot->z<x.n:=fun z d i=>lt z d<|I _ i
  have ex:Ext p ⟨BP x.foot .leaf,x.n⟩ w (p'.set b (r,m)) ⟨BP x.new<|BP x.foot .leaf,x.n'⟩ w':=by
   have get:∀z d,H.get ⟨BP x.new<|BP x.foot .leaf,x.n'⟩ z=some d->(z=b/\d=o)\/(z,d)∈x.foot:=fun z d i=>by
    rcases Hf i with s|s
    ·rw[A]at s;have:=zl.1 s;cases this;exact .inl ⟨rfl,rfl⟩
    ·exact .inr<|I0 s
   have B:∀z d,H.get ⟨BP x.new<|BP x.foot .leaf,x.n'⟩ z=some d->∃F,h1.get F=some d/\(p'.set b (r,m))[z]?=p'[F]?/\X1 d=true/\((z=b/\F=c)\/(z<x.n/\F=z)):=fun z d i=>by
    rcases get z d i with⟨rfl,rfl⟩|s
    ·exact⟨c,hc,by rw[G,Z],y6,.inl ⟨rfl,rfl⟩⟩
    ·have l:=ft z d s;exact⟨z,y4 _ s,D z ae,zd.1 y9 _ s,.inr ⟨l,rfl⟩⟩
   refine⟨⟨q.set (b-p.length) (r,m),by rw[Q,List.set_append_right _ _ ae]⟩,⟨by rw[List.length_set,ln],fun z d i=>?_,fun z F d K s n n' i hz' X S=>?_⟩,j.size,j.same,fun s ⟨z,d,n,i,X⟩=>?_,j.os,j.out,j.tape,fun s hlt hl=>?_,j.dr⟩
   ·obtain⟨F,Y,N,c3,_⟩:=B z d i;obtain⟨s,n,y,d1,d2,d3⟩:=j.rel.obj F d Y;exact⟨s,n,y,by rw[N];exact d1,d2,Zz c3 d3⟩
   ·obtain⟨u,Y,N,_,c4⟩:=B z d i;obtain⟨u',d1,d2,_,d4⟩:=B F K hz';rw[N]at X;rw[d2]at S;have:=j.rel.inj u u' d K s n n' Y d1 X S;omega
   ·obtain⟨u,Y,N,_,_⟩:=B z d i;rw[N]at X;exact j.im s ⟨u,d,n,Y,X⟩
   ·refine⟨(j.lock s hlt hl).1,.inl ?_⟩;obtain⟨z,n,cs,t,fz,e1,e2,e3⟩:=hl;have l:=ft z _<|I0 e1;refine⟨z,n,cs,t,fz,?_,?_,e3⟩
    ·show(BP x.new<|BP x.foot .leaf).get z=_;rw[K5 T l];exact e1
    ·rw[D z ae,Q,zm (ze.1 e2).1];exact e2
  refine⟨v',p'.set b (r,m),rfl,?_,Vc E W I ex rfl (fun z i=>?_) (fun z i=>?_) T⟩
  ·rw[<-y1];obtain⟨xs,rfl,h5⟩:=k1;refine⟨xs,rfl,?_⟩;obtain⟨a,Aeg,h6,h7,h8⟩:=h5;rw[h6,Bb];refine⟨?_,V.GS y2 h8⟩;obtain⟨s,n,c',i1,i2⟩:=h7;exact⟨s,n,c',by rw[G, <-Z];exact i1,i2⟩
  ·show(BP x.new<|BP x.foot .leaf).get z.1=_;rw[K5 T<|ft z.1 z.2 i];exact ya z i
  ·show(BP x.new<|BP x.foot .leaf).get z.1=_;rw[A]at i ⊢;rw[zl.1 i];show((BP x.foot .leaf).set b<|some o).get b=_;rw[PM.Cz,wd rfl]
theorem XW{C:Ctx}{k:Nat}:∀ {L:List MY} {f:FuncId} {args:List V} {h:H} {r:V×H},JV C k L=true->S4 L f args h=some r->∃x:MY,Wy C k x=true/\x.f=f/\x.a=args/\h.nx=x.n/\Td h x.foot=true/\r=(x.v,⟨BP x.new h.m,x.n'⟩)
 |x::L,f,args,h,r,d,b=>by
  simp only[JV,zc]at d;unfold S4 at b;cases c:(zi x.f f&&V.JI x.a args&&zi x.n h.nx&&Td h x.foot)with
  |false=>rw[c]at b;exact XW d.2 b
  |true=>
   rw[c]at b;cases b;simp only[zc]at c;obtain⟨⟨⟨g,i⟩,j⟩,e⟩:=c;exact⟨x,d.1,zg g,V.Gk i,(zg j).symm,e,rfl⟩
theorem dN{C:Ctx}(l:C.Ok P)(g:Du C)(i:P.follows .mixedOrders=true){k:Nat}{L:List MY}(A:JV C k L=true):Fh P (gK C k L):=by
 intro f q d p h w args args' v F j n b a;unfold gK at d;cases m:iB L f with
 |false=>rw[m]at d;cases d
 |true=>
  rw[m]at d;cases d;simp only at a;split at a
  case h_1=>
   rename_i x z;cases a;obtain⟨y,D,rfl,rfl,u,s,r⟩:=XW A z;cases r;exact dF l g i D j n b u s
  case h_2=>
   split at a
   case h_2=>cases a
   rename_i x o;cases a;refine((EK l g i k).fn f args h _ o p w args' j n b).mono ?_;rintro e w' ⟨v1,E,v',p',c,rfl,B,t⟩;cases zl.1 c;exact⟨v',p',rfl,B,t⟩
end
section
variable {C:Ctx}
def yN(C:Ctx):Ctx:=⟨C.T,C.ng,C.fn,C.prim,C.spec,false⟩
theorem qQ{P:Program}(h:C.Ok P):(yN C).Ok P where
 T:=h.T
 fn:=h.fn
 prim:=h.prim
 spec:=h.spec
theorem Wq(h:Du C):Du (yN C):=h
def eS(id:Nat):Code->Bool
 | .block i _=>zi i id
 | .seq _ b=>eS id b
 |_=>false
def Q8(j N:Nat):Nat->List X->List X
 |_,[]=>[]
 |q,x::l=>bif zi (Nat.mod q N) j then x::Q8 j N (Nat.add q 1) l else Q8 j N (Nat.add q 1) l
theorem Qq{N:Nat}(a:0<N):∀ {l:List X} (q:Nat) {x:X},x∈l->∃j,j<N/\x∈Q8 j N q l
 |y::l,q,x,h=>by
  rcases List.mem_cons.1 h with rfl|h
  ·refine⟨q % N,Nat.mod_lt _ a,?_⟩;unfold Q8;rw[show zi (Nat.mod q N) (q % N)=true from Nat.beq_refl _];exact zh ..
  ·obtain⟨j,c,b⟩:=Qq a (q+1) h;refine⟨j,c,?_⟩;unfold Q8;cases zi (Nat.mod q N) j with
   |true=>exact zj _ b
   |false=>exact b
def dI(C:Ctx)(call:CX)(ct:Bool)(id j N:Nat):Nat->Code->Fr->H->List Nat->Option (List X)
 |0,_,_,_,_=>none
 |m+1,c,fr,h,ds=>
  match c with
  | .seq a b=>match Bj C call none ct m a fr h ds with
   |some l=>bif eS id a then(bl (Q8 j N 0 l) fun x=>match x.e with
     | .normal=>Bj C call none ct m b x.fr x.h x.ds
     |_=>some [x])
    else(bl l fun x=>match x.e with
     | .normal=>dI C call ct id j N m b x.fr x.h x.ds
     |_=>some [x])
   |none=>none
  |c=>Bj C call none ct (m+1) c fr h ds
theorem lP{α d:Type}{G:d->Prop}{f:α->Option (List d)}:∀ {l:List α},(∀x∈l,∃r,f x=some r/\∀y∈r,G y)->∃r,bl l f=some r/\∀y∈r,G y
 |[],_=>⟨[],rfl,fun y a=>by cases a⟩
 |x::l,h=>by
  obtain⟨r,b,c⟩:=h x<|zh ..;obtain⟨s,h3,h4⟩:=lP (l:=l) fun y a=>h y<|zj _ a
  cases l with
  |nil=>exact⟨r,by simp only[bl,b],c⟩
  |cons z l=>
   refine⟨r++s,?_,fun y a=>?_⟩
   ·rw[bl,b];simp only[h3]
   ·rcases List.mem_append.1 a with a|a
    ·exact c y a
    ·exact h4 y a
theorem mE{call:CX}{ct:Bool}{id N:Nat}{G:X->Prop}(k:0<N):∀(m:Nat) (c:Code) (fr:Fr) (h:H) (ds:List Nat),
  (∀j,j<N->∃l,dI C call ct id j N m c fr h ds=some l/\∀x∈l,G x)->∃l,Bj C call none ct m c fr h ds=some l/\∀x∈l,G x
 |0,c,fr,h,ds,d=>by
  obtain⟨l,o,_⟩:=d 0 k;cases o
 |m+1,c,fr,h,ds,d=>by
  cases c with
  |seq a b=>
   simp only[dI]at d;simp only[Bj];cases t:Bj C call none ct m a fr h ds with
   |none=>
    obtain⟨l,o,_⟩:=d 0 k;rw[t]at o;cases o
   |some l=>
    simp only[t]at d;refine lP fun x p=>?_
    cases u:eS id a with
    |true=>
     simp only[u,we]at d;obtain⟨j,o,w⟩:=Qq k 0 p;obtain⟨r,g,f⟩:=d j o;obtain⟨s,h5,h6⟩:=EW g x w;exact⟨s,h5,fun y n=>f y<|h6 y n⟩
    |false=>
     simp only[u,wg]at d;cases q:x.e with
     |normal=>
      simp only;refine mE (id:=id) k m b x.fr x.h x.ds fun j v=>?_
      obtain⟨r,g,f⟩:=d j v;obtain⟨s,h5,h6⟩:=EW g x p;simp only[q]at h5;exact⟨s,h5,fun y n=>f y<|h6 y n⟩
     |exit i=>
      obtain⟨r,g,f⟩:=d 0 k;obtain⟨s,h5,h6⟩:=EW g x p;simp only[q]at h5;exact⟨s,h5,fun y n=>f y<|h6 y n⟩
     |ret=>
      obtain⟨r,g,f⟩:=d 0 k;obtain⟨s,h5,h6⟩:=EW g x p;simp only[q]at h5;exact⟨s,h5,fun y n=>f y<|h6 y n⟩
  |_=>exact d 0 k
def yV(C:Ctx)(i:Fn)(x:X):Option (List<|V×H):=match x.e with
 | .exit _=>none
 |_=>match FD x.ds x.h with
  |some a=>match OC C x.fr a i.results.toList with
   |some v=>some [(v,a)]
   |none=>none
  |none=>none
def jJ(C:Ctx)(i:Fn)(y:MY)(x:X):Bool:=match yV C i x with
 |some l=>l.all<|myO y
 |none=>false
def tP(C:Ctx)(k:Nat)(y:MY)(id j N:Nat):Bool:=match C.fn y.f with
 |some i=>(match dI C (AZ C k) i.cert id j N k i.body (JP i.ntmps y.a) ⟨BP y.foot .leaf,y.n⟩ []with
  |some l=>l.all<|jJ C i y
  |none=>false)
 |none=>false
theorem AaY{k:Nat}{y:MY}{id N:Nat}(u:C.mg=false)(m:C.spec y.f=none)(e:0<N)(h:∀j,j<N->tP C k y id j N=true)(b:(y.new.all fun z=>zn y.n z.1)=true):Wy C (k+1) y=true:=by
 unfold Wy;rw[b,Bool.and_true,AZ];simp only[m];unfold tP at h;cases d:C.fn y.f with
 |none=>
  have:=h 0 e;rw[d]at this;cases this
 |some i=>
  simp only[d]at h;obtain⟨l,q,t⟩:=mE (C:=C) (G:=fun x=>jJ C i y x=true) e k i.body (JP i.ntmps y.a) ⟨BP y.foot .leaf,y.n⟩ [] fun j B=>by
   have g:=h j B;split at g
   ·next l s=>exact⟨l,s,fun x c=>zd.1 g x c⟩
   ·cases g
  have A:∃r,bl l (yV C i)=some r/\∀z∈r,myO y z=true:=lP fun x c=>by
   have g:=t x c;unfold jJ at g;split at g
   ·next r v=>exact⟨r,v,fun z o=>zd.1 g z o⟩
   ·cases g
  obtain⟨r,p,w⟩:=A;simp only[q];refine(show(match (match bl l (yV C i)with
   |some r=>some<|bif C.mg then LQ y.n r else r
   |none=>none)with
   |some l=>l.all<|myO y
   |none=>false)=true from ?_)
  rw[p];simp only[u,wg];exact zd.2 w
end
section
open Go.Proofs.Tryz (prog)
def Av(n d:Int):V:=.agg [.int .i64 n,.nils,.int .i64 d,.nils]
def MA0:CH:=[(86,[.str [55,50]],.int .i64<|0),
 (77,[.str [55,50]],Av (72) 1),
 (89,[Av (72) 1,Av (1) 1],.int .i64<|1),
 (89,[Av (72) 1,Av (200) 1],.int .i64<| -1),
 (83,[Av (85) 1,Av (72) 1],Av (13) 1),
 (78,[Av (13) 1,Av (100) 1],Av (1300) 1),
 (80,[Av (1300) 1,Av (120) 1],Av (65) 6),
 (78,[Av (65) 6,Av (10) 1],Av (325) 3),
 (80,[Av (1) 1,Av (2) 1],Av (1) 2)]
theorem yF:AX C7 1000 MA0=true:=by kernel_rfl
def MA1:CH:=[(82,[Av (325) 3,Av (1) 2],Av (653) 6),
 (155,[Av (653) 6],.agg [.int .i64<|108,.nils]),
 (134,[.agg [.int .i64<|108,.nils],.agg [.int .i64<|10,.nils]],Av (54) 5),
 (55,[Av (54) 5],.str [53,52,47,53]),
 (83,[Av (90) 1,Av (72) 1],Av (18) 1),
 (78,[Av (18) 1,Av (100) 1],Av (1800) 1),
 (80,[Av (1800) 1,Av (120) 1],Av (15) 1),
 (78,[Av (15) 1,Av (10) 1],Av (150) 1),
 (82,[Av (150) 1,Av (1) 2],Av (301) 2)]
theorem wG:AX C7 1000 MA1=true:=by kernel_rfl
def MA2:CH:=[(155,[Av (301) 2],.agg [.int .i64<|150,.nils]),
 (134,[.agg [.int .i64<|150,.nils],.agg [.int .i64<|10,.nils]],Av (15) 1),
 (83,[Av (95) 1,Av (72) 1],Av (23) 1),
 (78,[Av (23) 1,Av (100) 1],Av (2300) 1),
 (80,[Av (2300) 1,Av (120) 1],Av (115) 6),
 (78,[Av (115) 6,Av (10) 1],Av (575) 3),
 (82,[Av (575) 3,Av (1) 2],Av (1153) 6),
 (155,[Av (1153) 6],.agg [.int .i64<|192,.nils]),
 (134,[.agg [.int .i64<|192,.nils],.agg [.int .i64<|10,.nils]],Av (96) 5)]
theorem wD:AX C7 1000 MA2=true:=by kernel_rfl
def MA3:CH:=[(80,[Av (-3) 1,Av (2) 1],Av (-3) 2),
 (83,[Av (54) 5,Av (0) 1],Av (54) 5),
 (83,[Av (96) 5,Av (0) 1],Av (96) 5),
 (89,[Av (54) 5,Av (96) 5],.int .i64<| -1),
 (83,[Av (15) 1,Av (0) 1],Av (15) 1),
 (89,[Av (15) 1,Av (96) 5],.int .i64<| -1),
 (89,[Av (15) 1,Av (54) 5],.int .i64<|1),
 (82,[Av (0) 1,Av (54) 5],Av (54) 5),
 (80,[Av (54) 5,Av (1) 1],Av (54) 5)]
theorem wM:AX C7 1000 MA3=true:=by kernel_rfl
def MA4:CH:=[(82,[Av (54) 5,Av (-3) 2],Av (93) 10),
 (89,[Av (93) 10,Av (60) 1],.int .i64<| -1),
 (78,[Av (93) 10,Av (10) 1],Av (93) 1),
 (82,[Av (93) 1,Av (1) 2],Av (187) 2),
 (155,[Av (187) 2],.agg [.int .i64<|93,.nils]),
 (134,[.agg [.int .i64<|93,.nils],.agg [.int .i64<|10,.nils]],Av (93) 10),
 (55,[Av (15) 1],.str [49,53]),
 (55,[Av (0) 1],.str [48]),
 (55,[Av (96) 5],.str [57,54,47,53])]
theorem xY:AX C7 1000 MA4=true:=by kernel_rfl
def MA5:CH:=[(55,[Av (93) 10],.str [57,51,47,49,48]),
 (83,[Av (73) 1,Av (72) 1],Av (1) 1),
 (78,[Av (1) 1,Av (100) 1],Av (100) 1),
 (80,[Av (100) 1,Av (120) 1],Av (5) 6),
 (78,[Av (5) 6,Av (10) 1],Av (25) 3),
 (82,[Av (25) 3,Av (1) 2],Av (53) 6),
 (155,[Av (53) 6],.agg [.int .i64<|8,.nils]),
 (134,[.agg [.int .i64<|8,.nils],.agg [.int .i64<|10,.nils]],Av (4) 5),
 (83,[Av (93) 10,Av (4) 5],Av (17) 2)]
theorem vU:AX C7 1000 MA5=true:=by kernel_rfl
def MA6:CH:=[(89,[Av (17) 2,Av (10) 1],.int .i64<| -1),
 (89,[Av (17) 2,Av (7) 1],.int .i64<|1),
 (80,[Av (-2) 1,Av (2) 1],Av (-1) 1),
 (83,[Av (96) 5,Av (1) 1],Av (91) 5),
 (83,[Av (4) 5,Av (1) 1],Av (-1) 5),
 (89,[Av (91) 5,Av (-1) 5],.int .i64<|1),
 (83,[Av (54) 5,Av (1) 1],Av (49) 5),
 (89,[Av (49) 5,Av (91) 5],.int .i64<| -1),
 (89,[Av (49) 5,Av (-1) 5],.int .i64<|1)]
theorem wW:AX C7 1000 MA6=true:=by kernel_rfl
def MA7:CH:=[(83,[Av (15) 1,Av (1) 1],Av (14) 1),
 (89,[Av (14) 1,Av (91) 5],.int .i64<| -1),
 (89,[Av (14) 1,Av (49) 5],.int .i64<|1),
 (82,[Av (0) 1,Av (-1) 5],Av (-1) 5),
 (80,[Av (-1) 5,Av (1) 1],Av (-1) 5),
 (82,[Av (-1) 5,Av (-1) 1],Av (-6) 5),
 (82,[Av (93) 10,Av (3) 1],Av (123) 10),
 (89,[Av (-6) 5,Av (123) 10],.int .i64<| -1),
 (89,[Av (-6) 5,Av (60) 1],.int .i64<| -1)]
theorem wL:AX C7 1000 MA7=true:=by kernel_rfl
def MA8:CH:=[(78,[Av (-6) 5,Av (10) 1],Av (-12) 1),
 (82,[Av (-12) 1,Av (1) 2],Av (-23) 2),
 (155,[Av (-23) 2],.agg [.int .i64<| -12,.nils]),
 (134,[.agg [.int .i64<| -12,.nils],.agg [.int .i64<|10,.nils]],Av (-6) 5),
 (55,[Av (4) 5],.str [52,47,53]),
 (55,[Av (-6) 5],.str [45,54,47,53]),
 (83,[Av (91) 1,Av (72) 1],Av (19) 1),
 (78,[Av (19) 1,Av (100) 1],Av (1900) 1),
 (80,[Av (1900) 1,Av (120) 1],Av (95) 6)]
theorem xB:AX C7 1000 MA8=true:=by kernel_rfl
def MA9:CH:=[(78,[Av (95) 6,Av (10) 1],Av (475) 3),
 (82,[Av (475) 3,Av (1) 2],Av (953) 6),
 (155,[Av (953) 6],.agg [.int .i64<|158,.nils]),
 (134,[.agg [.int .i64<|158,.nils],.agg [.int .i64<|10,.nils]],Av (79) 5),
 (83,[Av (79) 5,Av (0) 1],Av (79) 5),
 (89,[Av (79) 5,Av (96) 5],.int .i64<| -1),
 (89,[Av (15) 1,Av (79) 5],.int .i64<| -1),
 (82,[Av (0) 1,Av (15) 1],Av (15) 1),
 (80,[Av (15) 1,Av (1) 1],Av (15) 1)]
theorem wN:AX C7 1000 MA9=true:=by kernel_rfl
def AbL:CH:=[(82,[Av (15) 1,Av (-3) 2],Av (27) 2),
 (89,[Av (27) 2,Av (60) 1],.int .i64<| -1),
 (78,[Av (27) 2,Av (10) 1],Av (135) 1),
 (82,[Av (135) 1,Av (1) 2],Av (271) 2),
 (155,[Av (271) 2],.agg [.int .i64<|135,.nils]),
 (134,[.agg [.int .i64<|135,.nils],.agg [.int .i64<|10,.nils]],Av (27) 2),
 (83,[Av (27) 2,Av (4) 5],Av (127) 10),
 (89,[Av (127) 10,Av (10) 1],.int .i64<|1),
 (83,[Av (96) 5,Av (2) 1],Av (86) 5)]
theorem nO:AX C7 1000 AbL=true:=by kernel_rfl
def AaJ:CH:=[(83,[Av (4) 5,Av (2) 1],Av (-6) 5),
 (89,[Av (86) 5,Av (-6) 5],.int .i64<|1),
 (83,[Av (79) 5,Av (2) 1],Av (69) 5),
 (89,[Av (69) 5,Av (86) 5],.int .i64<| -1),
 (89,[Av (69) 5,Av (-6) 5],.int .i64<|1),
 (83,[Av (15) 1,Av (2) 1],Av (13) 1),
 (89,[Av (13) 1,Av (86) 5],.int .i64<| -1),
 (89,[Av (13) 1,Av (69) 5],.int .i64<| -1),
 (89,[Av (13) 1,Av (-6) 5],.int .i64<|1)]
theorem sY:AX C7 1000 AaJ=true:=by kernel_rfl
def Aat:CH:=[(82,[Av (0) 1,Av (-6) 5],Av (-6) 5),
 (80,[Av (-6) 5,Av (1) 1],Av (-6) 5),
 (82,[Av (-6) 5,Av (-1) 1],Av (-11) 5),
 (82,[Av (27) 2,Av (3) 1],Av (33) 2),
 (89,[Av (-11) 5,Av (33) 2],.int .i64<| -1),
 (89,[Av (-11) 5,Av (60) 1],.int .i64<| -1),
 (78,[Av (-11) 5,Av (10) 1],Av (-22) 1),
 (82,[Av (-22) 1,Av (1) 2],Av (-43) 2),
 (155,[Av (-43) 2],.agg [.int .i64<| -22,.nils])]
theorem pS:AX C7 1000 Aat=true:=by kernel_rfl
def Aa5:CH:=[(134,[.agg [.int .i64<| -22,.nils],.agg [.int .i64<|10,.nils]],Av (-11) 5),
 (55,[Av (79) 5],.str [55,57,47,53]),
 (55,[Av (27) 2],.str [50,55,47,50]),
 (55,[Av (-11) 5],.str [45,49,49,47,53]),
 (86,[.str [57,51,47,49,48]],.int .i64<|0),
 (77,[.str [57,51,47,49,48]],Av (93) 10),
 (89,[Av (93) 10,Av (-20) 1],.int .i64<|1),
 (78,[Av (93) 10,Av (120) 1],Av (1116) 1),
 (80,[Av (1116) 1,Av (100) 1],Av (279) 25)]
theorem pT:AX C7 1000 Aa5=true:=by kernel_rfl
def Aci:CH:=[(82,[Av (279) 25,Av (72) 1],Av (2079) 25),
 (83,[Av (2079) 25,Av (71) 1],Av (304) 25),
 (78,[Av (304) 25,Av (1) 1],Av (304) 25),
 (82,[Av (304) 25,Av (1) 2],Av (633) 50),
 (155,[Av (633) 50],.agg [.int .i64<|12,.nils]),
 (134,[.agg [.int .i64<|12,.nils],.agg [.int .i64<|1,.nils]],Av (12) 1),
 (80,[Av (1140) 1,Av (100) 1],Av (57) 5),
 (78,[Av (57) 5,Av (1) 1],Av (57) 5),
 (82,[Av (57) 5,Av (1) 2],Av (119) 10)]
theorem pG:AX C7 1000 Aci=true:=by kernel_rfl
def AaQ:CH:=[(155,[Av (119) 10],.agg [.int .i64<|11,.nils]),
 (134,[.agg [.int .i64<|11,.nils],.agg [.int .i64<|1,.nils]],Av (11) 1),
 (80,[Av (650) 1,Av (100) 1],Av (13) 2),
 (78,[Av (13) 2,Av (1) 1],Av (13) 2),
 (82,[Av (13) 2,Av (1) 2],Av (7) 1),
 (155,[Av (7) 1],.agg [.int .i64<|7,.nils]),
 (134,[.agg [.int .i64<|7,.nils],.agg [.int .i64<|1,.nils]],Av (7) 1),
 (86,[.str [49]],.int .i64<|0),
 (77,[.str [49]],Av (1) 1)]
theorem rM:AX C7 1000 AaQ=true:=by kernel_rfl
def Abh:CH:=[(86,[.str [50]],.int .i64<|0),
 (77,[.str [50]],Av (2) 1),
 (86,[.str [51]],.int .i64<|0),
 (77,[.str [51]],Av (3) 1),
 (86,[.str [52]],.int .i64<|0),
 (77,[.str [52]],Av (4) 1),
 (86,[.str [53]],.int .i64<|0),
 (77,[.str [53]],Av (5) 1),
 (89,[Av (2) 1,Av (1) 1],.int .i64<|1)]
theorem sX:AX C7 1000 Abh=true:=by kernel_rfl
def AaB:CH:=[(89,[Av (2) 1,Av (2) 1],.int .i64<|0),
 (89,[Av (3) 1,Av (2) 1],.int .i64<|1),
 (89,[Av (3) 1,Av (3) 1],.int .i64<|0),
 (89,[Av (4) 1,Av (3) 1],.int .i64<|1),
 (89,[Av (5) 1,Av (4) 1],.int .i64<|1),
 (89,[Av (5) 1,Av (5) 1],.int .i64<|0),
 (82,[Av (3) 1,Av (3) 1],Av (6) 1),
 (80,[Av (6) 1,Av (2) 1],Av (3) 1),
 (89,[Av (3) 1,Av (-1) 1],.int .i64<|1)]
theorem rS:AX C7 1000 AaB=true:=by kernel_rfl
def AbM:CH:=[(78,[Av (3) 1,Av (1) 1],Av (3) 1),
 (82,[Av (3) 1,Av (1) 2],Av (7) 2),
 (155,[Av (7) 2],.agg [.int .i64<|3,.nils]),
 (134,[.agg [.int .i64<|3,.nils],.agg [.int .i64<|1,.nils]],Av (3) 1)]
theorem qA:AX C7 1000 AbM=true:=by kernel_rfl
def MA:CH:=(MA0++(MA1++(MA2++(MA3++(MA4++(MA5++(MA6++(MA7++(MA8++(MA9++(AbL++(AaJ++(Aat++(Aa5++(Aci++(AaQ++(Abh++(AaB++AbM))))))))))))))))))
theorem sp1:Fh prog (Hu C7 1000 MA):=Md PA FI GD<|AQ yF<|AQ wG<|AQ wD<|AQ wM<|AQ xY<|AQ vU<|AQ wW<|AQ wL<|AQ xB<|AQ wN<|AQ nO<|AQ sY<|AQ pS<|AQ pT<|AQ pG<|AQ rM<|AQ sX<|AQ rS qA
def wC:Ctx:=PF C7<|Hu C7 1000 MA
theorem yT:wC.Ok prog:=IX PA sp1
theorem Zp:Du wC:=EL FI _
def MB0:CH:=[(57,[.str [55,50],.int .i64<|1,.int .i64<|200],.int .i64<|0),
 (95,[Av (65) 6,.int .i64<|10],Av (54) 5),
 (95,[Av (15) 1,.int .i64<|10],Av (15) 1),
 (95,[Av (115) 6,.int .i64<|10],Av (96) 5),
 (95,[Av (93) 10,.int .i64<|10],Av (93) 10),
 (95,[Av (5) 6,.int .i64<|10],Av (4) 5)]
theorem yI:AX wC 1000 MB0=true:=by kernel_rfl
def MB1:CH:=[(95,[Av (-6) 5,.int .i64<|10],Av (-6) 5),
 (95,[Av (95) 6,.int .i64<|10],Av (79) 5),
 (95,[Av (27) 2,.int .i64<|10],Av (27) 2),
 (95,[Av (-11) 5,.int .i64<|10],Av (-11) 5),
 (57,[.str [57,51,47,49,48],.int .i64<| -20,.int .i64<|60],.int .i64<|0),
 (95,[Av (304) 25,.int .i64<|1],Av (12) 1)]
theorem zR:AX wC 1000 MB1=true:=by kernel_rfl
def MB2:CH:=[(95,[Av (57) 5,.int .i64<|1],Av (11) 1),
 (95,[Av (13) 2,.int .i64<|1],Av (7) 1),
 (95,[Av (3) 1,.int .i64<|1],Av (3) 1)]
theorem wI:AX wC 1000 MB2=true:=by kernel_rfl
def MB:CH:=(MB0++(MB1++MB2))
theorem sp2:Fh prog (Hu wC 1000 MB):=Md yT Zp GD<|AQ yI<|AQ zR wI
def S72:Te:=gY (Hu wC 1000 MB)<|Hu C7 1000 MA
theorem kI:Fh prog S72:=HT sp2 sp1
def zM:Ctx:=PF C7 S72
theorem zG:zM.Ok prog:=IX PA kI
theorem aT:Du zM:=EL FI _
def MC0:CH:=[(17,[.agg [.int .i64<|10,.int .i64<|1,.int .i64<|90,.str [55,50],.int .i64<|120,.int .i64<|0]],.int .i64<|0),
 (17,[.agg [.int .i64<|20,.int .i64<|2,.int .i64<|85,.str [55,50],.int .i64<|120,.int .i64<|0]],.int .i64<|0),
 (17,[.agg [.int .i64<|30,.int .i64<|3,.int .i64<|95,.str [55,50],.int .i64<|120,.int .i64<|0]],.int .i64<|0),
 (17,[.agg [.int .i64<|40,.int .i64<|4,.int .i64<|73,.str [55,50],.int .i64<|120,.int .i64<|0]],.int .i64<|0),
 (17,[.agg [.int .i64<|20,.int .i64<|2,.int .i64<|91,.str [55,50],.int .i64<|120,.int .i64<|0]],.int .i64<|0),
 (54,[.agg [.int .i64<|20,.int .i64<|2,.int .i64<|85,.str [55,50],.int .i64<|120,.int .i64<|0]],Av (54) 5)]
theorem wJ:AX zM 1000 MC0=true:=by kernel_rfl
def MC1:CH:=[(54,[.agg [.int .i64<|10,.int .i64<|1,.int .i64<|90,.str [55,50],.int .i64<|120,.int .i64<|0]],Av (15) 1),
 (54,[.agg [.int .i64<|30,.int .i64<|3,.int .i64<|95,.str [55,50],.int .i64<|120,.int .i64<|0]],Av (96) 5),
 (54,[.agg [.int .i64<|40,.int .i64<|4,.int .i64<|73,.str [55,50],.int .i64<|120,.int .i64<|0]],Av (4) 5),
 (54,[.agg [.int .i64<|20,.int .i64<|2,.int .i64<|91,.str [55,50],.int .i64<|120,.int .i64<|0]],Av (79) 5),
 (81,[Av (304) 25],.int .i64<|12),
 (81,[Av (57) 5],.int .i64<|11)]
theorem yH:AX zM 1000 MC1=true:=by kernel_rfl
def MC2:CH:=[(81,[Av (13) 2],.int .i64<|7),
 (81,[Av (3) 1],.int .i64<|3)]
theorem xF:AX zM 1000 MC2=true:=by kernel_rfl
def MC:CH:=(MC0++(MC1++MC2))
theorem sp3:Fh prog (Hu zM 1000 MC):=Md zG aT GD<|AQ wJ<|AQ yH xF
def S73:Te:=gY (Hu zM 1000 MC) S72
theorem WD:Fh prog S73:=HT sp3 kI
def WY:Ctx:=PF C7 S73
theorem Wp:WY.Ok prog:=IX PA WD
theorem Mi:Du WY:=EL FI _
end
end Go.Det
