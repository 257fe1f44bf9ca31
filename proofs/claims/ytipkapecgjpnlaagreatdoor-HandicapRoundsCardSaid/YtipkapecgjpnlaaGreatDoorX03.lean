import Derived.Test.YtipkapecgjpnlaaGreatDoorX02
import Derived.Laws.StructEq
import Derived.Lib.Bytealg
import Derived.Laws.Externs
import Derived.Below
/- A part of a proof; no law is stated here. -/
noncomputable section
open Nat renaming beq -> Za, eq_of_beq_eq_true -> Zc, add -> Zg, le_of_ble_eq_true -> Zj, ble -> Zm, blt -> Zp, add_zero -> ZG, mul -> ZH
open Bool renaming and_eq_true -> Zb
open List renaming mem_singleton -> Zd, all_eq_true -> Zi, getElem?_eq_some_iff -> Zk, mem_cons_of_mem -> Zq, mem_cons_self -> Zr, mem_cons -> Zt, getElem?_append_left -> Zx, replicate -> ZB, mem_map -> ZF
open Array renaming getElem?_eq_some_iff -> Ze, getD_eq_getD_getElem? -> Zu
open Option.some renaming injEq -> Zf
open Int renaming toNat -> Zh
open Go.Extern.MathBitsCarry renaming m64 -> Zl, pair -> Zw
open BitVec renaming ofInt -> Zn
open Go.Result renaming andThen_ok -> Zo
open Go.Sem renaming run_bind -> Zs
open Go.Instr renaming checkKey -> Zv
open Go.Det.Ext renaming refl -> Zy
open Go.Fence renaming wide -> Zz
open Go.Op renaming bytesLess -> ZA
open Go.Utf8 renaming decode -> ZC
open Prod.mk renaming injEq -> ZD
open PUnit renaming unit -> ZE
namespace Go.Det
mutual
def V.beq:V->V->Bool
 | .bool a,.bool b=>a==b
 | .int k a,.int l b=>k==l&&a==b
 | .str a,.str b=>a==b
 | .nilp,.nilp=>true
 | .ptr a i,.ptr b j=>Za a b&&Za i j
 | .nils,.nils=>true
 | .sl a b c d e,.sl o b' m q r=>Za a o&&Za b b'&&Za c m&&Za d q&&Za e r
 | .esl,.esl=>true
 | .es0,.es0=>true
 | .junk,.junk=>true
 | .nilm,.nilm=>true
 | .map a,.map b=>Za a b
 | .yld a,.yld b=>Za a b
 | .nilf,.nilf=>true
 | .nili,.nili=>true
 | .fn f a b,.fn g c d=>f==g&&V.Fj a c&&V.Fj b d
 | .iface t x,.iface u y=>Za t u&&V.beq x y
 | .agg a,.agg b=>V.Fj a b
 | .tup a,.tup b=>V.Fj a b
 |_,_=>false
def V.Fj:List V->List V->Bool
 |[],[]=>true
 |a::d,b::c=>V.beq a b&&V.Fj d c
 |_,_=>false
end
mutual
theorem V.beq_eq:∀ {a b:V},V.beq a b=true->a=b:=by
 intro a b h;cases a<;>cases b<;>simp only[V.beq]at h<;>first
  |(cases h;done)
  |rfl
  |(simp only[Zb,wh,Aw,w5]at h;first|(rfl)|(rfl)|(obtain⟨⟨⟨⟨rfl,rfl⟩,rfl⟩,rfl⟩,rfl⟩:=h;rfl))
  |skip
 case fn.fn f a b g c d=>
  simp only[Zb,wh]at h;rw[h.1.1,V.De h.1.2,V.De h.2]
 case iface.iface t x u y=>
  simp only[Zb,Aw,w5]at h;rw[h.1,V.beq_eq h.2]
 case agg.agg a b=>rw[V.De h]
 case tup.tup a b=>rw[V.De h]
theorem V.De:∀ {a b:List V},V.Fj a b=true->a=b
 |[],[],_=>rfl
 |[],_::_,h=>by simp[V.Fj]at h
 |_::_,[],h=>by simp[V.Fj]at h
 |a::d,b::c,h=>by
  simp only[V.Fj,Zb]at h;rw[V.beq_eq h.1,V.De h.2]
end
structure Rc where
 i:Nat
 o:Oper
 f:Fr
 v:V
structure St where
 f:Fr
 h:H
 r:List Rc
def still(C:Ctx)(anc:Nat->Nat->Bool)(i:Nat)(h:H)(r:Rc):Bool:=
 anc i r.i||(match Dp C r.f h r.o with
  |some (.val x _)=>V.beq x r.v
  |_=>false)
def Ef(C:Ctx)(call:Bq)(ops:Array Oper)(anc:Nat->Nat->Bool)(i:Nat)(s:St):Option (V×St):=
 match ops[i]? with
 |none=>none
 |some o=>
  bif Ar s.f ops o then
   bif Ca o then
    match Dp C s.f s.h o with
    |some (.val v _)=>match s.f.put o.dst v with
     |some c=>some (v,⟨c,s.h,bif Jq o then⟨i,o,s.f,v⟩::s.r else s.r⟩)
     |none=>none
    |_=>none
   else bif Bc o then
    match SY C s.f o with
    |some (ob,f)=>match s.f.put o.dst (f s.h.nx)with
     |some c=>some (f s.h.nx,⟨c,s.h.push ob,s.r⟩)
     |none=>none
    |none=>none
   else
    match Cy C call s.f s.h o with
    |some (v,h')=>match s.f.put o.dst v with
     |some c=>bif s.r.all (still C anc i h')then some (v,⟨c,h',s.r⟩)else none
     |none=>none
    |none=>none
  else
   match s.f.put o.dst (.tup [])with
   |some c=>bif Bi o then(bif s.r.all (still C anc i s.h)then some (.tup [],⟨c,s.h,s.r⟩)else none)else some (.tup [],⟨c,s.h,s.r⟩)
   |none=>none
def Ly(C:Ctx)(call:Bq)(ops:Array Oper)(anc:Nat->Nat->Bool):List Nat->St->Option St
 |[],s=>some s
 |i::d,s=>match Ef C call ops anc i s with
  |some (_,c)=>Ly C call ops anc d c
  |none=>none
def Ew(C:Ctx)(call:Bq)(ops:Array Oper)(fr:Fr)(h:H):Option (Fr×H):=
 match Ly C call ops (Cg ops).a (Cg ops).ord ⟨fr,h,[]⟩with
 |some s=>some (s.f,s.h)
 |none=>none
def LW(C:Ctx)(call:Bq)(ops:Array Oper)(fr:Fr)(h:H):Option (Fr×H):=
 bif Ed ops (Cg ops)then Ew C call ops fr h else none
def BF:Code->Bool
 | .region _ ops dr=>bif dr then Ed ops (Cg ops)else true
 | .seq a b=>BF a&&BF b
 | .cond _ a b=>BF a&&BF b
 | .block _ b=>BF b
 | .loop b=>BF b
 | .scope b=>BF b
 |_=>true
section
variable {C:Ctx}{P:Program}{call:Bq}{ops:Array Oper}{p:Pl}{h:H}{w:World}{fr:Fr}{a:Act}
theorem Gq{f c:Fr}{d:Option Nat}{v:V}(h:f.put d v=some c):c.n=f.n/\(∀t,c.get t=if d=some t then v else f.get t)/\∀t,d=some t->t<f.n:=by
 unfold Fr.put at h;cases d with
 |none=>grind
 |some s=>
  simp only[DG]at h;by_cases e:s<f.n
  ·grind [Fr.get,PM.Bd]
  grind
theorem BQ{anc:Nat->Nat->Bool}{i:Nat}{s d:St}{v:V}(c:Ef C call ops anc i s=some (v,d)):∃o,ops[i]?=some o/\d.f.n=s.f.n/\(∀t,d.f.get t=if o.dst=some t then v else s.f.get t)/\(∀t,o.dst=some t->t<s.f.n)/\
  ((Ar s.f ops o=false/\v=.tup []/\d.h=s.h)\/
   (Ar s.f ops o=true/\
   ((Ca o=true/\Dp C s.f s.h o=some (.val v s.h)/\d.h=s.h)\/
    (Bc o=true/\∃ob f,SY C s.f o=some (ob,f)/\v=f s.h.nx/\d.h=s.h.push ob)\/
    (Bi o=true/\Cy C call s.f s.h o=some (v,d.h)))))/\
  (∀r∈s.r,r∈d.r)/\(Ca o=true->Jq o=true->Ar s.f ops o=true->⟨i,o,s.f,v⟩∈d.r)/\
  (Bi o=true->∀r∈s.r,still C anc i d.h r=true):=by
 unfold Ef at c;split at c
 case h_1=>cases c
 rename_i o B;refine⟨o,B,?_⟩;cases y:Ar s.f ops o with
 |false=>
  simp only[y,wd]at c;split at c
  case h_2=>cases c
  rename_i u e;obtain⟨m,j,l⟩:=Gq e;grind
 |true=>
  simp only[y,wc]at c;cases g:Ca o with
  |true=>
   simp only[g,wc]at c;split at c
   case h_2=>cases c
   rename_i v1 A x;split at c
   case h_2=>cases c
   rename_i u e;obtain⟨rfl,rfl⟩:=c;obtain⟨m,j,l⟩:=Gq e;obtain⟨v2,hv2⟩:=rd_val g x;refine⟨m,j,l,ae,fun r z=>?_,fun _ G _=>?_,(by grind [KQ])⟩
   ·grind
   grind
  |false=>
   simp only[g,wd]at c;cases q:Bc o with
   |true=>
    simp only[q,wc]at c;split at c
    case h_2=>cases c
    split at c
    case h_2=>cases c
    rename_i u e;obtain⟨rfl,rfl⟩:=c;obtain⟨m,j,l⟩:=Gq e;exact⟨m,j,l,ae,fun r z=>z,(by simp),(by grind [KQ])⟩
   |false=>
    simp only[q,wd]at c;split at c
    case h_2=>cases c
    rename_i v1 A D;split at c
    case h_2=>cases c
    rename_i u e;obtain⟨m,j,l⟩:=Gq e;cases E:s.r.all (still C anc i A)with
    |false=>grind
    |true=>
     simp only[E,wc,Zf,ZD]at c;obtain⟨rfl,rfl⟩:=c;simp_all [Bi]
theorem Hd{anc:Nat->Nat->Bool}:∀(L:List Nat) (s d:St),Ly C call ops anc L s=some d->
  ∃(c:Nat->St) (e:Nat->V),c 0=s/\c L.length=d/\∀(q i:Nat),L[q]?=some i->Ef C call ops anc i (c q)=some (e q,c<|q+1)
 |[],s,d,h=>by
  cases h;exact⟨fun _=>s,fun _=>.nilp,rfl,rfl,(by simp)⟩
 |i::L,s,d,h=>by
  unfold Ly at h;split at h
  case h_2=>cases h
  rename_i v s1 l;obtain⟨c,e,h0,m,f⟩:=Hd L s1 d h;refine⟨fun q=>match q with|0=>s|q+1=>c q,fun q=>match q with|0=>v|q+1=>e q,rfl,by omega,fun q j g=>?_⟩;grind
theorem Sq{pl:Ht}(T:Ed ops pl=true){J:St}(Y:Ly C call ops pl.a pl.ord ⟨fr,h,[]⟩=some J):
  ∃(v:Nat->V) (Hh:Nat->H) (F:Nat->Fr),Canon C call ops pl.a (idx pl.ord) (idx pl.pos) fr h v Hh F/\Hh ops.size=J.h/\F ops.size=J.f:=by
 have st:=OT T;have hl:=TY T;obtain⟨A,W,h0,hn,hq⟩:=Hd pl.ord _ _ Y;have Cy:∀q,q<ops.size->Ef C call ops pl.a (idx pl.ord q) (A q)=some (W q,A<|q+1):=by
  grind [idx]
 have K:∀q,q<=ops.size->(A q).f.n=fr.n:=by
  intro q;induction q with
  |zero=>grind
  |succ q U=>
   intro d;obtain⟨o,_,Z,_⟩:=BQ (Cy q a8);omega
 have B:∀q m,q<=m->m<=ops.size->∀r∈(A q).r,r∈(A m).r:=by
  intro q m hle;induction m with
  |zero=>
   grind
  |succ m U=>
   intro d r hr;by_cases e:q=m+1
   ·grind
   ·obtain⟨o,_,_,_,_,_,g,_⟩:=BQ (Cy m a8);exact g r (U a8 a8 r hr)
 refine⟨fun i=>W<|idx pl.pos i,fun q=>(A q).h,fun q=>(A q).f,⟨by simp[h0],by simp[h0],K,fun q d o u t=>?_,fun i o t u ht=>?_,fun i o u=>?_,fun i j o oj u S N E R X hlt D=>?_⟩,by grind,by grind⟩
 ·obtain⟨o',l,_,Z,_⟩:=BQ<|Cy q d;simp only[(st.ordp q d).2];grind
 ·have c:=(Ze.1 u).1;have L:=st.posp i c;obtain⟨o',l,_,_,g2,_⟩:=BQ<|Cy _ L.1;grind
 ·have c:=(Ze.1 u).1;have L:=st.posp i c;obtain⟨o',l,_,_,_,g3,_⟩:=BQ<|Cy _ L.1;simp_all
 ·have c:=(Ze.1 u).1;have M:=(Ze.1 S).1;have s:=st.posp i c;have z:=st.posp j M;obtain⟨o',l,_,_,_,_,_,g4,_⟩:=BQ<|Cy _ z.1;rw[z.2,S]at l;cases l;have I:=B _ (idx pl.pos i) a8 a8 _<|g4 E R X;obtain⟨o'',l,_,_,_,_,_,_,g5⟩:=BQ<|Cy _ s.1;rw[s.2,u]at l;cases l;have G:=g5 N _ I;unfold still at G;rw[z.2]at G;rw[s.2,D]at G;split at G
  case h_2=>cases G
  rename_i x hx O;obtain⟨y,hy⟩:=rd_val E O;grind [V.beq_eq]
theorem IN(g:Ed ops (Cg ops)=true)(l:C.Ok P)(c:call.Ok C P)(j:P.follows .mixedOrders=true)(i:R p h w)(m:Gl C p)(q:A3 p fr a){fr':Fr}{h':H}(f:Ew C call ops fr h=some (fr',h')){id:Nat}{ro:Option Nat}{u:Nat}{Q:Exit->Act->World->Prop}
  (o:∀p' d w',A3 p' fr' d->Ext p h w p' h' w'->d.defers=a.defers->Q .normal d w'):(Code.region id ops true).wpIn (FW ro) u P Q a w:=by
 unfold Ew at f;split at f
 case h_2=>cases f
 rename_i s e;obtain⟨v,Hh,F,r,x,A⟩:=Sq g e;refine Rt l c j (OT g) r i m q fun p' d w' z y t=>o p' d w' ?_ ?_ t
 ·grind
 grind
theorem PA(l:C.Ok P)(c:call.Ok C P)(j:P.follows .mixedOrders=true)(g:R p h w)(i:Gl C p)(o:A3 p fr a){fr':Fr}{h':H}(e:LW C call ops fr h=some (fr',h')){id:Nat}{ro:Option Nat}{f:Nat}{Q:Exit->Act->World->Prop}
  (m:∀p' d w',A3 p' fr' d->Ext p h w p' h' w'->d.defers=a.defers->Q .normal d w'):(Code.region id ops true).wpIn (FW ro) f P Q a w:=by
 unfold LW at e;cases q:Ed ops (Cg ops)with
 |false=>grind
 |true=>
  grind [IN]
end
section
variable {P:Program}{F:Fence}{n:Nat}{b:Frame}{a:Act}{k:List Item}{cs:List Frame}{w:World}{Q:Exit->Act->World->Prop}
theorem BS{c:Code}:step P (lone (b.atR a (.code (.scope c)::k)) cs w)=.next (lone (b.atR a (.code c:: .inScope c::k)) cs w):=
 (by rfl)
theorem Jt{c:Code}:step P (lone (b.atR a (.inScope c::k)) cs w)=.next (lone (b.atR a k) cs w):=
 (by rfl)
theorem Fi{c:Code}(h:c.wpIn F n P (Exit.noGoto Q) a w):(Code.scope c).wpIn F n P Q a w:=by
 intro b k cs m o j;have h0:(lone (b.atR a (.code (.scope c)::k)) cs w).fenced P F:=fenced_calm o j rfl;obtain⟨e,f,g,i,d⟩:=h b (.inScope c::k) cs m o j;cases e with
 |normal=>exact⟨.normal,f,g,i,.head h0 BS<|StepsIn.trans d<|.one (fenced_calm o j rfl) Jt⟩
 |exit id=>
  have u:exitTo id (.inScope c::k)=exitTo id k:=by rfl
  exact⟨.exit id,f,g,i,fun s r=>.head h0 BS (d.1 s ae),
   fun q r=>let ⟨k₁,h1,h2⟩:=d.2 q ae;⟨k₁,h1,.head h0 BS h2⟩⟩
 |goto l=>exact i.elim
 |ret=>exact⟨_,f,g,i,.of_steps (.one h0 BS) d⟩
 |panic t=>exact⟨_,f,g,i,.of_steps (.one h0 BS) d⟩
 |outgrown=>exact⟨_,f,g,i,.of_steps (.one h0 BS) d⟩
end
structure X where
 e:DX
 fr:Fr
 h:H
 ds:List Nat
def Kq(ro:Option Nat)(fr:Fr)(h:H)(ps:Array Tmp)(asg body:Code)(ds:List Nat):Option (Nat×H×List Nat):=
 match ro with
 |none=>some (h.nx+1,(h.push<|.defd true).push<|.loop ⟨.ready,none,fr,ps,asg,body,h.nx⟩,h.nx::ds)
 |some b=>match h.get b with
  |some (.loop l)=>some (h.nx,h.push<|.loop ⟨.ready,none,fr,ps,asg,body,l.db⟩,ds)
  |_=>none
def At(C:Ctx)(call:Bq)(ro:Option Nat)(ct:Bool):Nat->Code->Fr->H->List Nat->Option (List X)
 |0,_,_,_,_=>none
 |m+1,c,fr,h,ds=>
  match c with
  | .skip| .label _=>some [⟨.normal,fr,h,ds⟩]
  | .region _ ops dr=>bif dr then(match (bif ct then Ew C call ops fr h else LW C call ops fr h)with
    |some (fr',h')=>some [⟨.normal,fr',h',ds⟩]
    |none=>none)
   else(match J9 C call ops ops.toList fr h with
    |some l=>some<|l.map fun x=>⟨.normal,x.1,x.2,ds⟩
    |none=>none)
  | .seq a b=>match At C call ro ct m a fr h ds with
   |some l=>bl l fun x=>match x.e with
    | .normal=>At C call ro ct m b x.fr x.h x.ds
    |_=>some [x]
   |none=>none
  | .cond x a b=>match ev C fr x with
   |some (.bool true)=>At C call ro ct m a fr h ds
   |some (.bool false)=>At C call ro ct m b fr h ds
   |_=>none
  | .block id b=>match At C call ro ct m b fr h ds with
   |some l=>some<|l.map fun x=>match x.e with
    | .exit i=>bif Za i id then { x with e:=.normal }else x
    |_=>x
   |none=>none
  | .loop b=>match At C call ro ct m b fr h ds with
   |some l=>bl l fun x=>match x.e with
    | .normal=>At C call ro ct m (.loop b) x.fr x.h x.ds
    |_=>some [x]
   |none=>none
  | .exit i=>some [⟨.exit i,fr,h,ds⟩]
  | .ret=>some [⟨.ret,fr,h,ds⟩]
  | .scope b=>At C call ro ct m b fr h ds
  | .rangeFunc g ps asg body=>match Kq ro fr h ps asg body ds,ev C fr g with
   |some (b,j,d),some o=>match Ee C j o [.yld b]with
    |some (.enter f args)=>match call (.fn f args) j with
     |some l=>bl l fun x=>match x.2.get b with
      |some (.loop ls)=>match ls.st,ls.pend with
       | .busy,_=>none
       |_,none=>some [⟨.normal,fr,x.2.put b<|.loop { ls with st:=.exhausted },d⟩]
       |_,some c=>At C call ro false m c fr (x.2.put b<|.loop { ls with st:=.exhausted }) d
      |_=>none
     |none=>none
    |_=>none
   |_,_=>none
  |_=>none
def D1(p:Pl):List Nat->List Deferred->Prop
 |[],l=>l=[]
 |b::c,l=>∃r n l',p[b]?=some (r,n)/\l={ target:=.collected r,args:= #[] }::l'/\D1 p c l'
theorem D1.mono{p:Pl}(q:Pl):∀ {ds:List Nat} {l:List Deferred},D1 p ds l->D1 (p++q) ds l
 |[],_,h=>h
 |_b::_bs,_l,⟨r,n,l',e,d,c⟩=>⟨r,n,l',ae,d,c.mono q⟩
theorem D1.ext{p p':Pl}{h h':H}{w w':World}(e:Ext p h w p' h' w'){ds:List Nat}{l:List Deferred}(c:D1 p ds l):D1 p' ds l:=by
 obtain⟨q,rfl⟩:=e.pre;exact c.mono q
def Ib(p:Pl):Option Nat->Option Nat->Prop
 |none,none=>True
 |some b,some r=>∃n,p[b]?=some (r,n)
 |_,_=>False
theorem Ib.ext{p p':Pl}{h h':H}{w w':World}(e:Ext p h w p' h' w'){ro k:Option Nat}(c:Ib p ro k):Ib p' ro k:=by
 obtain⟨q,rfl⟩:=e.pre;cases ro with
 |none=>grind [Ib]
 |some b=>
  cases k with
  |none=>exact c
  |some r=>obtain⟨n,d⟩:=c;exact⟨n,ae⟩
theorem Ext.at{p p':Pl}{h h':H}{w w':World}(e:Ext p h w p' h' w'){b:Nat}{x:Nat×Nat}(c:p[b]?=some x):p'[b]?=some x:=by
 obtain⟨q,rfl⟩:=e.pre;grind
section
variable {C:Ctx}{P:Program}{call:Bq}{ops:Array Oper}{p:Pl}{h:H}{w:World}{fr:Fr}{a:Act}
theorem E2(d:R p h w)(y:A3 p fr a){ro k:Option Nat}(c:Ib p ro k){ps:Array Tmp}{asg body:Code}{ds i:List Nat}(g:D1 p ds a.defers){b:Nat}{f:H}
  (e:Kq ro fr h ps asg body ds=some (b,f,i)) (fn:FuncId):∃l mark v s n,(Instr.enterLoop fn a.tmps ps asg body k).run P w=.ok (l,mark) v/\Ext p h w s f v/\s[b]?=some (l,n)/\D1 s i (mark++a.defers):=by
 unfold Kq at e;cases ro with
 |none=>
  cases k with
  |some k=>exact c.elim
  |none=>
   obtain⟨rfl,rfl,rfl⟩:=e;have u:=Ext.push (n:=0) d (o:=.defd true) (x:=.deferred<|some []) (by rfl);have j:(p++[(w.heap.size,0)])[h.nx]?=some (w.heap.size,0):=by rw[<-d.len];simp
   have q:Ce (p++[(w.heap.size,0)]) fr a.tmps:=Ce.mono _ y;have e2:=Ext.push (n:=0) u.rel (o:=.loop ⟨.ready,none,fr,ps,asg,body,h.nx⟩) (x:=.loop { state:=.ready,pending:=none,fn,tmps:=a.tmps,params:=ps,assign:=asg,body,defers:=w.heap.size })
    ⟨fn,a.tmps,_,_,q,j,rfl⟩
   refine⟨_,_,_,_,0,run_enterLoop_outer fn a.tmps ps asg body,u.trans e2,?_,?_⟩
   ·have:h.nx+1=(p++[(w.heap.size,0)]).length:=by simp[d.len]
    grind
   ·exact⟨w.heap.size,0,a.defers,ae,rfl,D1.mono _<|D1.mono _ g⟩
 |some A=>
  cases k with
  |none=>exact c.elim
  |some k=>
   simp only at e;split at e
   case h_2=>cases e
   rename_i z t;obtain⟨rfl,rfl,rfl⟩:=e;obtain⟨n0,hn0⟩:=c;obtain⟨r',n',x,f,h2,f0,tmps,r,m,h3,h4,rfl⟩:=d.obj _ _ t;rw[hn0]at f;cases f;have e2:=Ext.push (n:=0) d (o:=.loop ⟨.ready,none,fr,ps,asg,body,z.db⟩) (x:=.loop { state:=.ready,pending:=none,fn,tmps:=a.tmps,params:=ps,assign:=asg,body,defers:=r })
    ⟨fn,a.tmps,_,_,y,h4,rfl⟩
   refine⟨w.heap.size,[],_,_,0,?_,e2,?_,?_⟩
   ·unfold Instr.enterLoop;simp only[Zs,run_getLoop h2,run_newObj_alloc,Zo,Sem.run_pure,World.alloc]
   ·rw[<-d.len];simp
   ·exact D1.mono _ g
theorem Result.Nk{α d:Type}{r:Result α}{f:α->World->Result d}{b:d}{w':World}(h:r.andThen f=.ok b w'):∃a c,r=.ok a c/\f a c=.ok b w':=by
 cases r with
 |ok a c=>exact⟨a,c,rfl,h⟩
 |halt x c=>simp_all
theorem FZ(hC:C.Ok P)(E:call.Ok C P)(hm:P.follows .mixedOrders=true){ro k:Option Nat}{n:Nat}:∀(m:Nat) (ct:Bool) (c:Code) {fr:Fr} {h:H} {ds:List Nat} {L:List X},(ct=true->BF c=true)->At C call ro ct m c fr h ds=some L->
  ∀(p:Pl) (a:Act) (w:World) (Q:Exit->Act->World->Prop),R p h w->Gl C p->A3 p fr a->D1 p ds a.defers->Ib p ro k->
   (∀x∈L,∀p' Y w',A3 p' x.fr Y->Ext p h w p' x.h w'->D1 p' x.ds Y.defers->Q x.e.KL Y w')->
   c.wpIn (FW k) n P Q a w/\∀b,c=.loop b->Code.roundsIn (FW k) n P b Q m a w
 |0,ct,c,fr,h,ds,L,J,o=>by cases o
 |m+1,ct,c,fr,h,ds,L,J,o=>by
  intro p a w Q S M K B D G;have ih:∀ {ct:Bool} (c:Code) {fr:Fr} {h:H} {ds:List Nat} {L:List X},(ct=true->BF c=true)->At C call ro ct m c fr h ds=some L->∀ {p:Pl} {a:Act} {w:World},R p h w->Gl C p->A3 p fr a->D1 p ds a.defers->Ib p ro k->
    ∀ {Q:Exit->Act->World->Prop},(∀x∈L,∀p' Y w',A3 p' x.fr Y->Ext p h w p' x.h w'->D1 p' x.ds Y.defers->Q x.e.KL Y w')->
   c.wpIn (FW k) n P Q a w/\∀b,c=.loop b->Code.roundsIn (FW k) n P b Q m a w:=fun {ct} c {fr h ds L} J o {p a w} S M K B D {Q} G=>FZ hC E hm m ct c J o p a w Q S M K B D G
  cases c with
  |skip=>cases o;exact⟨wpIn_skip<|G _ (Zd.2 rfl) p a w K (Zy S) B,(by simp)⟩
  |label l=>cases o;exact⟨wpIn_label<|G _ (Zd.2 rfl) p a w K (Zy S) B,(by simp)⟩
  |region id ops dr=>
   refine⟨?_,(by simp)⟩;simp only[At]at o;cases dr with
   |true=>
    simp only[wc]at o;split at o
    case h_2=>cases o
    rename_i fr1 h1 Z;cases o;refine(show ∀ {Q':Exit->Act->World->Prop},(∀p' Y w',A3 p' fr1 Y->Ext p h w p' h1 w'->Y.defers=a.defers->Q' .normal Y w')->(Code.region id ops true).wpIn (FW k) n P Q' a w from fun {Q'} V=>?_) fun N a1 I q j t=>G _ (Zd.2 rfl) N a1 I q j<|t▸B.ext j
    cases ct with
    |false=>grind [PA]
    |true=>exact IN (by simpa [BF]using J rfl) hC E hm S M K Z V
   |false=>
    simp only[wd]at o;split at o
    case h_2=>cases o
    rename_i l Z;cases o;exact NF hC E S M K Z fun x hx N a1 I q j t=>G _ (ZF.2 ⟨x,hx,rfl⟩) N a1 I q j<|t▸B.ext j
  |seq x y=>
   refine⟨wpIn_seq ?_,(by simp)⟩;simp only[At]at o;split at o
   case h_2=>cases o
   rename_i l Z;refine(ih x (by grind [BF]) Z S M K B D fun z hz N a1 I q j t=>?_).1;obtain⟨L1,O,g2⟩:=Cz o z hz;cases A:z.e with
   |normal=>
    simp only[A]at O;exact(ih y (by grind [BF]) O j.rel (M.ext j) q t (D.ext j) fun u hu p2 a2 w2 T he2 U=>G u (g2 u hu) p2 a2 w2 T (j.trans he2) U).1
   |exit i=>
    simp only[A,Zf]at O;subst O;have:=G z ae N a1 I q j t;rw[A]at this;exact this
   |ret=>
    simp only[A,Zf]at O;subst O;have:=G z ae N a1 I q j t;rw[A]at this;exact this
  |cond x b1 b2=>
   refine⟨?_,(by simp)⟩;simp only[At]at o;split at o
   case h_1=>
    rename_i hx;have hv:=Ao M K hx;grind [Aa,wpIn_cond_true,BF]
   case h_2=>
    rename_i hx;have hv:=Ao M K hx;grind [Aa,wpIn_cond_false,BF]
   grind
  |block id b=>
   refine⟨wpIn_block ?_,(by simp)⟩;simp only[At]at o;split at o
   case h_2=>cases o
   rename_i l Z;cases o;refine(ih b (fun e=>by have:=J e;simpa [BF]using this) Z S M K B D fun z hz N a1 I q j t=>?_).1;have V:=G _ (ZF.2 ⟨z,hz,rfl⟩) N a1 I;cases A:z.e with
   |normal=>
    simp only[A]at V;exact V q j t
   |ret=>
    simp only[A]at V;exact V q j t
   |exit i=>
    simp only[A,Aw]at V;by_cases ei:i=id
    ·simp only[ei,decide_true,wc]at V;simp only[DX.KL,Exit.inBlock,ei,wi];exact V q j t
    ·simp only[ei,decide_false,wd,A]at V;simp only[DX.KL,Exit.inBlock,ei,vb];exact V q j t
  |loop b=>
   have key:Code.roundsIn (FW k) n P b Q (m+1) a w:=by
    rw[roundsIn_succ];simp only[At]at o;split at o
    case h_2=>cases o
    rename_i l Z;refine(ih b (fun e=>by have:=J e;simpa [BF]using this) Z S M K B D fun z hz N a1 I q j t=>?_).1;obtain⟨L1,O,g2⟩:=Cz o z hz;cases A:z.e with
    |normal=>
     simp only[A]at O;exact(ih (.loop b) J O j.rel (M.ext j) q t (D.ext j) fun u hu p2 a2 w2 T he2 U=>G u (g2 u hu) p2 a2 w2 T (j.trans he2) U).2 b rfl
    |exit i=>
     simp only[A,Zf]at O;subst O;have:=G z ae N a1 I q j t;rw[A]at this;exact this
    |ret=>
     simp only[A,Zf]at O;subst O;have:=G z ae N a1 I q j t;rw[A]at this;exact this
   grind [wpIn_loop_rounds]
  |exit i=>cases o;exact⟨wpIn_exit<|G _ (Zd.2 rfl) p a w K (Zy S) B,(by simp)⟩
  |ret=>cases o;exact⟨wpIn_ret<|G _ (Zd.2 rfl) p a w K (Zy S) B,(by simp)⟩
  |scope b=>
   refine⟨Fi ?_,(by simp)⟩;simp only[At]at o;refine(ih b (fun e=>by have:=J e;simpa [BF]using this) o S M K B D fun z hz N a1 I q j t=>?_).1;have h1:=G z hz N a1 I q j t;cases A:z.e<;>rw[A]at h1<;>exact h1
  |rangeFunc g ps asg body=>
   refine⟨wpIn_rangeFunc fun fn _=>?_,(by simp)⟩;simp only[At]at o;split at o
   case h_2=>cases o
   rename_i b h1 ds1 g' hen hgv;split at o
   case h_2=>cases o
   rename_i f args hdc;split at o
   case h_2=>cases o
   rename_i l hcl;obtain⟨r,mark,I,N,nb,q1,q2,q3,q4⟩:=E2 (P:=P) S K D B hen fn;have hyld:Ac N [.yld b] (#[Value.func (.yield r) #[] #[]]).toList:=by
    simp only[Au,E9,va];simp only[Aa];grind
   obtain⟨args',s1,s2⟩:=GM hC q2.rel (M.ext q2) (q2.RZ<|Ao M K hgv) hyld hdc;rw[Zs]at s1;obtain⟨d,w1',s3,s4⟩:=Result.Nk s1;refine⟨r,mark,I,d,w1',f,args',I,q1,?_,fun _ _=>trivial,s4,(by grind [FW,Zz]),MF.2<|(E.fn f args h1 l hcl N I args' q2.rel (M.ext q2) s2).mono ?_⟩
   ·grind [resolve,Act.eval]
   ·rintro e w2 ⟨v,h2,v',p2,hmem,rfl,k1,k2⟩;obtain⟨L1,t1,t2⟩:=Cz o (v,h2) hmem;split at t1
    case h_2=>cases t1
    rename_i ls hls;obtain⟨r',n',x,u1,u2,f0,tmps,rd,md,u3,u4,rfl⟩:=k2.rel.obj _ _ hls;have hpb:=k2.at q3;rw[hpb]at u1;cases u1;have hbusy:ls.st≠ .busy:=by
     grind
    obtain⟨W,hW,hput⟩:∃W,(Instr.endLoop r).run P w2=.ok ls.pend W/\Ext p2 h2 w2 p2 (h2.put b<|.loop { ls with st:=.exhausted }) W:=
     ⟨_,run_endLoop u2 hbusy,Ext.put k2.rel hls hpb (o':=.loop { ls with st:=.exhausted }) (x':=.loop { state:=.exhausted,pending:=ls.pend,fn:=f0,tmps,params:=ls.ps,assign:=ls.asg,body:=ls.body,defers:=rd }) ⟨f0,tmps,rd,md,u3,u4,rfl⟩ rfl rfl rfl rfl⟩
    have hex:=q2.trans<|k2.trans hput;refine⟨ls.pend,W,hW,?_⟩;have T:A3 p2 fr { a with defers:=mark++a.defers }:=A3.ext (a:={ a with defers:=mark++a.defers }) K<|q2.trans k2;have U:D1 p2 ds1 (mark++a.defers):=D1.ext k2 q4;split at t1
    case h_1=>cases t1
    case h_2=>
     rename_i hpe _;cases t1;simp only[hpe];exact G _ (t2 _<|Zd.2 rfl) p2 _ _ T hex U
    case h_3=>
     rename_i c hpe _;simp only[hpe];exact(ih c (by simp) t1 hput.rel (M.ext hex) T U (D.ext hex) fun u hu p3 a3 w3 hf3 he3 hd3=>G u (t2 u hu) p3 a3 w3 hf3 (hex.trans he3) hd3).1
  |goto l=>simp[At]at o
  |refuse s=>simp[At]at o
end
section
variable {C:Ctx}{P:Program}{p:Pl}{h:H}{w:World}{fr:Fr}{a:Act}
def ON(C:Ctx)(fr:Fr)(h:H):ResultVar->Option V
 | .tmp t=>some<|fr.get t
 | .cell a t=>Ct C.T h t<|fr.get a
def Ih(C:Ctx)(fr:Fr)(h:H):List ResultVar->Option (List V)
 |[]=>some []
 |r::c=>match ON C fr h r,Ih C fr h c with
  |some v,some vs=>some (v::vs)
  |_,_=>none
def Ig(C:Ctx)(fr:Fr)(h:H)(c:List ResultVar):Option V:=
 match Ih C fr h c with
 |some [v]=>some v
 |some vs=>some<|.tup vs
 |none=>none
def Ti(a:Act):ResultVar->Sem Value
 | .tmp t=>pure<|a.tmps.getD t undef
 | .cell x t=>do loadVar t (<-asAddr (a.tmps.getD x undef))
theorem MJ(fn:Func)(a:Act):results fn a.tmps=(do let vs<-fn.results.mapM (Ti a);pure (if h:vs.size=1 then vs[0]else .tuple vs)):=by
 rfl
theorem Q0(m:C.T.Ok P)(j:R p h w)(f:A3 p fr a){r:ResultVar}{v:V}(d:ON C fr h r=some v):
  ∃v',(Ti a r).run P w=.ok v' w/\Aa p v v':=by
 cases r with
 |tmp t=>cases d;exact⟨_,rfl,f.2 t⟩
 |cell x t=>
  simp only[ON]at d;obtain⟨v',g,o⟩:=Md (P:=P) m j (f.2 x) d;refine⟨v',?_,o⟩;have l:∃b i,fr.get x=.ptr b i:=by
   unfold Ct at d;grind
  obtain⟨b,i,e⟩:=l;have c:=f.2 x;rw[e]at c;obtain⟨r,n,_,c⟩:=c;rw[c]at g;simp only[Ti,c];exact g
theorem LH(g:C.T.Ok P)(f:R p h w)(i:A3 p fr a):∀ {e:List ResultVar} {vs:List V},Ih C fr h e=some vs->
  ∃c:List Value,(e.mapM<|Ti a).run P w=.ok c w/\Ac p vs c
 |[],vs,d=>by cases d;simp
 |r::e,vs,d=>by
  unfold Ih at d;split at d
  case h_2=>cases d
  rename_i v m j l;cases d;obtain⟨v',q,o⟩:=Q0 (P:=P) g f i j;obtain⟨c,g3,g4⟩:=LH g f i l;simp_all
theorem Uc(l:C.T.Ok P)(j:R p h w)(m:A3 p fr a){fn:Func}{v:V}(e:Ig C fr h fn.results.toList=some v):∃v',(results fn a.tmps).run P w=.ok v' w/\Aa p v v':=by
 unfold Ig at e;cases i:Ih C fr h fn.results.toList with
 |none=>grind
 |some vs=>
  obtain⟨c,q,g⟩:=LH (P:=P) l j m i;have r:=g.length;have d:(results fn a.tmps).run P w=.ok (if h:c.toArray.size=1 then c.toArray[0]else .tuple c.toArray) w:=by
   grind [MJ,Zs,Array.mapM_eq_mapM_toList,Sem.run_map,Zo,Sem.run_pure]
  refine⟨_,d,?_⟩;simp only[i]at e;cases vs with
  |nil=>
   grind [Aa]
  |cons x f=>
   cases f with
   |nil=>
    obtain⟨y,rfl,o⟩:=g.one;grind
   |cons s f=>
    cases e;rw[dif_neg ae];simp_all [Aa]
def Ma:List V->Nat->PM V->PM V
 |[],_,m=>m
 |v::vs,i,m=>Ma vs (i+1)<|m.set i<|some v
def Fp(n:Nat)(args:List V):Fr:=⟨args.length+(n-args.length),Ma args 0 .leaf⟩
theorem GS:∀(vs:List V) (i:Nat) (m:PM V) (t:Nat),(Ma vs i m).get t=if i<=t/\t<i+vs.length then vs[t-i]? else m.get t
 |[],i,m,t=>by simp[Ma];omega
 |v::vs,i,m,t=>by
  unfold Ma;rw[GS vs (i+1) _ t];by_cases e:t=i
  ·subst e;rw[wa a8,wb<|by simp];simp
  ·by_cases e2:i+1<=t/\t<i+1+vs.length
   ·grind
   ·rw[wa e2,wa ae];simp[e]
theorem SC{args:List V}{args':Array Value}(e:Ac p args args'.toList)(n:Nat):A3 p (Fp n args) { tmps:=args'++Array.replicate (n-args'.size) undef,defers:=[] }:=by
 have g:=e.length;simp at g;refine⟨by simp[Fp,g],fun t=>?_⟩;unfold Fp Fr.get;rw[GS];by_cases f:t<args.length
 ·rw[wb a8];obtain⟨u,l,j⟩:=e.get (i:=t) (d:=args[t]) (by simp[f]);have c:args'[t]?=some u:=ae
  simp only[Nat.sub_zero,List.getElem?_eq_getElem f,Option.getD_some];rw[Zu,Array.getElem?_append_left a8,c];exact j
 ·have:(args'++Array.replicate (n-args'.size) undef).getD t undef=undef:=by
   rw[Zu,Array.getElem?_append_right a8];grind
  simp_all [Aa,undef]
def C9:List Nat->H->Option H
 |[],h=>some h
 |b::c,h=>match h.get b with
  |some (.defd true)=>C9 c<|h.put b<|.defd false
  |_=>none
theorem J5{fn:Func}{tmps:Array Value}{n:Nat}:∀ {ds:List Nat} {l:List Deferred} {p:Pl} {h:H} {w:World} {i:H},D1 p ds l->R p h w->C9 ds h=some i->
  ∃d,Ext p h w p i d/\∀f:Ending->World->Prop,(∃v,(results fn tmps).run P d=.ok v d/\f (.returned v) d)->LeavesInM Zz n P fn tmps f l .returning w
 |[],l,p,h,w,i,o,g,e=>by
  cases e;cases (show l=[]from o);exact⟨w,Zy g,fun f j=>j⟩
 |b::u,l,p,h,w,i,o,g,e=>by
  unfold C9 at e;split at e
  case h_2=>cases e
  rename_i t;obtain⟨r,m,l',s,rfl,q⟩:=o;obtain⟨r',m',x,k1,k2,k3⟩:=g.obj _ _ t;rw[s]at k1;cases k1;subst k3;have c:=Ext.put g t s (o':=.defd false) (x':=.deferred none) (by rfl) (w':=w.putObj r<|.deferred none) rfl rfl rfl rfl;obtain⟨d,g1,g2⟩:=J5 (fn:=fn) (tmps:=tmps) (n:=n) q c.rel e;exact⟨d,c.trans g1,fun f j=>⟨by simp,.inl ⟨r,_,rfl,run_takeDeferred k2,g2 f j⟩⟩⟩
def Lf(C:Ctx)(m:Nat)(call:Bq)(b:Nat)(ls:LS)(fr:Fr)(h:H):Option (List<|V×H):=
 match At C call (some b) false m ls.asg fr h []with
 |some l=>bl l fun x=>match x.e,x.h.get b with
  | .normal,some (.loop d)=>match d.st with
   | .ready=>match At C call (some b) false m ls.body x.fr (x.h.put b<|.loop { d with st:=.busy }) x.ds with
    |some f=>bl f fun y=>match y.h.get b with
     |some (.loop c)=>match y.e with
      | .normal=>some [(.bool true,y.h.put b<|.loop { c with st:=.ready,pend:=none })]
      | .ret=>some [(.bool false,y.h.put b<|.loop { c with st:=.done,pend:=some .ret })]
      | .exit i=>some [(.bool false,y.h.put b<|.loop { c with st:=.done,pend:=some (.exit i) })]
     |_=>none
    |none=>none
   |_=>none
  |_,_=>none
 |none=>none
mutual
def Ge:V->List Nat
 | .ptr b _| .sl b _ _ _ _| .map b| .yld b=>[b]
 | .fn _ a b=>Ey a++Ey b
 | .iface _ v=>Ge v
 | .agg l| .tup l=>Ey l
 |_=>[]
def Ey:List V->List Nat
 |[]=>[]
 |v::vs=>Ge v++Ey vs
end
def Tv:O->List Nat
 | .cells cs _ _=>Ey cs
 | .map es _=>es.flatMap fun e=>Ge e.1++Ge e.2.1
 |_=>[]
def reach(h:H)(c:Nat):Nat->List Nat->List Nat->List Nat
 |0,_,acc=>acc
 |_+1,[],acc=>acc
 |f+1,b::d,acc=>bif Zp b c||acc.any (Za b)then reach h c f d acc
  else match h.get b with
   |some o=>reach h c f (Tv o++d) (b::acc)
   |none=>reach h c f d acc
def HF(Je:List Nat):Nat->Nat->H->H
 |0,_,h=>h
 |f+1,b,h=>HF Je f (b+1)<|bif Je.any (Za b)then h else h.kill b
def U4:O->Bool
 | .loop l=>match l.st with| .exhausted=>true|_=>false
 |_=>false
def LK:Option O->Option O
 |some o=>bif U4 o then none else some o
 |none=>none
def KZ:PM O->PM O
 | .leaf=>.leaf
 | .node l v r=>.node (KZ l) (LK v)<|KZ r
theorem F6:∀(q:Dx) (m:PM O),q.get (KZ m)=LK (q.get m)
 |Dx.here,PM.leaf=>rfl
 |Dx.l _,PM.leaf=>rfl
 |Dx.r _,PM.leaf=>rfl
 |Dx.here,PM.node _ _ _=>rfl
 |Dx.l q,PM.node l _ _=>F6 q l
 |Dx.r q,PM.node _ _ r=>F6 q r
def H.QW(h:H):H:=⟨KZ h.m,h.nx⟩
theorem Mt{p:Pl}{h:H}{w:World}(d:R p h w):Ext p h w p h.QW w:=by
 have sub:∀b o,h.QW.get b=some o->h.get b=some o:=by
  intro b o c;have:h.QW.get b=LK (h.get b):=F6 _ _;rw[this]at c;cases e:h.get b with
  |none=>rw[e]at c;cases c
  |some x=>
   grind [LK]
 refine⟨(by simp),⟨d.len,fun b o c=>d.obj b o<|sub b o c,fun b b' o o' r n n' c m=>d.inj b b' o o' r n n' (sub b o c) ae⟩,Nat.le_refl _,(by simp),fun r q=>?_,rfl,rfl,rfl,fun r j i=>⟨rfl,?_⟩,Nat.le_refl _⟩
 ·grind [Im]
 ·obtain⟨b,n,cs,t,fz,f,g,l⟩:=i;refine .inl ⟨b,n,cs,t,fz,?_,g,l⟩;rw[show h.QW.get b=LK (h.get b)from F6 _ _,f];rfl
def Wk(c:Nat)(x:V×H):V×H:=(x.1,HF (reach x.2 c 1000 (Ge x.1) []) (x.2.nx-c) c x.2.QW)
def Ph:List (V×V×Nat)->List (V×V×Nat)->Bool
 |[],[]=>true
 |(a,b,c)::l,(e,b',d)::l'=>V.beq a e&&V.beq b b'&&Za c d&&Ph l l'
 |_,_=>false
def Jg:List Nat->List Nat->Bool
 |[],[]=>true
 |a::l,b::l'=>Za a b&&Jg l l'
 |_,_=>false
def VF:O->O->Bool
 | .cells cs t fz,.cells cs' i fz'=>V.Fj cs cs'&&Za t i&&Za fz.1 fz'.1&&Za fz.2 fz'.2
 | .map es c,.map e g=>Ph es e&&Za c g
 | .siter s n,.siter f n'=>s==f&&Za n n'
 | .miter none a l b,.miter none d l' b'=>Za a d&&Jg l l'&&Za b b'
 | .miter (some m) a l b,.miter (some j) d l' b'=>Za m j&&Za a d&&Jg l l'&&Za b b'
 | .defd a,.defd b=>a==b
 |_,_=>false
def Gi:Option O->Option O->Bool
 |none,none=>true
 |some a,some b=>VF a b
 |_,_=>false
def HR:PM O->PM O->Bool
 | .leaf,.leaf=>true
 | .node l v r,.node l' v' c=>Gi v v'&&HR l l'&&HR r c
 |_,_=>false
def OJ(x y:V×H):Bool:=V.beq x.1 y.1&&Za x.2.nx y.2.nx&&HR x.2.m y.2.m
def dedup:List (V×H)->List (V×H)
 |[]=>[]
 |x::l=>let r:=dedup l;bif r.any (OJ x)then r else x::r
def G2(c:Nat):List (V×H)->List (V×H)
 |[]=>[]
 |[x]=>[x]
 |l=>dedup<|l.map<|Wk c
theorem Ox:∀ {a b:List (V×V×Nat)},Ph a b=true->a=b
 |[],[],_=>rfl
 |[],_::_,h=>by simp[Ph]at h
 |_::_,[],h=>by simp[Ph]at h
 |(a,b,c)::l,(e,b',d)::l',h=>by
  simp only[Ph,Zb]at h;rw[V.beq_eq h.1.1.1,V.beq_eq h.1.1.2,Zc h.1.2,Ox h.2]
theorem Iw:∀ {a b:List Nat},Jg a b=true->a=b
 |[],[],_=>rfl
 |[],_::_,h=>by simp[Jg]at h
 |_::_,[],h=>by simp[Jg]at h
 |a::l,b::l',h=>by
  simp only[Jg,Zb]at h;rw[Zc h.1,Iw h.2]
theorem KK{a b:O}(h:VF a b=true):a=b:=by
 unfold VF at h;split at h
 ·grind [V.De,Zc]
 ·grind [Ox,Zc]
 ·simp_all
 ·grind [Zc,Iw]
 ·grind [Zc,Iw]
 ·grind
 grind
theorem HJ:∀ {a b:PM O},HR a b=true->a=b
 | .leaf,.leaf,_=>rfl
 | .leaf,.node _ _ _,h=>by simp[HR]at h
 | .node _ _ _,.leaf,h=>by simp[HR]at h
 | .node l v r,.node l' v' c,h=>by
  simp only[HR,Zb]at h;rw[HJ h.1.2,HJ h.2];congr 1;cases v<;>cases v'<;>first|rfl|exact wg some (KK h.1.1)|(simp[Gi]at h)
theorem QQ{x y:V×H}(h:OJ x y=true):x=y:=by
 simp only[OJ,Zb]at h;obtain⟨v,m,n⟩:=x;obtain⟨v',m',n'⟩:=y;grind [V.beq_eq,Zc,HJ]
theorem GQ:∀ {l:List (V×H)} {x:V×H},x∈l->x∈dedup l
 |a::l,x,h=>by
  unfold dedup;simp only;cases c:(dedup l).any (OJ a)with
  |true=>
   rcases Zt.1 h with rfl|h
   ·grind [QQ]
   ·exact GQ h
  |false=>
   rcases Zt.1 h with rfl|h
   ·simp
   ·exact Zq _<|GQ h
theorem Ex(Je:List Nat):∀(f b:Nat) {p:Pl} {h:H} {w:World},R p h w->Ext p h w p (HF Je f b h) w
 |0,_,_,_,_,c=>Zy c
 |f+1,b,p,h,w,c=>by
  unfold HF;cases Je.any (Za b)with
  |true=>exact Ex Je f (b+1) c
  |false=>exact(Ext.kill c b).trans<|Ex Je f (b+1)<|c.kill b
theorem Dm.merge{l:List (V×H)}{g:Nat}{e:Ending}{w':World}(i:Dm p h w l e w'):Dm p h w (G2 g l) e w':=by
 obtain⟨v,h',v',p',d,he,f,c⟩:=i;unfold G2;split
 ·cases d
 ·exact⟨v,h',v',p',d,he,f,c⟩
 ·exact⟨v,(Wk g (v,h')).2,v',p',GQ<|ZF.2 ⟨_,d,rfl⟩,he,f,c.trans<|(Mt c.rel).trans<|Ex _ _ _ (Mt c.rel).rel⟩
def Aq(C:Ctx):Nat->Bq
 |0=>fun _ _=>none
 |n+1=>fun c h=>
  match c with
  | .rnd b ls fr=>Lf C n (Aq C n) b ls fr h
  | .fn f args=>
   match C.spec f with
   |some q=>match q args h with
    |some x=>some [x]
    |none=>none
   |none=>
    match C.fn f with
    |none=>none
    |some i=>
     match At C (Aq C n) none i.cert n i.body (Fp i.ntmps args) h []with
     |none=>none
     |some l=>match (bl l fun x=>match x.e with
      | .exit _=>none
      |_=>match C9 x.ds x.h with
       |some d=>match Ig C x.fr d i.results.toList with
        |some v=>some [(v,d)]
        |none=>none
       |none=>none)with
      |some r=>some<|bif C.mg then G2 h.nx r else r
      |none=>none
theorem Hi(d:R p h w){b r n:Nat}{ls:LS}(g:h.get b=some (.loop ls))(e:p[b]?=some (r,n)):
  ∃rec:Loop,w.heap[r]?=some (.loop rec)/\rec.state=ls.st/\rec.pending=ls.pend/\∀(st:LoopState) (c:Option Code),Ext p h w p (h.put b<|.loop { ls with st:=st,pend:=c }) (w.putObj r<|.loop { rec with state:=st,pending:=c }):=by
 obtain⟨o,n',x,f,i,f0,tmps,rd,m,j,l,rfl⟩:=d.obj _ _ g;rw[e]at f;cases f;exact⟨_,i,rfl,rfl,fun st c=>Ext.put d g e (o':=.loop { ls with st:=st,pend:=c }) ⟨f0,tmps,rd,m,j,l,rfl⟩ rfl rfl rfl rfl⟩
theorem GH(K:C.Ok P){call:Bq}(g:call.Ok C P)(M:P.follows .mixedOrders=true){b:Nat}{ls:LS}{l:List (V×H)}{k m G:Nat}(q:Lf C G call b ls fr h=some l){f:FuncId}{tmps:Array Value}
  (X:R p h w) (J:Gl C p) (r:p[b]?=some (k,m)) (Z:Ce p fr tmps):RoundIn Zz 0 P k f tmps ls.asg ls.body w (Dm p h w l):=by
 unfold Lf at q;split at q
 case h_2=>cases q
 rename_i L hL;refine roundIn_of_wpIn trivial ?_;refine(FZ (k:=some k) (n:=0) K g M G false ls.asg (by simp) hL p { tmps:=tmps,defers:=[] } w _ X J Z rfl ⟨m,r⟩ fun x hx v a1 O t d A=>?_).1;obtain⟨L1,j,g2⟩:=Cz q x hx;split at j
 case h_2=>cases j
 rename_i W E z;split at j
 case h_2=>cases j
 rename_i u;split at j
 case h_2=>cases j
 rename_i L2 B;rw[E];obtain⟨rec,q1,T,q3,q4⟩:=Hi d.rel z<|d.at r;refine⟨_,run_beginRound q1<|T.trans u,?_⟩;have o:Ext v x.h O v (x.h.put b<|.loop { W with st:=.busy }) (O.putObj k<|.loop { rec with state:=.busy }):=by
  grind
 have ex:=d.trans o;refine(FZ (k:=some k) (n:=0) K g M G false ls.body (by simp) B v a1 _ _ o.rel (J.ext ex) t A ⟨m,d.at r⟩ fun y Y s a2 w2 hf2 c U=>?_).1;obtain⟨L3,I,t2⟩:=Cz j y Y;split at I
 case h_2=>cases I
 rename_i l3 D;obtain⟨N,s1,s2,s3,s4⟩:=Hi c.rel D<|c.at (d.at r);cases S:y.e with
 |normal=>
  exact⟨_,_,run_endRound none s1,.bool true,_,.bool true,s,ae,rfl,by rfl,ex.trans<|c.trans<|s4 .ready none⟩
 |ret=>
  exact⟨_,_,run_endRound (some .ret) s1,.bool false,_,.bool false,s,ae,rfl,by rfl,ex.trans<|c.trans<|s4 .done<|some .ret⟩
 |exit i=>
  exact⟨_,_,(by grind [run_endRound]),.bool false,_,.bool false,s,ae,rfl,by rfl,ex.trans<|c.trans<|s4 .done<|some<|.exit i⟩
def BH(C:Ctx):Prop:=∀f i,C.fn f=some i->i.cert=true->BF i.body=true
theorem CT(r:C.Ok P)(t:BH C)(A:P.follows .mixedOrders=true):∀n,(Aq C n).Ok C P
 |0=>⟨fun f args h l c=>(by cases c),fun b ls fr h l c=>(by cases c)⟩
 |n+1=>by
  refine⟨fun f args h l c p w args' z y J=>?_,fun b ls fr h l c p w k m f tmps z y hb U hf=>GH r (CT r t A n) A c z y U hf⟩;unfold Aq at c;simp only at c;split at c
  case h_1=>
   rename_i q R;split at c
   case h_2=>cases c
   rename_i x I;cases c;refine(r.spec f q R p h w args args' x.1 x.2 z y J I).mono ?_;rintro e w' ⟨v',p',rfl,g,K⟩;exact⟨x.1,x.2,v',p',(by simp),rfl,g,K⟩
  case h_2=>
   split at c
   case h_1=>cases c
   rename_i i N;split at c
   case h_1=>cases c
   rename_i L hL;split at c
   case h_2=>cases c
   rename_i E G;cases c;refine Calls.mono ?_ (fun e w' M=>(show Dm p h w (bif C.mg then G2 h.nx E else E) e w' from by cases C.mg with|true=>exact Dm.merge M|false=>exact M));have c:=G;generalize E=l at c;obtain⟨fn,s,h2,h3,O,Z⟩:=r.fn f i N;have Y:=t f i N;refine callsIn_wide.1<|callsIn_of_wp_marks (F:=Zz) (n:=0) s h3 trivial ?_;rw[O];refine(FZ (k:=none) (n:=0) r (CT r t A n) A n i.cert i.body Y hL p _ w _ z y (SC J i.ntmps) rfl trivial fun x I X a1 w1 B u D=>?_).1;obtain⟨L1,g,K⟩:=Cz c x I;have fin:∀ {s:H} {v:V},C9 x.ds x.h=some s->Ig C x.fr s i.results.toList=some v->L1=[(v,s)]->LeavesInM Zz 0 P fn a1.tmps (Dm p h w l) a1.defers .returning w1:=by
    intro s v o d S;obtain⟨w2,q1,W⟩:=J5 (P:=P) (fn:=fn) (tmps:=a1.tmps) (n:=0) D u.rel o;obtain⟨v',s1,s2⟩:=Uc (P:=P) (fn:=fn) r.T q1.rel (B.ext q1) (by rw[Z];exact d);exact W _ ⟨v',s1,v,s,v',X,ae,rfl,s2,u.trans q1⟩
   split at g
   case h_1=>cases g
   case h_2=>
    split at g
    case h_2=>cases g
    rename_i h2 o;split at g
    case h_2=>cases g
    rename_i v d;cases g;cases hxe:x.e with
    |normal=>exact fin o d rfl
    |ret=>exact fin o d rfl
    |exit j=>grind
end
def Sf(P:Program)(t:TypeId):Option TI:=
 match P.info? t with
 |some i=>match i.zero with
  |some z=>match cv z with
   |some v=>some ⟨i.size,i.bytes,v⟩
   |none=>none
  |none=>none
 |none=>none
theorem Q5{P:Program}{t:TypeId}{i:TI}(h:Sf P t=some i):∃j v,P.info? t=some j/\j.size=i.size/\j.bytes=i.bytes/\j.zero=some v/\∀p,Aa p i.zv v:=by
 unfold Sf at h;split at h
 case h_2=>cases h
 split at h
 case h_2=>cases h
 split at h
 case h_2=>cases h
 cases h;simp_all [NL]
def Te(P:Program)(t:TypeId):Option FK:=
 match P.underlying t with
 |some (.int k)=>some<|.int k
 |some .string=>some .str
 |some .bool=>some .bool
 |_=>none
def Ij(P:Program):List Field->Nat->Option (List FK)
 |[],_=>some []
 | f :: fs, i => if f.name = "_" \/ f.offset ≠ i then none else match Te P f.type, Ij P fs (i + 1) with
  |some k,some ks=>some (k::ks)
  |_,_=>none
def MH(P:Program)(t:TypeId):Option (List FK):=
 match P.underlying t with
 |some (.struct fs)=>if P.stoodInHeld t=true\/P.eqGuardType P.depth t=true then none else Ij P fs.toList 0
 |_=>none
def MG:TypeDesc->Bool
 | .pointer _=>false
 |_=>true
def QB(P:Program)(t:TypeId)(name:String):Option FuncId:=
 match P.info? t,P.underlying t with
 |some j,some d=>match j.methods.find? (·.name==name)with
  |some m=>match m.path,m.func with
   |⟨[]⟩,some (f,false)=>bif MG d then some f else none
   |_,_=>none
  |none=>none
 |_,_=>none
theorem SA{P:Program}{t:TypeId}{name:String}{f:FuncId}(h:QB P t name=some f):∃j m d,P.info? t=some j/\j.methods.find? (·.name==name)=some m/\m.path= #[]/\m.func=some (f,false)/\P.underlying t=some d/\∀e,d≠ .pointer e:=by
 unfold QB at h;split at h
 case h_2=>cases h
 rename_i j d c i;split at h
 case h_2=>cases h
 split at h
 case h_2=>cases h
 cases g:MG d with
 |false=>grind
 |true=>
  grind [MG]
def UZ(P:Program):AP:=⟨P.underlying,Sf P,MH P,QB P⟩
section
variable {P:Program}{p:Pl}
theorem Ix{t:TypeId}{k:FK}(h:Te P t=some k):∃d,P.underlying t=some d/\B8 d=false/\(∀e,d≠ .interface e)/\match k with
  | .int k=>d=.int k
  | .str=>d=.string
  | .bool=>d=.bool:=by
 unfold Te at h;split at h
 case h_1=>rename_i c;cases h;exact⟨_,c,rfl,(by simp),rfl⟩
 case h_2=>rename_i c;cases h;exact⟨_,c,rfl,(by simp),rfl⟩
 case h_3=>rename_i c;cases h;exact⟨_,c,rfl,(by simp),rfl⟩
 grind
theorem Jb{t:TypeId}{d:TypeDesc}(g:P.underlying t=some d)(f:B8 d=false){cs:Array Value}{i:Nat}{v:Value}(e:cs[i]?=some v)(w:World):(part t cs i).run P w=.ok v w:=by
 unfold part isAgg;have c:(underlying t).run P w=.ok d w:=by simp_all [underlying]
 simp only[Zs,c,Zo];cases d<;>first|(cases f;done)|simp[e]
theorem N9{t:TypeId}{k:FK}(h:Te P t=some k){a b:V}{f b':Value}(c:k.ok a=true)(e:k.ok b=true)(g:Aa p a f)(i:Aa p b b'){r:Bool}(m:BZ a b=some r)(d:Nat)(w:World):
  (Op.equalIn (d+1) t f b').run P w=.ok r w:=by
 obtain⟨D,l,_,_,j⟩:=Ix h;cases k with
 |int k=>
  cases a<;>simp only[FK.ok]at c<;>try (cases c;done)
  cases b<;>simp only[FK.ok]at e<;>try (cases e;done)
  grind [Aa,BZ,run_equalIn_int]
 |str=>
  cases a<;>simp only[FK.ok]at c<;>try (cases c;done)
  cases b<;>simp only[FK.ok]at e<;>try (cases e;done)
  grind [Aa,BZ,run_equalIn_string,Et]
 |bool=>
  cases a<;>simp only[FK.ok]at c<;>try (cases c;done)
  cases b<;>simp only[FK.ok]at e<;>try (cases e;done)
  grind [Aa,BZ,run_equalIn_bool']
theorem K9:∀ {ks:List FK} {x:List V},fit ks x=true->ks.length=x.length
 |[],[],_=>rfl
 |[],_::_,h=>by simp[fit]at h
 |_::_,[],h=>by simp[fit]at h
 |k::ks,v::vs,h=>by
  unfold fit at h;cases c:k.ok v with
  |false=>grind
  |true=>simp only[c,wc]at h;simp[K9 h]
theorem Gj(d:Nat){w:World}{x' y':Array Value}:∀ {fs:List Field} {i:Nat} {ks:List FK},Ij P fs i=some ks->∀ {x y:List V} {u v:List Value},fit ks x=true->fit ks y=true->Ac p x u->Ac p y v->
  (∀j a,u[j]?=some a->x'[i+j]?=some a)->(∀j a,v[j]?=some a->y'[i+j]?=some a)->∀ {r:Bool},AK x y=some r->(Op.eqFields (d+1) x' y' fs).run P w=.ok r w
 |[],i,ks,l,x,y,u,v,G,B,_,_,_,_,r,t=>by
  cases l;cases x with
  |cons _ _=>simp[fit]at G
  |nil=>cases y with
   |cons _ _=>simp[fit]at B
   |nil=>simp_all [AK,Op.eqFields]
 |f::fs,i,ks,l,x,y,u,v,G,B,W,N,K,L,r,t=>by
  unfold Ij at l;split at l
  case isTrue=>cases l
  have q : f.name ≠ "_" := ae;have m:f.offset=i:=a8;split at l
  case h_2=>cases l
  rename_i k o A U;cases l;cases x with
  |nil=>simp[fit]at G
  |cons a x=>cases y with
   |nil=>simp[fit]at B
   |cons b y=>
    obtain⟨T,X,rfl,s,E⟩:=W;obtain⟨b',v',rfl,hv1,hv2⟩:=N;have M:k.ok a=true:=by grind [fit]
    have I:k.ok b=true:=by grind [fit]
    have R:fit o x=true:=by grind [fit]
    have S:fit o y=true:=by grind [fit]
    obtain⟨D,g,e,_,_⟩:=Ix A;have J:=Jb g e (K 0 T rfl) w;have pb:=Jb g e (L 0 b' rfl) w;simp only[ZG]at J pb;simp only[Op.eqFields,q,wk,not_false_eq_true,wi,Zs,m,J,pb,Zo];unfold AK at t;split at t
    case h_1=>
     rename_i z;rw[N9 A M I s hv1 z];exact Gj d U R S E hv2 (fun j c O=>by have:=K (j+1) c ae;grind) (fun j c O=>by have:=L (j+1) c ae;grind) t
    case h_2=>
     rename_i z;rw[N9 A M I s hv1 z];simp_all
    grind
theorem Fq{b:Bool}{w:World}{x':Array Value}:∀ {fs:List Field} {i:Nat} {ks:List FK},Ij P fs i=some ks->∀ {x:List V} {u:List Value},fit ks x=true->Ac p x u->
  (∀j a,u[j]?=some a->x'[i+j]?=some a)->
  (forIn (m := Sem) fs PUnit.unit fun f _ => if f.name ≠ "_" then do
    Zv b 9999 f.type (<-part f.type x' f.offset)
    pure (ForInStep.yield ZE)
   else do
    pure ZE
    pure (ForInStep.yield ZE)).run P w=.ok ZE w
 |[],i,ks,e,x,u,t,_,_=>by simp
 |f::fs,i,ks,e,x,u,t,G,s=>by
  unfold Ij at e;split at e
  case isTrue=>cases e
  split at e
  case h_2=>cases e
  rename_i k o z B;cases e;cases x with
  |nil=>simp[fit]at t
  |cons a x=>
   obtain⟨r,L,rfl,v,q⟩:=G;have E:fit o x=true:=by grind [fit]
   obtain⟨D,l,g,A,_⟩:=Ix z;have I:=Jb l g (s 0 r rfl) w;have y:(Zv b 9999 f.type r).run P w=.ok () w:=by
    unfold Zv;have d:(underlying f.type).run P w=.ok D w:=by simp_all [underlying]
    simp only[Zs,d,Zo];cases D<;>first|rfl|grind|grind
   have K:=Fq (b:=b) (w:=w) (x':=x') B E q (fun j c J=>by have:=s (j+1) c ae;grind);simp_all
theorem VI(P:Program):(UZ P).Ok P:=by
 have key:∀t ks,MH P t=some ks->∃fs,P.underlying t=some (.struct fs)/\P.stoodInHeld t=false/\P.eqGuardType P.depth t=false/\Ij P fs.toList 0=some ks:=by
  grind [MH]
 refine⟨fun t d h=>h,fun t i h=>Q5 h,?_,?_,?_,?_,fun t name f h=>SA h⟩
 ·intro t ks h p x y x' y' r w m q o s u;obtain⟨fs,c,l,e,g⟩:=key t ks h;grind [Program.fieldsOf,Op.equal,Op.maxDepth,run_equalIn_struct,Gj]
 ·intro t ks h;obtain⟨fs,c,l,e,g⟩:=key t ks h;exact e
 ·intro t ks h p x x' b w m o;obtain⟨fs,c,l,e,g⟩:=key t ks h;unfold Zv;have j:(underlying t).run P w=.ok (.struct fs) w:=by simp_all [underlying]
  have:=Fq (b:=b) (w:=w) (x':=x') g m o (by simp);simp_all
 ·intro t ks h;obtain⟨fs,c,_⟩:=key t ks h;exact⟨fs,c⟩
end
def Jr(P:Program)(ct:FuncId->Bool)(f:FuncId):Option Fn:=
 match P.funcs[f]? with
 |some fn=>match fn.body with
  | some b => if fn.name = "runtime.NumGoroutine" then none else some ⟨fn.ntmps, fn.results, b, ct f⟩
  |none=>none
 |none=>none
theorem Uq {P : Program} {ct : FuncId -> Bool} {f : FuncId} {i : Fn} (h : Jr P ct f = some i) : ∃ fn, P.funcs[f]? = some fn /\ fn.name ≠ "runtime.NumGoroutine" /\ fn.body = some i.body /\ fn.ntmps = i.ntmps /\ fn.results = i.results := by
 unfold Jr at h;grind
inductive PK where
 |indexByte
 |add64
 |sub64
 |count
 |noEsc
def HP:Array Value->Sem Value:=fun args=>do
 let (x, y, b) <- Extern.MathBitsCarry.three "Sub64" args
 pure (Zw ((x+Zl-y-b) % Zl) (if x<y+b then 1 else 0))
def PK.entry:PK->Array Value->Sem Value
 | .indexByte=>Extern.BytealgIndexByte.indexByte
 | .add64=>add64Entry
 | .sub64=>HP
 | .count=>Extern.BytealgCount.count
 | .noEsc=>Extern.AbiNoEscape.same
def UM:Option Nat->V
 |some i=>i64 i
 |none=>.int .i64<| -1
def Xb:Nat:=18446744073709551616
def PK.run:PK->List V->H->Option (V×H)
 | .indexByte,[.str s,.int .u8 c],h=>some (UM<|s.findIdx? fun x=>x==c.toNat.toUInt8,h)
 | .add64,[.int .u64<|.ofNat x,.int .u64<|.ofNat y,.int .u64<|.ofNat c],h=>
  bif Zm c 1 then some (.tup [.int .u64<|.ofNat<|(x+y+c) % Xb,.int .u64<|.ofNat<|(x+y+c)/Xb],h)else none
 | .sub64,[.int .u64<|.ofNat x,.int .u64<|.ofNat y,.int .u64<|.ofNat c],h=>
  bif Zm c 1 then some (.tup [.int .u64<|.ofNat<|(x+Xb-y-c) % Xb,.int .u64<|.ofNat<|bif Zp x (y+c)then 1 else 0],h)else none
 | .count,[.str s,.int .u8 c],h=>some (.int .i64 (s.foldl (fun n x=>bif x==c.toNat.toUInt8 then Zg n 1 else n) 0:Nat),h)
 | .noEsc,[.ptr b o],h=>some (.ptr b o,h)
 |_,_,_=>none
theorem Jo(s:Y)(c:UInt8):((List.range (bytesOf s).size).find? fun i=>(bytesOf s)[i]! ==c)=s.findIdx? fun x=>x==c:=by
 have key:∀(l pre:Y),pre++l=s->((List.range' pre.length l.length).find? fun i=>(bytesOf s)[i]! ==c)=(l.findIdx? fun x=>x==c).map (· +pre.length):=by
  intro l;induction l with
  |nil=>simp
  |cons a l e=>
   intro pre g;have d:(bytesOf s)[pre.length]! =a:=by
    grind [AM,bytesOf,ByteArray.getElem_eq_getElem_data]
   rw[List.length_cons,List.range'_succ,List.find?_cons,d,List.findIdx?_cons];cases f:a==c with
   |true=>simp
   |false=>
    have:=e (pre++[a]) ae;simp only[List.length_append,List.length_singleton]at this;simp only[this,Bool.false_eq_true,vb,Option.map_map];congr 1;grind
 have:=key s [] rfl;simp_all [List.range_eq_range',AM]
theorem Ac.three{p:Pl}{a b c:V}{l:List Value}(h:Ac p [a,b,c] l):∃x y z,l=[x,y,z]/\Aa p a x/\Aa p b y/\Aa p c z:=by
 simp only[Ac]at h;grind
theorem PK.YR{P:Program}{k:PK}{p:Pl}{h:H}{w:World}{args:List V}{args':Array Value}{v:V}{h':H}(g:Ac p args args'.toList)(d:k.run args h=some (v,h')):
  h'=h/\∃v',(k.entry args').run P w=.ok v' w/\Aa p v v':=by
 unfold PK.run at d;split at d
 case h_6=>cases d
 case h_5=>
  cases d;obtain⟨x,i,e⟩:=g.one;have:args'= #[x]:=ae;subst this;exact⟨rfl,x,(by rfl),e⟩
 case h_1=>
  rename_i s c;cases d;obtain⟨x,y,i,e,f⟩:=g.two;have:args'= #[x,y]:=ae;subst this;subst e f;refine⟨rfl,_,run_indexByte_string (bytesOf s) c w,?_⟩;unfold firstIdx;rw[Jo];grind [UM,i64,Aa]
 case h_2=>
  rename_i x y c;rw[show Zm c 1=decide (c<=1)from by rw[Bool.eq_iff_iff];simp]at d;by_cases j:c<=1
  ·simp only[j,decide_true,wc,Zf,ZD]at d;obtain⟨rfl,rfl⟩:=d;obtain⟨x',y',z',i,e,f,h3⟩:=g.three;have:args'= #[x',y',z']:=ae;subst this;subst e f h3;refine⟨rfl,_,run_add64 x y c a8 a8 a8 a8 w,?_⟩;simp_all [Aa,Xb]
  grind
 case h_3=>
  rename_i x y c;rw[show Zm c 1=decide (c<=1)from by rw[Bool.eq_iff_iff];simp]at d;by_cases j:c<=1
  ·simp only[j,decide_true,wc,Zf,ZD]at d;obtain⟨rfl,rfl⟩:=d;obtain⟨x',y',z',i,e,f,h3⟩:=g.three;have:args'= #[x',y',z']:=ae;subst this;subst e f h3;have key:(HP #[.int .u64 x,.int .u64 y,.int .u64 c]).run P w=
     .ok (Zw ((x+Zl-y-c) % Zl)<|if x<y+c then 1 else 0) w:=by
    have:c=0\/c=1:=a8
    rcases this with rfl|rfl<;>rfl
   refine⟨rfl,_,key,?_⟩;refine⟨_,rfl,?_⟩;simp only[Au,E9,va,Aa];refine⟨rfl,?_⟩;grind [DG]
  grind
 case h_4=>
  rename_i s c;cases d;obtain⟨x,y,i,e,f⟩:=g.two;have:args'= #[x,y]:=ae;subst this;subst e f;refine⟨rfl,_,Lib.run_countString (bytesOf s) c w,?_⟩;have key:∀(l:Y) (n:Nat),l.foldl (fun n x=>bif x==c.toNat.toUInt8 then Zg n 1 else n) n=n+Lib.countByte l c.toNat.toUInt8:=by
   intro l;induction l with
   |nil=>grind [Lib.countByte]
   |cons x l m=>
    intro n;rw[List.foldl_cons,m];unfold Lib.countByte;grind
  simp_all [Aa,bytesOf]
def Ki(L:List (FuncId×PK))(f:FuncId):Option (List V->H->Option (V×H)):=
 match L with
 |[]=>none
 |(g,k)::L=>bif Za g f then some k.run else Ki L f
structure FD(P:Program)(x:FuncId×PK):Prop where
 ok : ∃ fn, P.funcs[x.1]? = some fn /\ (fn.name == "runtime.NumGoroutine") = false /\ fn.body.isNone = true /\ Extern.findNext fn = none /\ Extern.find fn = some x.2.entry
theorem OE{P:Program}:∀ {L:List (FuncId×PK)},(∀x∈L,FD P x)->∀f q,Ki L f=some q->∀(p:Pl) (h:H) (w:World) (args:List V) (args':Array Value) v h',R p h w->Ac p args args'.toList->q args h=some (v,h')->
  ∃v' p' w',(callFunc f args').run P w=.ok (.value v') w'/\Aa p' v v'/\Ext p h w p' h' w'
 |[],_,f,q,c,_,_,_,_,_,_,_,_,_,_=>by cases c
 |(g,k)::L,l,f,q,c,p,h,w,args,args',v,h',j,d,i=>by
  unfold Ki at c;rw[Aw]at c;by_cases e:g=f
  ·subst e;simp only[decide_true,wc,Zf]at c;subst c;obtain⟨fn,o,s,t,m,r⟩:=(l (g,k)<|by simp).ok;obtain⟨rfl,v',g1,g2⟩:=PK.YR (P:=P) (w:=w) d i;refine⟨v',p,w,?_,g2,Zy j⟩;simp_all [run_callFunc_extern]
  ·simp only[e,decide_false,wd]at c;exact OE ae f q c p h w args args' v h' j d i
def WN:Option (List<|V×H)->Option V
 |some [(v,_)]=>some v
 |_=>none
def OV(C:Ctx)(n:Nat)(f:FuncId)(args:List V)(v:V):Bool:=match WN (Aq C n (.fn f args) hG)with
 |some x=>V.beq x v
 |none=>false
theorem MN{C C':Ctx}{P:Program}(B:C.Ok P)(A:BH C)(J:P.follows .mixedOrders=true){n:Nat}{f:FuncId}{args:List V}{v:V}
  (j:OV C n f args v=true) (D:V.CJ args=true) (t:v.flat=true) {p:Pl} {h:H} {w:World} {args':Array Value} (d:R p h w) (s:Gl C' p) (I:Gh h) (c:Ac p args args'.toList):
  Calls P f args' w fun e w'=>∃v' p',e=.returned v'/\Aa p' v v'/\Ext p h w p' h w':=by
 unfold OV at j;split at j
 case h_2=>cases j
 rename_i x q;have z:x=v:=V.beq_eq j;subst z;unfold WN at q;split at q
 case h_2=>cases q
 rename_i l M he;cases q;refine((CT B A J n).fn f args hG _ he _ w args' (VQ d s I) s.take<|V.DH D c).mono ?_;rintro e w' ⟨u,h',v',p',i,rfl,K,g⟩;cases Zd.1 i;have G:∀r,r<w.heap.size->w'.heap[r]?=w.heap[r]?:=fun r d=>g.BW s.take r d
 refine⟨v',p,rfl,V.Bf t K,⟨(by simp),⟨d.len,fun b o E=>?_,d.inj⟩,g.size,ae,ae,g.os,g.out,g.tape,ae,g.dr⟩⟩;obtain⟨r,m,y,N,L,O⟩:=d.obj b o E;grind
def Mp(h:H):List (Nat×O)->Bool
 |[]=>true
 |(i,o)::l=>Gi (h.get i) (some o)&&Mp h l
theorem Ea{h:H}:∀ {l:List (Nat×O)},Mp h l=true->∀x∈l,h.get x.1=some x.2
 |[],_,x,c=>by cases c
 |(i,o)::l,d,x,c=>by
  simp only[Mp,Zb]at d;rcases Zt.1 c with rfl|c
  ·cases e:h.get i with
   |none=>grind [Gi]
   |some q=>grind [KK,Gi]
  ·exact Ea d.2 x c
def XE:List (Nat×O)->Bool
 |[]=>true
 |(_,o)::l=>Gi (some o) (some o)&&XE l
theorem P1:XE BW=true:=by rfl
theorem VM{h:H}(c:Gh h):Mp h BW=true:=by
 have key:∀l:List (Nat×O),(∀x∈l,h.get x.1=some x.2)->XE l=true->Mp h l=true:=by
  intro l;induction l with
  |nil=>exact fun _ _=>rfl
  |cons x l d=>
   intro e f;simp_all [XE,Mp]
 exact key BW c P1
abbrev Bg:=List<|FuncId×List V×V
def EM:Bg->FuncId->List V->Option V
 |[],_,_=>none
 |(g,a,v)::l,f,args=>bif Za g f&&V.Fj a args then some v else EM l f args
def KS:Bg->FuncId->Bool
 |[],_=>false
 |(g,_,_)::l,f=>bif Za g f then true else KS l f
def DQ(L:Bg)(f:FuncId):Option (List V->H->Option (V×H)):=
 bif KS L f then some (fun args h=>bif Mp h BW then(match EM L f args with|some v=>some (v,h)|none=>none)else none)else none
def An(C:Ctx)(n:Nat):Bg->Bool
 |[]=>true
 |(f,a,v)::l=>OV C n f a v&&V.CJ a&&v.flat&&An C n l
theorem O3{L:Bg}{f:FuncId}{args:List V}{v:V}(h:EM L f args=some v){C:Ctx}{n:Nat}(c:An C n L=true):OV C n f args v=true/\V.CJ args=true/\v.flat=true:=by
 induction L with
 |nil=>cases h
 |cons x l d=>
  obtain⟨g,a,u⟩:=x;simp only[An,Zb]at c;unfold EM at h;cases e:(Za g f&&V.Fj a args)with
  |false=>grind
  |true=>
   grind [Zc,V.De]
theorem S2{C C':Ctx}{P:Program}(m:C.Ok P)(j:BH C)(y:P.follows .mixedOrders=true){n:Nat}{L:Bg}(o:An C n L=true):
  ∀f q,DQ L f=some q->∀(p:Pl) (h:H) (w:World) (args:List V) (args':Array Value) v h',R p h w->Gl C' p->Ac p args args'.toList->q args h=some (v,h')->
  Calls P f args' w fun e w'=>∃v' p',e=.returned v'/\Aa p' v v'/\Ext p h w p' h' w':=by
 intro f q i p h w args args' v h' t l d c;unfold DQ at i;cases x:KS L f with
 |false=>grind
 |true=>
  rw[x]at i;cases i;simp only at c;cases g:Mp h BW with
  |false=>grind
  |true=>
  rw[g]at c;split at c
  case h_2=>cases c
  rename_i u z;cases c;obtain⟨s,r,A⟩:=O3 z o;exact MN (C':=C') m j y s r A t l (Ea g) d
section
def HZ(P:Program):Nat->Nat->Bool
 |0,_=>true
 |n+1,a=>(match Jr P (fun _=>true) a with|some i=>BF i.body|none=>true)&&HZ P n (a+1)
variable {P:Program}
theorem JX{ct:FuncId->Bool}{f:FuncId}{i:Fn}(c:Jr P ct f=some i):Jr P (fun _=>true) f=some { i with cert:=true }/\i.cert=ct f:=by
 unfold Jr at c ⊢;cases d:P.funcs[f]? with
 |none=>grind
 |some fn=>
  grind
theorem EE{f:Nat}{i:Fn}{ct:FuncId->Bool}(c:Jr P ct f=some i):∀ {n a:Nat},HZ P n a=true->a<=f->f<a+n->BF i.body=true
 |0,a,_,d,g=>by omega
 |n+1,a,h,d,g=>by
  simp only[HZ,Zb]at h;by_cases e:a=f
  ·subst e;rw[(JX c).1]at h;exact h.1
  ·exact EE c h.2 a8 a8
def Yd(P:Program)(N:Nat)(L:List (FuncId×PK)):Ctx:=⟨UZ P,0,Jr P<|fun f=>Zp f N,Ki L,fun _=>none,true⟩
theorem PX{N:Nat}{L:List (FuncId×PK)}(h:∀f i,f<N->Jr P (fun f=>Zp f N) f=some i->BF i.body=true):BH (Yd P N L):=by
 intro f i c d;have c:Jr P (fun f=>Zp f N) f=some i:=c;rw[(JX c).2]at d;exact h f i (Zj d) c
theorem U9{N:Nat}{L:List (FuncId×PK)}(i:∀x∈L,FD P x):(Yd P N L).Ok P where
 T:=VI P
 fn:=fun _ _ h=>Uq (P:=P) (ct:=fun f=>Zp f N) h
 prim:=fun f q c p h w args args' v h' d _ e g=>OE i f q c p h w args args' v h' d e g
 spec:=fun f q c=>by cases c
end
end Go.Det
namespace Go.Pe
open Go.Det
inductive Sh where
 |int (k:IntKind)
 |bool
 |str
 |list (s:Sh)
 |pair (a b:Sh)
 |unit
 |nlist (s:Sh)
 |fnv
 |ptr (s:Sh)
 deriving DecidableEq
@[reducible] def Sh.T:Sh->Type
 | .int _=>Int
 | .bool=>Bool
 | .str=>Y
 | .list s=>List s.T
 | .pair a b=>a.T×b.T
 | .unit=>Unit
 | .nlist s=>List s.T
 | .fnv=>Option Fn
 | .ptr s=>s.T
def Sh.D9:(s:Sh)->s.T
 | .int _=>(0:Int)
 | .bool=>false
 | .str=>([]:Y)
 | .list _=>[]
 | .pair a b=>(a.D9,b.D9)
 | .unit=>()
 | .nlist _=>[]
 | .fnv=>none
 | .ptr s=>s.D9
def Sh.sz:Sh->Nat
 | .pair a b=>Zg a.sz b.sz
 | .unit=>0
 |_=>1
inductive PV where
 |any
 |bl (b:Bool)
 |ub
 |dat (s:Sh) (x:s.T)
 |nil|nilp|nilm|nilf|nili
 |agg (l:List PV)
 |tup (l:List PV)
 |ptr (id off:Nat)
 |eptr (id sz i off:Nat)
 |B4 (s:Sh) (x:s.T) (off:Nat)
 |sl (id sz off len:Nat) (cap:Option Nat)
 |mp (id:Nat)
 |fn (f:Fn) (first captured:List PV)
 |yl (id:Nat)
inductive XM where
 |ready|busy|ret
 |exit (i:Nat)
inductive Obj where
 |arr (fz:Bool) (e:TypeId) (s:Sh) (l:List s.T)
 |box (cs:List PV)
 |tbox (t:TypeId) (cs:List PV)
 |map (ks vs:Sh) (l:List (ks.T×vs.T))
 |siter (s:Y) (pos:Nat)
 |lp (f:FuncId) (r:Nat) (ps:Array Tmp) (asg body:Code) (s:XM) (n:Nat) (sl:List (Nat×PV))
abbrev Ob:=List<|Nat×Obj
def Aj:Ob->Nat->Option Obj
 |[],_=>none
 |(i,o)::l,j=>bif Za i j then some o else Aj l j
def BT:Ob->Nat->Obj->Ob
 |[],_,_=>[]
 |(i,o)::l,j,x=>bif Za i j then(i,x)::l else(i,o)::BT l j x
def Df:Ob->Nat->Ob
 |[],_=>[]
 |(i,o)::l,j=>bif Za i j then Df l j else(i,o)::Df l j
structure Ag where
 n:Nat
 fr:PM PV
 ob:Ob
 nx:Nat
def Ag.get(st:Ag)(t:Nat):PV:=(st.fr.get t).getD .any
def Ag.obj(st:Ag)(id:Nat):Option Obj:=Aj st.ob id
def Ag.set(st:Ag)(t:Nat)(v:PV):Ag:=⟨st.n,st.fr.set t<|some v,st.ob,st.nx⟩
def Ag.setObj(st:Ag)(id:Nat)(o:Obj):Ag:=⟨st.n,st.fr,BT st.ob id o,st.nx⟩
def Ag.C8(st:Ag)(id:Nat):Ag:=⟨st.n,st.fr,Df st.ob id,st.nx⟩
def Ag.push(st:Ag)(o:Obj):Ag:=⟨st.n,st.fr,(st.nx,o)::st.ob,Zg st.nx 1⟩
def Ag.put(st:Ag)(d:Option Nat)(v:PV):Option Ag:=
 match d with
 |none=>some st
 |some t=>bif Zp t st.n then some (st.set t v)else none
def Cn(vs:List (Nat×PV)):PM PV:=vs.foldl (fun m x=>m.set x.1<|some x.2) .leaf
def flat:(s:Sh)->s.T->List PV
 | .pair a b,(x,y)=>flat a x++flat b y
 | .unit,_=>[]
 | .fnv,x=>[match (x:Option Fn)with|some f=>.fn f [] []|none=>.nilf]
 | .ptr s,x=>[.B4 s x 0]
 |s,x=>[.dat s x]
def Cc(s c:Sh)(x:s.T):Option c.T:=if h:s=c then some (h▸x)else none
def Yz(c:Sh)(x:c.T):(s:Sh)->Option s.T
 | .ptr s=>Cc c s x
 |_=>none
def TB(s:Sh)(v:PV):Option s.T:=
 match v with
 | .B4 c x 0=>Yz c x s
 | .dat c x=>Cc c s x
 | .bl b=>Cc .bool s b
 | .fn f [] []=>Cc .fnv s<|some f
 | .nilf=>Cc .fnv s none
 | .nil=>match s with
  | .list _=>some []
  | .nlist _=>some []
  |_=>none
 |_=>none
def A2:(s:Sh)->List PV->Option (s.T×List PV)
 | .pair a b,l=>match A2 a l with
  |some (x,c)=>match A2 b c with
   |some (y,d)=>some ((x,y),d)
   |none=>none
  |none=>none
 | .unit,l=>some ((),l)
 |s,v::l=>match TB s v with
  |some x=>some (x,l)
  |none=>none
 |_,[]=>none
def Bp(s:Sh)(l:List PV):Option s.T:=
 match A2 s l with
 |some (x,[])=>some x
 |_=>none
def PV.cells:PV->List PV
 | .agg cs=>cs
 |v=>[v]
def Ov(ty:TypeId->Option Sh):List Field->Option Sh
 |[]=>none
 |[x]=>ty x.type
 |x::c=>match ty x.type,Ov ty c with
  |some a,some b=>some<|.pair a b
  |_,_=>none
def YU:Option Sh->Option Sh
 |some (.list<|.int .u64)=>some<|.nlist<|.int .u64
 |s=>s
def lz:PV->PV
 | .dat (.nlist s) x=>.dat (.list s) x
 |v=>v
def Sh.leaves:Sh->List Sh
 | .pair a b=>a.leaves++b.leaves
 | .unit=>[]
 |s=>[s]
def Lq:Sh->PV->Bool×PV
 | .nlist s,.dat (.list c) x=>bif s==c then(decide (0<x.length),.dat (.nlist c) x)else(true,.dat (.list c) x)
 | .list s,.dat (.nlist c) x=>bif s==c then(true,.dat (.list c) x)else(true,.dat (.nlist c) x)
 |_,v=>(true,v)
def F5:List Sh->List PV->Bool×List PV
 |s::l,v::vs=>((Lq s v).1&&(F5 l vs).1,(Lq s v).2::(F5 l vs).2)
 |_,vs=>(true,vs)
def ND(T:AP):Nat->TypeId->Option Sh
 |0,_=>none
 |f+1,t=>match T.und t with
  |some (.int k)=>some<|.int k
  |some .bool=>some .bool
  |some .string=>some .str
  |some (.slice e)=>(ND T f e).map .list
  |some (.func _ _ _)=>some .fnv
  |some (.struct fs)=>Ov (fun x=>YU<|ND T f x) fs.toList
  |_=>none
def Sh.S7:Sh->Bool
 | .pair a b=>a.S7||b.S7
 | .fnv=>true
 |_=>false
def AX:(s:Sh)->s.T->PV
 | .pair a b,x=>.agg<|flat (.pair a b) x
 | .unit,_=>.agg []
 | .fnv,x=>match (x:Option Fn)with|some f=>.fn f [] []|none=>.nilf
 | .ptr s,x=>.B4 s x 0
 |s,x=>.dat s x
def Sh.Ho:Sh->Bool
 | .pair _ _| .unit=>true
 |_=>false
def Jy:(s:Sh)->s.T->s.T->Bool
 | .int _,a,b=>(a:Int)==b
 | .bool,a,b=>(a:Bool)==b
 | .str,a,b=>(a:Y)==b
 |_,_,_=>false
def CM(s v:Sh)(k:s.T):List (s.T×v.T)->Option v.T
 |[]=>none
 |(a,b)::l=>bif Jy s k a then some b else CM s v k l
def FI(s v:Sh)(k:s.T)(x:v.T):List (s.T×v.T)->List (s.T×v.T)
 |[]=>[(k,x)]
 |(a,b)::l=>bif Jy s k a then(k,x)::l else(a,b)::FI s v k x l
def Kr(s v:Sh)(k:s.T):List (s.T×v.T)->List (s.T×v.T)
 |[]=>[]
 |(a,b)::l=>bif Jy s k a then l else(a,b)::Kr s v k l
inductive Tr where
 |fail
 |leaf (v:PV) (ob:Ob)
 |ite (c:Bool) (a b:Tr)
 |both (a b:Tr)
 |cut (nd ro:Bool) (d:Nat) (f:FuncId) (base:Nat) (b:Code) (st:Ag) (k:DX->Ag->Tr)
 |alts (m:Nat) (f:Nat->Tr)
 |loop (nd ro:Bool) (d:Nat) (f:FuncId) (base:Nat) (b:Code) (st:Ag) (k:DX->Ag->Tr)
abbrev Tr.ck(c:Bool)(x:Tr):Tr:=.ite c x .fail
abbrev Tr.cd(P:Prop)[Decidable P](x:Tr):Tr:=.ite (decide P) x .fail
abbrev a6(k:Nat):Bool:=decide (1<=1)&&decide (0<1)&&decide ((3*1+2000)*k<=562949953421312)
abbrev a7(n m k:Nat):Bool:=decide (1<=1)&&true&&decide (n=m)&&decide ((3*(n+1)+2000)*k<=562949953421312)
abbrev Tr.di(P:Prop)[Decidable P](x y:Tr):Tr:=.ite (decide P) x y
inductive PO where
 |bad
 |val (v:PV) (st:Ag)
 |ite (c:Bool) (a b:PO)
def PO.EF(c:Bool)(v:PV)(st:Ag):PO:=.ite c (.val v st) .bad
mutual
def Hp:Value->Option PV
 | .bool b=>some<|.bl b
 | .int k n=>some<|.dat (.int k) n
 | .string s=>some<|.dat .str s.data.toList
 | .pointer none=>some .nilp
 | .slice none 0 0=>some .nil
 | .map none=>some .nilm
 | .nilFunc=>some .nilf
 | .nilIface=>some .nili
 | .func f ⟨[]⟩ ⟨[]⟩=>some<|.fn f [] []
 | .agg ⟨cs⟩=>(P5 cs).map .agg
 | .tuple ⟨cs⟩=>(P5 cs).map .tup
 |_=>none
def P5:List Value->Option (List PV)
 |[]=>some []
 |v::vs=>match Hp v,P5 vs with
  |some x,some c=>some (x::c)
  |_,_=>none
end
def NH:V->PV
 | .bool b=>.bl b
 | .int k n=>.dat (.int k) n
 | .str s=>.dat .str s
 | .nilp=>.nilp
 | .nils=>.nil
 | .nilm=>.nilm
 | .nilf=>.nilf
 | .nili=>.nili
 |_=>.any
def Jj(st:Ag):Operand->Option PV
 | .tmp t=>some<|st.get t
 | .const v=>Hp v
 | .global _=>none
 | .func f=>some<|.fn (.func f) [] []
def Gy(st:Ag):List Operand->Option (List PV)
 |[]=>some []
 |x::c=>match Jj st x,Gy st c with
  |some v,some vs=>some (v::vs)
  |_,_=>none
def Pu(st:Ag):List (Nat×Operand)->Option (List<|Nat×PV)
 |[]=>some []
 |(i,x)::c=>match Jj st x,Pu st c with
  |some v,some vs=>some ((i,v)::vs)
  |_,_=>none
def Sl(T:AP)(t:TypeId):Option (List PV):=(T.inf t).bind fun i=>bif Gg V.ok i.zero then some (i.zero.map NH)else none
def pick(d:TypeDesc)(n:Nat)(cs:List PV):Option PV:=
 bif B8 d then(bif Zm n (CL cs)&&Zp 0 n then some (.agg<|Oc n cs)else none)
 else match cs with
  |v::_=>some v
  |[]=>none
def ov(st:Ag):Option PV->PO
 |some v=>.val v st
 |none=>.bad
def Wo(c:Bool)(st:Ag):Option PV->PO
 |some v=>.EF c v st
 |none=>.bad
def chunk(s:Sh):Nat->List PV->Option (List s.T)
 |0,_=>some []
 |n+1,cs=>match A2 s cs with
  |some (x,cs')=>(chunk s n cs').map (x:: ·)
  |none=>none
def IA(s:Sh)(l:List s.T):Nat->Nat->List PV
 |_,0=>[]
 |j,n+1=>flat s (l.getD j s.D9)++IA s l (Zg j 1) n
def Yy:List V->Option Sh
 | .bool _::_=>some .bool
 | .int k _::_=>some<|.int k
 |_=>none
def Wl:Sh->V->Bool
 | .bool,.bool b=> !b
 | .int k,.int c n=>decide (k=c)&&decide (n=0)
 |_,_=>false
def VV(T:AP)(t:TypeId):Option (Sh×Nat):=
 match T.und t,T.inf t with
 |some (.array _ _),some i=>match Yy i.zero with
  |some s=>bif Zm 32 (CL i.zero)&&Gg (Wl s) i.zero then some (s,CL i.zero)else none
  |none=>none
 |_,_=>none
def Hg(T:AP)(st:Ag)(t:TypeId)(a:PV):PO:=
 match T.und t,T.inf t with
 |some d,some i=>match a with
  | .ptr id off=>match st.obj id with
   |some (.box cs)=>ov st<|pick d i.size<|Fl off cs
   |some (.arr _ _ s l)=>bif Za off 0&&Za s.sz 1 then Wo (decide (l.length=i.size)) st (pick d i.size<|IA s l 0 i.size)else .bad
   |some (.tbox _ cs)=>ov st<|pick d i.size<|Fl off cs
   |_=>.bad
  | .eptr id sz j off=>match st.obj id with
   |some (.arr _ _ s l)=>bif Za sz s.sz then Wo (decide (j<l.length)) st (pick d i.size<|Fl off<|flat s<|l.getD j s.D9)else .bad
   |_=>.bad
  | .B4 s x off=>ov st<|pick d i.size<|Fl off<|flat s x
  |_=>.bad
 |_,_=>.bad
def Ei:Option Obj->Bool
 |some _=>true
 |none=>false
def Gd(st:Ag):PV->Bool
 | .agg _| .tup _| .any| .ub=>false
 | .ptr id _| .eptr id _ _ _| .sl id _ _ _ _| .mp id| .yl id=>Ei<|st.obj id
 |_=>true
def Wj(st:Ag):PV->Option (List PV)
 | .agg l=>some l
 |p=>bif Gd st p then some [p]else none
def Nn(T:AP)(st:Ag)(t:TypeId)(a x:PV):PO:=
 match T.inf t,Wj st x with
 |some i,some c=>bif Za (CL c) i.size&&Gg (Gd st) c then
   match a with
   | .ptr id off=>match st.obj id with
    |some (.box cs)=>bif Zm (Zg off i.size) (CL cs)then .val (.tup []) (st.setObj id<|.box<|A1 off c cs)else .bad
    |some (.arr false e s l)=>bif Za off 0&&Za s.sz 1 then
      match chunk s i.size c with
      |some y=>.EF (decide (l.length=i.size)) (.tup [])<|st.setObj id<|.arr false e s y
      |none=>.bad
     else .bad
    |some (.tbox tb cs)=>bif Zm (Zg off i.size) (CL cs)then .val (.tup []) (st.setObj id<|.tbox tb<|A1 off c cs)else .bad
    |_=>.bad
   | .eptr id sz j off=>match st.obj id with
    |some (.arr false e s l)=>bif Za sz s.sz&&Zm (Zg off i.size) sz then
      match Bp s (A1 off c<|flat s<|l.getD j s.D9)with
      |some y=>.EF (decide (j<l.length)) (.tup [])<|st.setObj id<|.arr false e s<|l.set j y
      |none=>.bad
     else .bad
    |_=>.bad
   |_=>.bad
  else .bad
 |_,_=>.bad
def XL(k:IntKind)(a b:Int):Int:=k.wrap (Zn k.bits a&&&Zn k.bits b).toNat
def YV(k:IntKind)(a b:Int):Int:=k.wrap (Zn k.bits a|||Zn k.bits b).toNat
def XT(k:IntKind)(a b:Int):Int:=k.wrap (Zn k.bits a^^^Zn k.bits b).toNat
def Xw(k:IntKind)(a b:Int):Int:=k.wrap (Zn k.bits a&&& ~~~Zn k.bits b).toNat
def VK(op:BinOp)(k:IntKind)(a b:Int)(st:Ag):PO:=
 match op with
 | .add=>.val (.dat (.int k)<|k.wrap<|a+b) st
 | .sub=>.val (.dat (.int k)<|k.wrap<|a-b) st
 | .mul=>.val (.dat (.int k)<|k.wrap<|a*b) st
 | .quo=>.EF (decide (b≠0)) (.dat (.int k)<|k.wrap<|a.tdiv b) st
 | .rem=>.EF (decide (b≠0)) (.dat (.int k)<|a.tmod b) st
 | .and=>.val (.dat (.int k)<|XL k a b) st
 | .or=>.val (.dat (.int k)<|YV k a b) st
 | .xor=>.val (.dat (.int k)<|XT k a b) st
 | .andNot=>.val (.dat (.int k)<|Xw k a b) st
 | .eql=>.val (.dat .bool<|a==b) st
 | .neq=>.val (.dat .bool<|a !=b) st
 | .lss=>.val (.dat .bool<|decide (a<b)) st
 | .leq=>.val (.dat .bool<|decide (a<=b)) st
 | .gtr=>.val (.dat .bool<|decide (a>b)) st
 | .geq=>.val (.dat .bool<|decide (a>=b)) st
 |_=>.bad
def Yh(op:BinOp)(k:IntKind)(a b:Int)(st:Ag):PO:=
 match op with
 | .shl=>.EF (decide (0<=b)) (.dat (.int k)<|k.wrap<|a*2^(min b.toNat k.bits)) st
 | .shr=>.EF (decide (0<=b)) (.dat (.int k)<|a.fdiv<|2^(min b.toNat k.bits)) st
 |_=>.bad
def Vv(op:BinOp)(x y:Y)(st:Ag):PO:=
 match op with
 | .add=>.EF (decide (x.length+y.length<=4611686018427387904)) (.dat .str<|x++y) st
 | .eql=>.val (.dat .bool<|x==y) st
 | .neq=>.val (.dat .bool<|!(x==y)) st
 | .lss=>.val (.dat .bool<|ZA x y) st
 | .leq=>.val (.dat .bool<|ZA x y||x==y) st
 | .gtr=>.val (.dat .bool<|!(ZA x y||x==y)) st
 | .geq=>.val (.dat .bool<|!ZA x y) st
 |_=>.bad
def Ta:BinOp->Bool
 | .shl| .shr=>true
 |_=>false
def E3:PV->Option Bool
 | .bl b=>some b
 | .dat .bool b=>some b
 |_=>none
def DL:List FK->List PV->List PV->Option Bool
 |[],[],[]=>some true
 | .int k::ks,.dat (.int f) a::d,.dat (.int e) b::c=>bif k==f&&k==e then(DL ks d c).map fun r=>(a:Int)==(b:Int)&&r else none
 | .str::ks,.dat .str a::d,.dat .str b::c=>(DL ks d c).map fun r=>(a:Y)==(b:Y)&&r
 | .bool::ks,a::d,b::c=>match E3 a,E3 b with
  |some a,some b=>(DL ks d c).map fun r=>a==b&&r
  |_,_=>none
 |_,_,_=>none
def KJ(st:Ag)(ng:Bool)(x:PV):PO:=
 match x with
 | .nil=>.val (.bl<|!ng) st
 | .sl id _ _ _ _=>bif Ei (st.obj id)then .val (.bl ng) st else .bad
 | .dat (.list _) l=>.ite (decide (0<l.length)) (.val (.bl ng) st)<|.val .ub st
 | .dat (.nlist _) l=>.val (.dat .bool<|bif ng then decide (0<l.length)else !decide (0<l.length)) st
 |_=>.bad
def Re(op:BinOp)(x y:PV)(st:Ag):PO:=
 match op,x,y with
 | .eql,x,.nil=>KJ st false x
 | .neq,x,.nil=>KJ st true x
 |_,_,_=>.bad
def ptrEq(T:AP)(e:TypeId)(st:Ag)(x y:PV):Option Bool:=
 match x,y with
 | .nilp,.nilp=>some true
 | .ptr id _,.nilp=>bif Ei (st.obj id)then some false else none
 | .nilp,.ptr id _=>bif Ei (st.obj id)then some false else none
 | .ptr a i,.ptr b j=>bif Za a b&&Ei (st.obj a)then match T.inf e with
   |some c=>bif Zp 0 c.size then some (Za i j)else none
   |none=>none
  else none
 |_,_=>none
def VW(T:AP)(op:BinOp)(t:TypeId)(x y:PV)(st:Ag):PO:=
 match x,y with
 | .dat (.int k) a,.dat (.int f) b=>bif Ta op then Yh op k a b st else(bif k==f then VK op k a b st else .bad)
 | .dat .str a,.dat .str b=>Vv op a b st
 | .agg c,.agg d=>match T.flat t with
  |some ks=>match op,DL ks c d with
   | .eql,some r=>.val (.dat .bool r) st
   | .neq,some r=>.val (.dat .bool<|!r) st
   |_,_=>.bad
  |none=>.bad
 |x,y=>match E3 x,E3 y,T.und t with
  |some a,some b,some .bool=>match op with
   | .eql=>.val (.dat .bool<|a==b) st
   | .neq=>.val (.dat .bool<|!(a==b)) st
   |_=>.bad
  |_,_,some (.slice _)=>Re op x y st
  |_,_,some (.pointer e)=>match op,ptrEq T e st x y with
   | .eql,some r=>.val (.bl r) st
   | .neq,some r=>.val (.bl<|!r) st
   |_,_=>.bad
  |_,_,_=>.bad
def Ye(op:UnOp)(x:PV)(st:Ag):PO:=
 match op,x with
 | .neg,.dat (.int k) n=>.val (.dat (.int k)<|k.wrap<|0-(n:Int)) st
 | .not,.bl b=>.val (.bl<|!b) st
 | .not,.ub=>.val .ub st
 | .not,.dat .bool b=>.val (.dat .bool<|!b) st
 |_,_=>.bad
def Qy(T:AP)(s d:TypeId)(x:PV)(st:Ag):PO:=
 match T.und s,T.und d,x with
 |some _,some<|.int k,.dat (.int _) n=>.val (.dat (.int k)<|k.wrap n) st
 |some .string,some .string,.dat .str s=>.val (.dat .str s) st
 |_,_,_=>.bad
def RT(c a b:PV)(st:Ag):PO:=
 match c with
 | .bl t=>.val (bif t then a else b) st
 | .dat .bool t=>match a,b with
  | .dat .bool x,.bl false=>.val (.dat .bool<|t&&x) st
  | .bl true,.dat .bool x=>.val (.dat .bool<|t||x) st
  |_,_=>.ite t (.val a st)<|.val b st
 |_=>.bad
def NM(T:AP)(t:TypeId)(x:PV)(f:Nat)(st:Ag):PO:=
 match T.und t,x with
 |some (.struct fs),.agg cs=>match fs[f]? with
  |some c=>match T.und c.type,T.inf c.type with
   |some d,some i=>ov st<|pick d i.size<|Fl c.offset cs
   |_,_=>.bad
  |none=>.bad
 |_,_=>.bad
def M0(T:AP)(t:TypeId)(x:PV)(f:Nat)(st:Ag):PO:=
 match T.und t with
 |some (.struct fs)=>match fs[f]? with
  |some c=>match T.inf c.type with
   |some i=>bif Za i.size 0 then .bad else match x with
    | .ptr id off=>bif Ei (st.obj id)then .val (.ptr id<|Zg off c.offset) st else .bad
    | .eptr id sz j off=>bif Ei (st.obj id)then .val (.eptr id sz j<|Zg off c.offset) st else .bad
    | .B4 s y off=>.val (.B4 s y<|Zg off c.offset) st
    |_=>.bad
   |none=>.bad
  |none=>.bad
 |_=>.bad
def Kz(T:AP)(t:TypeId)(x d:PV)(st:Ag):PO:=
 match T.und t,d with
 |some (.slice e),.dat (.int _) i=>match T.inf e with
  |some c=>match x with
   | .dat (.list s) l=>bif Za c.size s.sz then .EF (decide (0<=(i:Int))&&decide ((i:Int)<(l.length:Int))) (.B4 s (l.getD (Zh i) s.D9) 0) st else .bad
   | .sl id sz off len _=>bif Za c.size sz&&Ei (st.obj id)then .EF (decide (0<=(i:Int))&&decide ((i:Int)<(len:Int))) (.eptr id sz (Zg (Zh i) off) 0) st else .bad
   |_=>.bad
  |none=>.bad
 |some (.array len e),.dat (.int _) i=>match T.inf e with
  |some c=>match x with
   | .ptr id off=>match st.obj id with
    |some (.arr _ _ s _)=>bif Za off 0&&Za c.size s.sz then .EF (decide (0<=(i:Int))&&decide ((i:Int)<(len:Int))) (.eptr id s.sz (Zh i) 0) st else .bad
    |some _=>.EF (decide (0<=(i:Int))&&decide ((i:Int)<(len:Int))) (.ptr id<|Zg off<|ZH (Zh i) c.size) st
    |none=>.bad
   | .eptr id sz j off=>bif Ei (st.obj id)then .EF (decide (0<=(i:Int))&&decide ((i:Int)<(len:Int))) (.eptr id sz j<|Zg off<|ZH (Zh i) c.size) st else .bad
   | .B4 s y off=>.EF (decide (0<=(i:Int))&&decide ((i:Int)<(len:Int))) (.B4 s y<|Zg off<|ZH (Zh i) c.size) st
   |_=>.bad
  |none=>.bad
 |_,_=>.bad
def Qi(T:AP)(t:TypeId)(x c:PV)(st:Ag):PO:=Kz T t (lz x) c st
def NU(T:AP)(t:TypeId)(x f:PV)(st:Ag):PO:=
 match T.und t,x,f with
 |some .string,.dat .str s,.dat (.int _) i=>.EF (decide (0<=(i:Int))&&decide ((i:Int)<((s:Y).length:Int))) (.dat (.int .u8) (((s:Y).getD (Zh i) 0).toNat:Int)) st
 |some (.array len e),.agg cs,.dat (.int _) i=>match T.und e,T.inf e with
  |some d,some c=>Wo (decide (0<=(i:Int))&&decide ((i:Int)<(len:Int))) st<|pick d c.size<|Fl (ZH (Zh i) c.size) cs
  |_,_=>.bad
 |_,_,_=>.bad
def Iu(x:PV)(i:Nat)(st:Ag):PO:=
 match x with
 | .tup vs=>match vs[i]? with
  |some v=>.val v st
  |none=>.bad
 |_=>.bad
def pb(x:Option PV)(D9:Nat):Option (Bool×Nat):=
 match x with
 |none=>some (true,D9)
 |some (.dat (.int _) n)=>some (decide (0<=(n:Int)),Zh n)
 |_=>none
def has(mx:Option PV)(c:Nat):Bool:=match mx with
 |none=>true
 |some _=>decide (0<c)
def Kg(T:AP)(t:TypeId)(x:PV)(f d mx:Option PV)(st:Ag):PO:=
 match T.und t with
 |some .string=>match x,mx with
  | .dat .str s,none=>match pb f 0,pb d (s:Y).length with
   |some (c1,l),some (c,h)=>.EF (c1&&c&&decide (l<=h)&&decide (h<=(s:Y).length)) (.dat .str<|((s:Y).drop l).take<|Nat.sub h l) st
   |_,_=>.bad
  |_,_=>.bad
 |some (.slice e)=>match T.inf e with
  |some j=>match x with
   | .dat (.list s) g=>bif Za j.size s.sz then
     match pb f 0,pb d g.length,mx with
     |some (c1,l),some (c,h),none=>.EF (c1&&c&&decide (l<=h)&&decide (h<=g.length)) (.dat (.list s)<|(g.drop l).take<|Nat.sub h l) st
     |_,_,_=>.bad
    else .bad
   | .sl id sz off len cap=>bif Za j.size sz&&Ei (st.obj id)then
     match d,mx with
     |none,some _=>.bad
     |_,_=>match pb f 0,pb d len,pb mx (cap.getD len)with
      |some (c1,l),some (c,h),some (i,m)=>.EF (c1&&c&&i&&decide (l<=h)&&decide (h<=m)&&decide (m<=cap.getD len)&&has mx (cap.getD len)) (.sl id sz (Zg off l) (Nat.sub h l)<|some<|Nat.sub m l) st
      |_,_,_=>.bad
    else .bad
   | .nil=>match pb f 0,pb d 0,mx with
    |some (c1,l),some (c,h),none=>.EF (c1&&c&&decide (l<=h)&&decide (h<=0)) .nil st
    |some (c1,l),some (c,h),some q=>match d,pb (some q) 0 with
     |some _,some (i,m)=>.EF (c1&&c&&i&&decide (l<=h)&&decide (h<=m)&&decide (m<=0)) .nil st
     |_,_=>.bad
    |_,_,_=>.bad
   |_=>.bad
  |none=>.bad
 |_=>.bad
def Rv(T:AP)(t:TypeId)(x:PV)(c d mx:Option PV)(st:Ag):PO:=Kg T t (lz x) c d mx st
def pi64(n:Nat):PV:=.dat (.int .i64)<|Int.ofNat n
def Lo(T:AP)(ts:Array TypeId)(args:List PV)(st:Ag):PO:=
 match ts[0]?,args with
 |some t,[x]=>match T.und t,x with
  |some .string,.dat .str s=>.val (pi64 (s:Y).length) st
  |some (.slice _),.dat (.list _) l=>.val (pi64 l.length) st
  |some (.slice _),.sl id _ _ len _=>bif Ei (st.obj id)then .val (pi64 len) st else .bad
  |some (.slice _),.nil=>.val (pi64 0) st
  |some (.map _ _),.mp id=>match st.obj id with
   |some (.map _ _ l)=>.val (pi64 l.length) st
   |_=>.bad
  |_,_=>.bad
 |_,_=>.bad
def Tw(T:AP)(ts:Array TypeId)(args:List PV)(st:Ag):PO:=Lo T ts (args.map lz) st
def WW(f:Int->Int->Int)(k:IntKind):Int->List PV->Option Int
 |x,[]=>some x
 |x,.dat (.int c) y::d=>bif k==c then WW f k (f x y) d else none
 |_,_=>none
def HD(f:Int->Int->Int)(args:List PV)(st:Ag):PO:=
 match args with
 | .dat (.int k) x::c=>match WW f k x c with
  |some z=>.val (.dat (.int k) z) st
  |none=>.bad
 |_=>.bad
def imax(x y:Int):Int:=if y>x then y else x
def Pz(x y:Int):Int:=if y<x then y else x
def DN(st:Ag)(s:Sh)(x:PV):Option (Bool×List s.T):=
 match x with
 | .nil=>some (true,[])
 | .dat (.list c) l=>(Cc (.list c) (.list s) l).map fun r=>(true,r)
 | .sl id sz off len _=>match st.obj id with
  |some (.arr _ _ c l)=>bif Za sz c.sz then(Cc (.list c) (.list s) l).map fun r=>(decide (off+len<=r.length),(r.drop off).take len)else none
  |_=>none
 | .dat .str l=>(Cc (.list<|.int .u8) (.list s)<|List.map (fun b:UInt8=>(b.toNat:Int)) l).map fun r=>(true,r)
 |_=>none
def Jd(st:Ag)(s:Sh)(x:PV):Option (Bool×List s.T):=DN st s<|lz x
def YQ:Nat:=281474976710656
def Sk:Nat:=562949953421312
def K4:TypeDesc->Bool
 | .slice _=>true
 | .string=>true
 |_=>false
def K0(T:AP)(ts:Array TypeId)(args:List PV)(st:Ag):PO:=
 match ts[0]?,ts[1]?,args with
 |some t,some g,[b,x]=>match T.und t,T.und g with
  |some (.slice e),some f=>bif K4 f then match T.inf e,ND T 9 e with
   |some i,some s=>
    bif Zp 0 i.bytes&&Zp 0 i.size&&Za i.zero.length i.size&&Za i.size s.sz then
     match Jd st s x with
     |some (c,new)=>match b with
      | .nil=>match x with
       | .nil=>.val .nil st
       | .dat _ _=>.ite (decide (0<new.length)) (.EF (c&&decide ((3*new.length+2000)*i.bytes<=Sk)) (.sl st.nx s.sz 0 new.length none)<|st.push<|.arr false e s new)<|.val .nil st
       | .sl _ _ _ _ (some _)=>.ite (decide (0<new.length)) (.EF (c&&decide ((3*new.length+2000)*i.bytes<=Sk)) (.sl st.nx s.sz 0 new.length none)<|st.push<|.arr false e s new)<|.EF c .nil st
       |_=>.EF (c&&decide (0<new.length)&&decide ((3*new.length+2000)*i.bytes<=Sk)) (.sl st.nx s.sz 0 new.length none)<|st.push<|.arr false e s new
      | .sl id sz off len cap=>match st.obj id with
       |some (.arr false j d l)=>match Cc (.list d) (.list s) l with
        |some l'=>bif Za e j&&Za sz s.sz then
          match cap with
          |none=>.EF (c&&decide (off=0)&&decide (len=l'.length)&&decide ((3*(len+new.length)+2000)*i.bytes<=Sk)) (.sl st.nx s.sz 0 (Zg len new.length) none)<|(st.C8 id).push<|.arr false e s<|l'++new
          |some k=>.EF (c&&decide (len+new.length<=k)&&decide (off+k<=l'.length)) (.sl id sz off (Zg len new.length)<|some k) (st.setObj id<|.arr false e s<|l'.take (off+len)++(new++l'.drop (off+len+new.length)))
         else .bad
        |none=>.bad
       |_=>.bad
      |_=>.bad
     |none=>.bad
    else .bad
   |_,_=>.bad
   else .bad
  |_,_=>.bad
 |_,_,_=>.bad
def MS(T:AP)(ts:Array TypeId)(args:List PV)(st:Ag):PO:=
 match ts[0]?,args with
 |some t,[x]=>match T.und t with
  |some (.slice e)=>match x with
   | .nil=>.val (.tup []) st
   | .sl id sz off len _=>match T.inf e,st.obj id with
    |some i,some (.arr false c s l)=>
     bif Za sz s.sz&&Zp 0 i.zero.length&&Za i.zero.length s.sz&&Gg V.one i.zero then
      match Bp s (i.zero.map NH)with
      |some z=>.EF (decide (off+len<=l.length)) (.tup [])<|st.setObj id<|.arr false c s<|l.take off++(ZB len z++l.drop (off+len))
      |none=>.bad
     else .bad
    |_,_=>.bad
   |_=>.bad
  |_=>.bad
 |_,_=>.bad
def NQ(args:List PV)(st:Ag):PO:=
 match args with
 |[.sl id sz off len none]=>bif Ei (st.obj id)then .EF (decide (0<len)) (.eptr id sz off 0) st else .bad
 |_=>.bad
def KX(l:List Int):Y:=l.map fun x=>UInt8.ofNat x.toNat
def Jv(l:List Int):Bool:=l.all fun x=>decide (0<=x)&&decide (x<256)
def Sc(T:AP)(ts:List TypeId)(args:List PV)(st:Ag):PO:=
 match ts,args with
 |[f,_],[.eptr id _ i 0,.dat (.int .i64) n]=>match T.und f,st.obj id with
  |some (.pointer e),some (.arr false g s l)=>match T.inf e,Cc (.list s) (.list<|.int .u8) l with
   |some d,some c=>bif Za d.size 1&&Za e g then
     .EF (decide (i=0)&&decide (0<(n:Int))&&decide (Zh n<=(c:List Int).length)&&decide (Zh n<=9223372036854775807)&&Jv c) (.dat .str<|KX<|(c:List Int).take<|Zh n) (st.C8 id)
    else .bad
   |_,_=>.bad
  |_,_=>.bad
 |_,_=>.bad
def EJ(T:AP)(b:Builtin)(ts:Array TypeId)(args:List PV)(st:Ag):PO:=
 match b with
 | .len=>Tw T ts args st
 | .append=>K0 T ts args st
 | .max=>HD imax args st
 | .min=>HD Pz args st
 | .clear=>MS T ts args st
 | .unsafeSliceData=>NQ args st
 | .unsafeString=>Sc T ts.toList args st
 |_=>.bad
def rune(s:Y)(pos:Nat):Int:=(ZC (bytesOf s) pos).1
def Fm(s:Y)(pos:Nat):Nat:=(ZC (bytesOf s) pos).2
def MX(T:AP)(t:TypeId)(x:PV)(st:Ag):PO:=
 match T.und t,x with
 |some .string,.dat .str s=>.val (.ptr st.nx 0)<|st.push<|.siter s 0
 |_,_=>.bad
def QA(x:PV)(c:Bool)(st:Ag):PO:=
 match x,c with
 | .ptr id 0,true=>match st.obj id with
  |some (.siter s pos)=>.ite (decide (pos<s.length)) (.val (.tup [.bl true,.dat (.int .i64)<|Int.ofNat pos,.dat (.int .i32)<|rune s pos])<|st.setObj id<|.siter s<|Zg pos<|Fm s pos)<|.val (.tup [.bl false]) st
  |_=>.bad
 |_,_=>.bad
def JU(st:Ag)(place:Nat->Option (Nat×Nat))(cells:List PV):List (Nat×PV)->Option (List PV)
 |[]=>some cells
 |(i,v)::c=>match place i with
  |none=>none
  |some (off,size)=>match Wj st v with
   |some vs=>bif Za (CL vs) size&&Zm (Zg off size) (CL cells)then JU st place (A1 off vs cells) c else none
   |none=>none
def Ng(T:AP)(st:Ag)(t:TypeId)(c:List (Nat×PV)):Option PV:=
 match T.inf t,T.und t with
 |some i,some (.struct fs)=>
  match fs.toList.mapM (fun f=>(T.inf f.type).map fun j=>(f.offset,j.size))with
  |some pl=>(JU st (fun i=>pl[i]?) (i.zero.map NH) c).map .agg
  |none=>none
 |some i,some (.array _ e)=>match T.inf e with
  |some j=>(JU st (fun i=>some (i*j.size,j.size)) (i.zero.map NH) c).map .agg
  |none=>none
 |_,_=>none
def IM(z:List PV):Nat->List PV
 |0=>[]
 |n+1=>z++IM z n
def AV(st:Ag):PV->Option (Bool×PV)
 | .sl id sz off len _=>match st.obj id with
  |some (.arr _ _ s l)=>bif Za sz s.sz then some (decide (off+len<=l.length),.dat (.list s)<|(l.drop off).take len)else none
  |_=>none
 | .dat s x=>some (true,.dat s x)
 | .B4 s x off=>some (true,.B4 s x off)
 | .bl b=>some (true,.bl b)
 | .nil=>some (true,.nil)
 | .fn f [] []=>some (true,.fn f [] [])
 |_=>none
def Bt(st:Ag):List PV->Option (Bool×List PV)
 |[]=>some (true,[])
 |v::vs=>match AV st v,Bt st vs with
  |some (c,x),some (d,e)=>some (c&&d,x::e)
  |_,_=>none
def AD(st:Ag):PV->Ag
 | .sl id _ _ _ _=>match st.obj id with
  |some (.arr _ e s l)=>st.setObj id<|.arr true e s l
  |_=>st
 |_=>st
def Av:List PV->Ag->Ag
 |[],st=>st
 |v::vs,st=>Av vs<|AD st v
def K1(T:AP)(t:TypeId)(len:Nat)(d:List (Nat×PV))(st:Ag):PO:=
 match T.und t with
 |some (.slice e)=>match T.inf e,ND T 9 e with
  |some i,some s=>
   bif Zm (ZH len i.size) 16777216&&Zp 0 i.zero.length&&Za i.zero.length i.size&&Za i.size s.sz then
    match JU st (fun k=>some (k*i.size,i.size)) (IM (i.zero.map NH) len) d with
    |some cs=>match chunk s len cs with
     |some l=>.val (.sl st.nx s.sz 0 len none)<|st.push<|.arr false e s l
     |none=>match Bt st cs with
      |some (c,cs')=>match chunk s len cs' with
       |some l=>.EF c (.sl st.nx s.sz 0 len none)<|(Av cs st).push<|.arr false e s l
       |none=>.bad
      |none=>.bad
    |none=>.bad
   else .bad
  |_,_=>.bad
 |_=>.bad
def SN(T:AP)(t:TypeId)(l c:PV)(st:Ag):PO:=
 match T.und t,l,c with
 |some (.slice e),.dat (.int _) l,.dat (.int _) c=>match T.inf e,ND T 9 e with
  |some i,some s=>
   bif Zp 0 i.zero.length&&Za i.zero.length i.size&&Za i.size s.sz then
    match Bp s (i.zero.map NH)with
    |some z=>.EF (decide (0<=(l:Int))&&decide ((l:Int)=(c:Int))&&decide (i.bytes*Zh l<=YQ)&&decide ((l:Int)<9223372036854775808)) (.sl st.nx s.sz 0 (Zh l) none)<|st.push<|.arr false e s<|ZB (Zh l) z
    |none=>.bad
   else .bad
  |_,_=>.bad
 |_,_,_=>.bad
def Um(T:AP)(t:TypeId):Option Sh:=match T.und t with
 |some (.int k)=>some<|.int k
 |some .string=>some .str
 |some .bool=>some .bool
 |_=>none
def Hn:PV->Bool
 | .agg _=>true
 |_=>false
def XP(s:Sh)(p:PV):Option s.T:=bif Hn p==s.Ho then Bp s p.cells else none
def Na(T:AP)(t:TypeId)(st:Ag):PO:=match T.und t with
 |some (.map c e)=>match Um T c,ND T 9 e with
  |some ks,some vs=>.val (.mp st.nx)<|st.push<|.map ks vs []
  |_,_=>.bad
 |_=>.bad
def Q6(st:Ag)(ks vs:Sh)(m:PV):Option (List<|ks.T×vs.T):=match m with
 | .nilm=>some []
 | .mp id=>match st.obj id with
  |some (.map c d l)=>Cc (.list<|.pair c d) (.list<|.pair ks vs) l
  |_=>none
 |_=>none
def XH:V->Bool
 | .agg _=>true
 |_=>false
def Xf(ks vs:Sh)(ok:Bool)(z:vs.T)(x:ks.T)(st:Ag):List (ks.T×vs.T)->PO
 |[]=>.val (bif ok then .tup [AX vs z,.bl false]else AX vs z) st
 |(a,b)::l=>.ite (Jy ks x a) (.val (bif ok then .tup [AX vs b,.bl true]else AX vs b) st)<|Xf ks vs ok z x st l
def Kc(T:AP)(t:TypeId)(m k:PV)(ok:Bool)(st:Ag):PO:=match T.und t with
 |some (.map c e)=>match Um T c,ND T 9 e,T.inf e with
  |some ks,some vs,some i=>match TB ks k,Q6 st ks vs m,Bp vs (i.zero.map NH)with
   |some x,some l,some z=>
    bif XH i.zv==vs.Ho then bif vs.S7 then Xf ks vs ok z x st l else
     (let v:=AX vs ((CM ks vs x l).getD z)
     .val (bif ok then .tup [v,.dat .bool (CM ks vs x l).isSome]else v) st)
    else .bad
   |_,_,_=>.bad
  |_,_,_=>.bad
 |_=>.bad
def Kj(T:AP)(t:TypeId)(m k v:PV)(st:Ag):PO:=match T.und t,m with
 |some (.map d _),.mp id=>match Um T d,st.obj id with
  |some ks,some (.map c vs l)=>match TB ks k,Cc (.list<|.pair c vs) (.list<|.pair ks vs) l,XP vs v with
   |some x,some l,some y=>.val (.tup [])<|st.setObj id<|.map ks vs<|FI ks vs x y l
   |_,_,_=>.bad
  |_,_=>.bad
 |_,_=>.bad
def Kn(T:AP)(ts:Array TypeId)(args:List PV)(st:Ag):PO:=match ts[0]?,args with
 |some t,[.mp id,k]=>match T.und t with
  |some (.map d _)=>match Um T d,st.obj id with
   |some ks,some (.map c vs l)=>match TB ks k,Cc (.list<|.pair c vs) (.list<|.pair ks vs) l with
    |some x,some l=>.val (.tup [])<|st.setObj id<|.map ks vs<|Kr ks vs x l
    |_,_=>.bad
   |_,_=>.bad
  |_=>.bad
 |_,_=>.bad
abbrev FT:=AP->Ag->PO
def v1(st:Ag)(x:Operand)(k:PV->PO):PO:=match Jj st x with|some v=>k v|none=>.bad
def NK(x:Operand):FT:=fun _ st=>ov st<|Jj st x
def R3(c a b:Operand):FT:=fun _ st=>v1 st c fun c=>v1 st a fun a=>v1 st b fun b=>RT c a b st
def UE(T:AP)(t:TypeId):Bool:=
 match T.und t with
 |some (.struct fs)=>match fs[0]? with
  |some f=>match T.und f.type with
   |some (.pointer u)=>Za u t
   |_=>false
  |none=>false
 |_=>false
def J7(t:TypeId):FT:=fun T st=>match VV T t with
 |some (s,n)=>.val (.ptr st.nx 0)<|st.push<|.arr false t s<|ZB n s.D9
 |none=>match Sl T t with|some cs=>.val (.ptr st.nx 0) (st.push<|bif UE T t then .tbox t cs else .box cs)|none=>.bad
def U1(_:TypeId)(x:Operand):FT:=fun _ st=>v1 st x fun v=>match Wj st v with|some cs=>bif Gg (Gd st) cs then .val (.ptr st.nx 0) (st.push<|.box cs)else .bad|none=>.bad
def Oe(t:TypeId)(ps:Array (Nat×Operand)):FT:=fun T st=>match Pu st ps.toList with|some l=>ov st (Ng T st t l)|none=>.bad
def Lu(t:TypeId)(n:Nat)(ps:Array (Nat×Operand)):FT:=fun T st=>match Pu st ps.toList with|some l=>K1 T t n l st|none=>.bad
def RD(t:TypeId)(x:Operand):FT:=fun T st=>v1 st x fun a=>Hg T st t a
def N1(t:TypeId)(x y:Operand):FT:=fun T st=>v1 st x fun a=>v1 st y fun b=>Nn T st t a b
def I6(x:Operand):FT:=fun _ st=>v1 st x fun a=>match a with| .ptr id _| .eptr id _ _ _=>bif Ei (st.obj id)then .val a st else .bad| .B4 .. =>.val a st|_=>.bad
def UR(T:AP)(op:BinOp)(t:TypeId)(x y:Operand)(a b:PV):Option Bool:=
 match op,a,b,T.und t with
 | .eql,.nili,.nili,some (.interface _)=>bif Ot x||Ot y then some true else none
 | .neq,.nili,.nili,some (.interface _)=>bif Ot x||Ot y then some false else none
 |_,_,_,_=>none
def UY(op:BinOp)(t:TypeId)(x y:Operand)(_:TypeId):FT:=fun T st=>v1 st x fun a=>v1 st y fun b=>match UR T op t x y a b with|some r=>.val (.bl r) st|none=>VW T op t a b st
def Xh(op:UnOp)(_:TypeId)(x:Operand):FT:=fun _ st=>v1 st x fun a=>Ye op a st
def RL(s d:TypeId)(x:Operand):FT:=fun T st=>v1 st x fun a=>Qy T s d a st
def Qu(f:Fn)(a b:Array Operand):FT:=fun _ st=>match Gy st a.toList,Gy st b.toList with|some x,some y=>.val (.fn f x y) st|_,_=>.bad
def QX(t:TypeId)(l c:Operand):FT:=fun T st=>v1 st l fun a=>v1 st c fun b=>SN T t a b st
def o1(st:Ag)(x:Option Operand)(k:Option PV->PO):PO:=match x with|none=>k none|some y=>v1 st y fun v=>k<|some v
def OS(t:TypeId)(x:Operand)(a b c:Option Operand):FT:=fun T st=>v1 st x fun v=>o1 st a fun l=>o1 st b fun h=>o1 st c fun m=>Rv T t v l h m st
def Oa(t:TypeId)(x:Operand)(f:Nat):FT:=fun T st=>v1 st x fun a=>M0 T t a f st
def NY(t:TypeId)(x:Operand)(f:Nat):FT:=fun T st=>v1 st x fun a=>NM T t a f st
def OF(t:TypeId)(x i:Operand):FT:=fun T st=>v1 st x fun a=>v1 st i fun b=>Qi T t a b st
def OB(t:TypeId)(x i:Operand):FT:=fun T st=>v1 st x fun a=>v1 st i fun b=>NU T t a b st
def JG(x:Operand)(i:Nat):FT:=fun _ st=>v1 st x fun a=>Iu a i st
def K2(c:Call):FT:=fun T st=>
 match Gy st c.args.toList with
 |none=>.bad
 |some args=>match c.callee with
  | .builtin b=>match b with
   | .delete=>Kn T c.argTypes args st
   |_=>EJ T b c.argTypes args st
  |_=>.bad
def N0(t:TypeId)(r:Option Operand):FT:=fun T st=>match r with|none=>Na T t st|some _=>.bad
def LI(t:TypeId)(x i:Operand)(ok:Bool):FT:=fun T st=>v1 st x fun a=>v1 st i fun b=>Kc T t a b ok st
def HV(t:TypeId)(m k x:Operand):FT:=fun T st=>v1 st m fun a=>v1 st k fun b=>v1 st x fun c=>Kj T t a b c st
def N4(t:TypeId)(x:Operand):FT:=fun T st=>v1 st x fun a=>MX T t a st
def Qs(x:Operand)(c:Bool):FT:=fun _ st=>v1 st x fun a=>QA a c st
def Fg:FT:=fun _ _=>.bad
def pop(o:Op):FT:=@Op.casesOn (fun _=>FT) o NK NK R3 J7 U1 Oe Lu HV RD N1 (fun _=>Fg) (fun _=>Fg) I6 UY Xh RL
 (fun _ _=>Fg) (fun _ _=>Fg) Qu N0 (fun _ _=>Fg) QX OS Oa NY OF OB LI HV (fun _ _ _=>Fg) (fun _ _ _ _=>Fg)
 N4 Qs (fun _=>Fg) (fun _ _ _ _=>Fg) JG K2 (fun _=>Fg) (fun _=>Fg) (fun _=>Fg) (fun _ _=>Fg) (fun _ _ _=>Fg) (fun _ _=>Fg)
theorem Hj{s:Y}{i:Nat}(h:i<s.length):(bytesOf s).get! i=s.getD i 0:=by
 unfold bytesOf;show(s.toArray)[i]! =_;simp[h]
theorem LU{s:Y}{i:Nat}(h:i<s.length)(c:(s.getD i 0).toNat<128):rune s i=((s.getD i 0).toNat:Int)/\Fm s i=1:=by
 unfold rune Fm ZC;have e:=Hj h;simp only[ZG,e,c,wi];simp
theorem J1{s:Y}{i:Nat}(h:i<s.length)(f:128<=(s.getD i 0).toNat):128<=rune s i:=by
 unfold rune ZC;have e:=Hj h;simp only[ZG,e];rw[wa a8];have c:(128:Int)<=((Utf8.runeError:Nat):Int):=aa
 split
 ·split
  ·rename_i d;simp only;omega
  ·exact c
 ·split
  ·split
   ·rename_i d;simp only[ge_iff_le,Zb,w5]at d ⊢;omega
   ·exact c
  ·split
   ·split
    ·rename_i d;simp only[ge_iff_le,Zb,w5]at d ⊢;omega
    ·exact c
   ·exact c
end Go.Pe
namespace Go.Sp
def letter(c:Int):Bool:=(decide (97<=c)&&decide (c<=122))||(decide (65<=c)&&decide (c<=90))
def mark(c:Int):Bool:=letter c||(decide (48<=c)&&decide (c<=57))||c==95
def isName:Y->Bool
 |[]=>false
 |c::s=>decide (s.length<=23)&&letter (c.toNat:Int)&&s.all fun c=>mark (c.toNat:Int)
end Go.Sp
namespace Go.Pe
open Go.Det
theorem Hw(k:IntKind)(a b:Int):Jy (.int k) a b=decide (a=b):=by
 show(a==b)=_;by_cases h:a=b<;>simp[h]
theorem Ft{v:Sh}{q:IntKind}(x k:Int)(b:v.T):∀m:List (Int×v.T),CM (.int q) v x (FI (.int q) v k b m)=if x=k then some b else CM (.int q) v x m
 |[]=>by
  show(bif Jy (.int q) x k then some b else none)=_;rw[Hw];by_cases h:x=k<;>simp[h,CM]
 |(a,c)::m=>by
  show CM (.int q) v x (bif Jy (.int q) k a then(k,b)::m else(a,c)::FI (.int q) v k b m)=_;rw[Hw];by_cases h:k=a
  ·subst h;simp only[decide_true,wc];show(bif Jy (.int q) x k then some b else CM (.int q) v x m)=if x=k then some b else(bif Jy (.int q) x k then some c else CM (.int q) v x m)
   rw[Hw];by_cases d:x=k<;>simp[d]
  ·simp only[h,decide_false,wd];show(bif Jy (.int q) x a then some c else CM (.int q) v x<|FI (.int q) v k b m)=if x=k then some b else(bif Jy (.int q) x a then some c else CM (.int q) v x m)
   rw[Hw,Ft x k b m];by_cases d:x=a
   ·subst d;simp[Ne.symm h]
   ·simp[d]
def Jl(m:List (Int×Bool))(p:Int->Prop):Prop:=∀x:Int,(CM (.int .i64) .bool x m).getD false=true↔p x
theorem Jl.nil:Jl [] (fun _=>False):=fun x=>by simp[CM]
theorem Jl.add{m:List (Int×Bool)}{p:Int->Prop}(h:Jl m p)(k:Int):Jl (FI (.int .i64) .bool k true m) (fun x=>x=k\/p x):=fun x=>by
 rw[Ft];by_cases e:x=k
 ·simp[e]
 ·rw[wa e,h x];simp[e]
theorem Jl.congr{m:List (Int×Bool)}{p q:Int->Prop}(h:Jl m p)(e:∀x,p x↔q x):Jl m q:=fun x=>(h x).trans<|e x
end Go.Pe
namespace Go.Det
section
abbrev Ms:=FuncId->Option (List V->H->Option (V×H))
def DR(P:Program)(s:Ms):Prop:=∀f q,s f=some q->∀(p:Pl) (h:H) (w:World) (args:List V) (args':Array Value) v h',R p h w->Gp p->Ac p args args'.toList->q args h=some (v,h')->
 Calls P f args' w fun e w'=>∃v' p',e=.returned v'/\Aa p' v v'/\Ext p h w p' h' w'
def SX(a b:Ms):Ms:=fun f=>match a f with
 |some q=>some q
 |none=>b f
variable {P:Program}
theorem Ej{a b:Ms}(d:DR P a)(c:DR P b):DR P (SX a b):=by
 grind [SX,DR]
def IT(C:Ctx)(s:Ms):Ctx:={ C with spec:=s }
theorem EA{C:Ctx}(c:C.Ok P){s:Ms}(h:DR P s):(IT C s).Ok P where
 T:=c.T
 fn:=c.fn
 prim:=c.prim
 spec:=h
theorem Cw{C:Ctx}(c:BH C)(s:Ms):BH (IT C s):=c
theorem Ld{C:Ctx}(e:C.Ok P)(c:BH C)(d:P.follows .mixedOrders=true){n:Nat}{L:Bg}(h:An C n L=true):DR P (DQ L):=S2 (C':=C) e c d h
theorem Am{C:Ctx}{n:Nat}:∀ {a b:Bg},An C n a=true->An C n b=true->An C n (a++b)=true
 |[],b,_,h=>h
 |(f,x,v)::a,b,h,k=>by
  simp only[An,List.cons_append,Zb]at h ⊢;exact⟨h.1,Am h.2 k⟩
def DO(C:Ctx)(n:Nat)(L:Bg):Ms:=fun f=>match DQ L f with
 |none=>none
 |some q=>some fun args h=>match q args h with
  |some x=>some x
  |none=>match Aq C n (.fn f args) h with
   |some [x]=>some x
   |_=>none
theorem GI{C:Ctx}(l:C.Ok P)(g:BH C)(o:P.follows .mixedOrders=true){n k:Nat}{L:Bg}(t:An C k L=true):DR P (DO C n L):=by
 intro f q i p h w args args' v h' m j d c;unfold DO at i;cases s:DQ L f with
 |none=>grind
 |some u=>
  rw[s]at i;cases i;simp only at c;split at c
  case h_1=>rename_i x y;cases c;exact Ld l g o t f u s p h w args args' v h' m j d y
  case h_2=>
   split at c
   case h_2=>cases c
   rename_i x he;refine((CT l g o n).fn f args h _ he p w args' m j d).mono ?_;rintro e w' ⟨v1,A,v',p',r,rfl,B,z⟩;grind
theorem JB{p:Pl}{h:H}{w w':World}(c:R p h w)(d:Go.RowKit.Below w.heap.size w w')(i:w.drawn<=w'.drawn):Ext p h w p h w':=by
 obtain⟨g,j,f,e,l⟩:=d;refine⟨(by simp),⟨c.len,fun b o d=>?_,c.inj⟩,e,ae,ae,g,f,j,ae,i⟩;obtain⟨r,m,y,g1,g2,g3⟩:=c.obj b o d;grind
def AL:List (Nat×O)->PM O->PM O
 |[],m=>m
 |(b,o)::l,m=>AL l<|m.set b<|some o
theorem Dt:∀ {l:List (Nat×O)} {m:PM O} {b:Nat} {o:O},(AL l m).get b=some o->(b,o)∈l\/m.get b=some o
 |[],m,b,o,h=>.inr h
 |(c,x)::l,m,b,o,h=>by
  rcases Dt (l:=l) h with d|d
  ·exact .inl<|Zq _ d
  ·rw[PM.Bd]at d;by_cases e:b=c
   ·rw[wb e]at d;cases d;exact .inl<|e▸Zr ..
   ·rw[wa e]at d;exact .inr d
theorem F7{n:Nat}:∀ {l:List (Nat×O)} {m:PM O} {b:Nat},(l.all fun x=>Zm n x.1)=true->b<n->(AL l m).get b=m.get b
 |[],m,b,_,_=>rfl
 |(c,x)::l,m,b,h,e=>by
  rw[List.all_cons,Zb]at h;have d:=Zj h.1;have d:n<=c:=d;show(AL l<|m.set c<|some x).get b=_;rw[F7 h.2 e,PM.Bd,wa a8]
structure MY where
 f:FuncId
 a:List V
 foot:List (Nat×O)
 n:Nat
 v:V
 new:List (Nat×O)
 n':Nat
def Oy:O->Bool
 | .cells cs _ _=>V.CJ cs
 |_=>false
def WI(x:MY)(y:V×H):Bool:=V.beq y.1 x.v&&Za y.2.nx x.n'&&Mp y.2 x.foot&&Mp y.2 x.new
def W5(x:MY)(y:V×H):Bool:=match x.new,y.1 with
 |[(b,o)],.tup (.sl c off len cap e::d)=>V.beq (.tup (.sl b off len cap e::d)) x.v&&V.CJ d&&Za y.2.nx x.n'&&Mp y.2 x.foot&&Gi (y.2.get c) (some o)&&Oy o&&Zm x.n c&&Zp b x.n'&&Mp ⟨AL x.foot .leaf,x.n⟩ x.foot&&x.foot.all fun z=>Oy z.2
 |_,_=>false
def Ws(x:MY)(y:V×H):Bool:=WI x y||W5 x y
def MP(C:Ctx)(k:Nat)(x:MY):Bool:=(match Aq C k (.fn x.f x.a) ⟨AL x.foot .leaf,x.n⟩with
 |some l=>l.all<|Ws x
 |none=>false)&&x.new.all fun y=>Zm x.n y.1
def Fs(C:Ctx)(k:Nat):List MY->Bool
 |[]=>true
 |x::l=>MP C k x&&Fs C k l
def Ru:List MY->FuncId->Bool
 |[],_=>false
 |x::l,f=>bif Za x.f f then true else Ru l f
def Ky:List MY->FuncId->List V->H->Option (V×H)
 |[],_,_,_=>none
 |x::l,f,args,h=>bif Za x.f f&&V.Fj x.a args&&Za x.n h.nx&&Mp h x.foot then some (x.v,⟨AL x.new h.m,x.n'⟩)else Ky l f args h
def SH(C:Ctx)(k:Nat)(L:List MY):Ms:=fun f=>bif Ru L f then some fun args h=>match Ky L f args h with
  |some x=>some x
  |none=>match Aq C k (.fn f args) h with
   |some [x]=>some x
   |_=>none
 else none
theorem Qa{p q:Pl}{n:Nat}{o:O}{x:Obj}(f:Oy o=true)(h:Ff p n o x):Ff q n o x:=by
 cases o with
 |cells cs t fz=>
  obtain⟨c,fz',r,A,D,g,u⟩:=h;refine⟨c,fz',r,A,D,⟨g.1,fun i d v j e2 B=>?_⟩,u⟩;have s:d.flat=true:=by
   have f:V.CJ cs=true:=f;have key:∀ {l:List V},V.CJ l=true->∀z∈l,z.flat=true:=by
    intro l;induction l with
    |nil=>intro _ z e;cases e
    |cons y l m=>
     intro h z e;simp only[V.CJ,Zb]at h;rcases Zt.1 e with rfl|e
     ·exact h.1
     ·exact m h.2 z e
   exact key f d<|List.mem_of_getElem? j
  exact V.Bf s<|g.2 i d v j e2 B
 |_=>cases f
theorem EC{x:MY}{b:Nat}{o:O}(c:H.get ⟨AL x.foot .leaf,x.n⟩ b=some o):(b,o)∈x.foot:=by
 rcases Dt (m:=.leaf) c with q|q
 ·exact q
 ·rw[PM.Bs]at q;cases q
theorem Mu{x:MY}{p p':Pl}{h K:H}{w w':World}(v:R p h w)(V:h.nx=x.n)(B:∀z∈x.foot,h.get z.1=some z.2)(f:Ext p ⟨AL x.foot .leaf,x.n⟩ w p' K w')(X:K.nx=x.n')(T:∀z∈x.foot,K.get z.1=some z.2)(D:∀z∈x.new,K.get z.1=some z.2)(S:(x.new.all fun z=>Zm x.n z.1)=true):Ext p h w p' ⟨AL x.new h.m,x.n'⟩ w':=by
 have fo:∀b o,H.get ⟨AL x.foot .leaf,x.n⟩ b=some o->(b,o)∈x.foot:=fun b o d=>by
  rcases Dt (m:=.leaf) d with q|q
  ·exact q
  ·rw[PM.Bs]at q;cases q
 have lt:∀b o,h.get b=some o->b<x.n:=fun b o d=>by
  obtain⟨r,m,y,s,_,_⟩:=v.obj b o d;rw[<-V, <-v.len];exact(Zk.1 s).1
 have out:∀b o,H.get ⟨AL x.new h.m,x.n'⟩ b=some o->(b,o)∈x.new\/h.get b=some o:=fun b o d=>Dt d
 have old:∀b,b<x.n->H.get ⟨AL x.new h.m,x.n'⟩ b=h.get b:=fun b d=>F7 S d
 obtain⟨q,O⟩:=f.pre;have up:∀b o z,h.get b=some o->p[b]?=some z->p'[b]?=some z:=fun b o z d L=>by
  rw[O,Zx (Zk.1 L).1];exact L
 have G:∀b o z,h.get b=some o->p'[b]?=some z->p[b]?=some z:=fun b o z d L=>by
  obtain⟨r,m,y,s,_,_⟩:=v.obj b o d;have:=up b o _ d s;rw[L]at this;cases this;exact s
 have U:∀b o,(b,o)∈x.new->x.n<=b:=fun b o d=>Zj<|Zi.1 S _ d
 have W:∀b o r n,h.get b=some o->p[b]?=some (r,n)->Im p ⟨AL x.foot .leaf,x.n⟩ r->(b,o)∈x.foot:=fun b o r n d g ⟨b',o',n',A,i2⟩=>by
  have i3:=fo b' o' A;have:=v.inj b b' o o' r n n' d (B _ i3) g i2;subst this;have i4:=B _ i3;simp only at i4;rw[d]at i4;cases i4;exact i3
 have sub:∀r,Im p ⟨AL x.foot .leaf,x.n⟩ r->Im p h r:=fun r ⟨b,o,n,A,i2⟩=>⟨b,o,n,B _<|fo b o A,i2⟩
 have E:∀b b' o o' r n n',h.get b=some o->(b',o')∈x.new->p'[b]?=some (r,n)->p'[b']?=some (r,n')->False:=fun b b' o o' r n n' d e g j=>by
  obtain⟨Y,m,y,s,I,_⟩:=v.obj b o d;have M:=G b o _ d g;rw[s]at M;cases M;have l:=(Ze.1 I).1;rcases f.im r ⟨b',o',n',D _ e,j⟩with⟨c,z,N,A,i2⟩|i
  ·have i3:=fo c z A;have:=f.rel.inj c b' z o' r N n' (T _ i3) (D _ e) (up c z _ (B _ i3) i2) j;have l1:=lt c z<|B _ i3;have Z:=U b' o' e;omega
  ·omega
 refine⟨f.pre,⟨by rw[f.rel.len,X],fun b o d=>?_,fun b b' o o' r n n' d e g j=>?_⟩,f.size,fun r l u=>f.same r l fun i=>u<|sub r i,fun r u=>?_,f.os,f.out,f.tape,fun r l J=>?_,f.dr⟩
 ·rcases out b o d with d|d
  ·exact f.rel.obj b o<|D _ d
  ·obtain⟨r,m,y,s,I,M⟩:=v.obj b o d;by_cases u:Im p ⟨AL x.foot .leaf,x.n⟩ r
   ·exact f.rel.obj b o<|T _<|W b o r m d s u
   ·refine⟨r,m,y,up b o _ d s,?_,?_⟩
    ·rw[f.same r (Ze.1 I).1 u];exact I
    ·rw[O];exact M.mono q
 ·rcases out b o d with d|d<;>rcases out b' o' e with e|e
  ·exact f.rel.inj b b' o o' r n n' (D _ d) (D _ e) g j
  ·exact(E b' b o' o r n' n e d j g).elim
  ·exact(E b b' o o' r n n' d e g j).elim
  ·exact v.inj b b' o o' r n n' d e (G b o _ d g)<|G b' o' _ e j
 ·obtain⟨b,o,n,d,g⟩:=u;rcases out b o d with d|d
  ·rcases f.im r ⟨b,o,n,D _ d,g⟩with i|i
   ·exact .inl<|sub r i
   ·exact .inr i
  ·exact .inl ⟨b,o,n,d,G b o _ d g⟩
 ·obtain⟨b,n,cs,t,fz,d,g,J⟩:=J;refine⟨?_,.inl ⟨b,n,cs,t,fz,by rw[old b<|lt b _ d];exact d,up b _ _ d g,J⟩⟩;by_cases u:Im p ⟨AL x.foot .leaf,x.n⟩ r
  ·obtain⟨c,z,N,A,i2⟩:=u;have i3:=fo c z A;have:=v.inj b c _ z r n N d (B _ i3) g i2;subst this;have i4:=B _ i3;simp only at i4;rw[d]at i4;cases i4;exact(f.lock r l ⟨b,n,cs,t,fz,A,g,J⟩).1
  ·exact f.same r l u
theorem SM{C:Ctx}(hC:C.Ok P)(hce:BH C)(hm:P.follows .mixedOrders=true){k:Nat}{x:MY}(g:MP C k x=true){p:Pl}{h:H}{w:World}{args':Array Value}(E:R p h w)(hg:Gp p)(ha:Ac p x.a args'.toList)(Y:h.nx=x.n)(J:Mp h x.foot=true):
  Calls P x.f args' w fun e w'=>∃v' p',e=.returned v'/\Aa p' x.v v'/\Ext p h w p' ⟨AL x.new h.m,x.n'⟩ w':=by
 unfold MP at g;rw[Zb]at g;obtain⟨g,W⟩:=g;split at g
 case h_2=>cases g
 rename_i L he;have J:=Ea J;have lt:∀b o,h.get b=some o->b<x.n:=fun b o O=>by
  obtain⟨r,m,y,g1,_,_⟩:=E.obj b o O;rw[<-Y, <-E.len];exact(Zk.1 g1).1
 have hr':R p ⟨AL x.foot .leaf,x.n⟩ w:=⟨by rw[E.len,Y],fun b o O=>E.obj b o<|J _<|EC O,fun b b' o o' r n n' O hb'=>E.inj b b' o o' r n n' (J _<|EC O)<|J _<|EC hb'⟩;refine((CT hC hce hm k).fn x.f x.a _ _ he p w args' hr' hg ha).mono ?_;rintro e w' ⟨u,h1,v',p',Z,rfl,k1,j⟩;have g:=Zi.1 g _ Z;unfold Ws at g;rw[Bool.or_eq_true]at g;rcases g with g|g
 ·unfold WI at g;simp only[Zb]at g;obtain⟨⟨⟨x1,x2⟩,x3⟩,x4⟩:=g;have x1:=V.beq_eq x1;subst x1;exact⟨v',p',rfl,k1,Mu E Y J j (Zc x2) (Ea x3) (Ea x4) W⟩
 ·unfold W5 at g;split at g
  case h_2=>cases g
  rename_i b o c off len cap e T A hu;have hu:u=.tup (.sl c off len cap e::T):=hu;subst hu;simp only[Zb]at g;obtain⟨⟨⟨⟨⟨⟨⟨⟨⟨y1,y2⟩,y3⟩,y4⟩,K⟩,y6⟩,y7⟩,y8⟩,ya⟩,y9⟩:=g;have ya:=Ea ya;have y1:=V.beq_eq y1;have y3:=Zc y3;have y4:=Ea y4;have y7:x.n<=c:=Zj y7;have y8:b<x.n':=by simpa [DG]using y8
  have hb0:x.n<=b:=by
   have:=Zi.1 W (b,o) (by rw[A];exact Zr ..);exact Zj this
  have hc:h1.get c=some o:=by
   have K:Gi (h1.get c) (some o)=true:=K;cases M:h1.get c with
   |none=>rw[M]at K;cases K
   |some z=>rw[M]at K;rw[KK (a:=z) (b:=o)<|by simpa [Gi]using K]
  obtain⟨q,M⟩:=j.pre;have pl:p.length=x.n:=by rw[E.len,Y]
  obtain⟨r,m,y,g1,g2,g3⟩:=j.rel.obj c o hc;have ln:p'.length=x.n':=by rw[j.rel.len];exact y3
  have G:(p'.set b (r,m))[b]?=some (r,m):=by rw[List.getElem?_set_self a8]
  have D:∀z,z≠b->(p'.set b (r,m))[z]?=p'[z]?:=fun z i=>List.getElem?_set_ne a8
  have ft:∀z d,(z,d)∈x.foot->z<x.n:=fun z d i=>lt z d<|J _ i
  have ex:Ext p ⟨AL x.foot .leaf,x.n⟩ w (p'.set b (r,m)) ⟨AL x.new<|AL x.foot .leaf,x.n'⟩ w':=by
   have get:∀z d,H.get ⟨AL x.new<|AL x.foot .leaf,x.n'⟩ z=some d->(z=b/\d=o)\/(z,d)∈x.foot:=fun z d i=>by
    rcases Dt i with s|s
    ·rw[A]at s;have:=Zd.1 s;cases this;exact .inl ⟨rfl,rfl⟩
    ·exact .inr<|EC s
   have B:∀z d,H.get ⟨AL x.new<|AL x.foot .leaf,x.n'⟩ z=some d->∃I,h1.get I=some d/\(p'.set b (r,m))[z]?=p'[I]?/\Oy d=true/\((z=b/\I=c)\/(z<x.n/\I=z)):=fun z d i=>by
    rcases get z d i with⟨rfl,rfl⟩|s
    ·exact⟨c,hc,by rw[G,g1],y6,.inl ⟨rfl,rfl⟩⟩
    ·have l:=ft z d s;exact⟨z,y4 _ s,D z a8,Zi.1 y9 _ s,.inr ⟨l,rfl⟩⟩
   refine⟨⟨q.set (b-p.length) (r,m),by rw[M,List.set_append_right _ _ a8]⟩,⟨by rw[List.length_set,ln],fun z d i=>?_,fun z I d N s n n' i hz' U S=>?_⟩,j.size,j.same,fun s ⟨z,d,n,i,U⟩=>?_,j.os,j.out,j.tape,fun s hlt hl=>?_,j.dr⟩
   ·obtain⟨I,c1,X,c3,_⟩:=B z d i;obtain⟨s,n,y,d1,d2,d3⟩:=j.rel.obj I d c1;exact⟨s,n,y,by rw[X];exact d1,d2,Qa c3 d3⟩
   ·obtain⟨u,c1,X,_,c4⟩:=B z d i;obtain⟨u',d1,d2,_,d4⟩:=B I N hz';rw[X]at U;rw[d2]at S;have:=j.rel.inj u u' d N s n n' c1 d1 U S;omega
   ·obtain⟨u,c1,X,_,_⟩:=B z d i;rw[X]at U;exact j.im s ⟨u,d,n,c1,U⟩
   ·refine⟨(j.lock s hlt hl).1,.inl ?_⟩;obtain⟨z,n,cs,t,fz,e1,e2,e3⟩:=hl;have l:=ft z _<|EC e1;refine⟨z,n,cs,t,fz,?_,?_,e3⟩
    ·show(AL x.new<|AL x.foot .leaf).get z=_;rw[F7 W l];exact e1
    ·rw[D z a8,M,Zx (Zk.1 e2).1];exact e2
  refine⟨v',p'.set b (r,m),rfl,?_,Mu E Y J ex rfl (fun z i=>?_) (fun z i=>?_) W⟩
  ·rw[<-y1];obtain⟨xs,rfl,h5⟩:=k1;refine⟨xs,rfl,?_⟩;obtain⟨a,Y6,h6,h7,h8⟩:=h5;rw[h6,Au];refine⟨?_,V.DH y2 h8⟩;obtain⟨s,n,c',i1,i2⟩:=h7;exact⟨s,n,c',by rw[G, <-g1];exact i1,i2⟩
  ·show(AL x.new<|AL x.foot .leaf).get z.1=_;rw[F7 W<|ft z.1 z.2 i];exact ya z i
  ·show(AL x.new<|AL x.foot .leaf).get z.1=_;rw[A]at i ⊢;rw[Zd.1 i];show((AL x.foot .leaf).set b<|some o).get b=_;rw[PM.Bd,wb rfl]
theorem Od{C:Ctx}{k:Nat}:∀ {L:List MY} {f:FuncId} {args:List V} {h:H} {r:V×H},Fs C k L=true->Ky L f args h=some r->∃x:MY,MP C k x=true/\x.f=f/\x.a=args/\h.nx=x.n/\Mp h x.foot=true/\r=(x.v,⟨AL x.new h.m,x.n'⟩)
 |x::L,f,args,h,r,e,c=>by
  simp only[Fs,Zb]at e;unfold Ky at c;cases d:(Za x.f f&&V.Fj x.a args&&Za x.n h.nx&&Mp h x.foot)with
  |false=>rw[d]at c;exact Od e.2 c
  |true=>
   rw[d]at c;cases c;simp only[Zb]at d;obtain⟨⟨⟨i,j⟩,l⟩,g⟩:=d;exact⟨x,e.1,Zc i,V.De j,(Zc l).symm,g,rfl⟩
theorem Ss{C:Ctx}(m:C.Ok P)(j:BH C)(s:P.follows .mixedOrders=true){k:Nat}{L:List MY}(u:Fs C k L=true):DR P (SH C k L):=by
 intro f q g p h w args args' v J o l d c;unfold SH at g;cases r:Ru L f with
 |false=>rw[r]at g;cases g
 |true=>
  rw[r]at g;cases g;simp only at c;split at c
  case h_1=>
   rename_i x G;cases c;obtain⟨y,D,rfl,rfl,B,A,z⟩:=Od u G;cases z;exact SM m j s D o l d B A
  case h_2=>
   split at c
   case h_2=>cases c
   rename_i x he;cases c;refine((CT m j s k).fn f args h _ he p w args' o l d).mono ?_;rintro e w' ⟨v1,I,v',p',i,rfl,E,t⟩;cases Zd.1 i;exact⟨v',p',rfl,E,t⟩
end
section
variable {C:Ctx}
def Vk(C:Ctx):Ctx:=⟨C.T,C.ng,C.fn,C.prim,C.spec,false⟩
theorem TN{P:Program}(h:C.Ok P):(Vk C).Ok P where
 T:=h.T
 fn:=h.fn
 prim:=h.prim
 spec:=h.spec
theorem ML(h:BH C):BH (Vk C):=h
def Ro(id:Nat):Code->Bool
 | .block i _=>Za i id
 | .seq _ b=>Ro id b
 |_=>false
def JV(j N:Nat):Nat->List X->List X
 |_,[]=>[]
 |q,x::l=>bif Za (Nat.mod q N) j then x::JV j N (Zg q 1) l else JV j N (Zg q 1) l
theorem JT{N:Nat}(c:0<N):∀ {l:List X} (q:Nat) {x:X},x∈l->∃j,j<N/\x∈JV j N q l
 |y::l,q,x,h=>by
  rcases Zt.1 h with rfl|h
  ·refine⟨q % N,Nat.mod_lt _ c,?_⟩;unfold JV;rw[show Za (Nat.mod q N) (q % N)=true from Nat.beq_refl _];exact Zr ..
  ·obtain⟨j,e,d⟩:=JT c (q+1) h;refine⟨j,e,?_⟩;unfold JV;cases Za (Nat.mod q N) j with
   |true=>exact Zq _ d
   |false=>exact d
def dI(C:Ctx)(call:Bq)(ct:Bool)(id j N:Nat):Nat->Code->Fr->H->List Nat->Option (List X)
 |0,_,_,_,_=>none
 |m+1,c,fr,h,ds=>
  match c with
  | .seq a b=>match At C call none ct m a fr h ds with
   |some l=>bif Ro id a then(bl (JV j N 0 l) fun x=>match x.e with
     | .normal=>At C call none ct m b x.fr x.h x.ds
     |_=>some [x])
    else(bl l fun x=>match x.e with
     | .normal=>dI C call ct id j N m b x.fr x.h x.ds
     |_=>some [x])
   |none=>none
  |c=>At C call none ct (m+1) c fr h ds
theorem R9{α d:Type}{G:d->Prop}{f:α->Option (List d)}:∀ {l:List α},(∀x∈l,∃r,f x=some r/\∀y∈r,G y)->∃r,bl l f=some r/\∀y∈r,G y
 |[],_=>⟨[],rfl,fun y c=>by cases c⟩
 |x::l,h=>by
  obtain⟨r,e,g⟩:=h x<|Zr ..;obtain⟨s,h3,h4⟩:=R9 (l:=l) fun y c=>h y<|Zq _ c
  cases l with
  |nil=>exact⟨r,by simp only[bl,e],g⟩
  |cons z l=>
   refine⟨r++s,?_,fun y c=>?_⟩
   ·rw[bl,e];simp only[h3]
   ·rcases List.mem_append.1 c with c|c
    ·exact g y c
    ·exact h4 y c
theorem R5{call:Bq}{ct:Bool}{id N:Nat}{G:X->Prop}(g:0<N):∀(m:Nat) (c:Code) (fr:Fr) (h:H) (ds:List Nat),
  (∀j,j<N->∃l,dI C call ct id j N m c fr h ds=some l/\∀x∈l,G x)->∃l,At C call none ct m c fr h ds=some l/\∀x∈l,G x
 |0,c,fr,h,ds,d=>by
  obtain⟨l,t,_⟩:=d 0 g;cases t
 |m+1,c,fr,h,ds,d=>by
  cases c with
  |seq a b=>
   simp only[dI]at d;simp only[At];cases v:At C call none ct m a fr h ds with
   |none=>
    obtain⟨l,t,_⟩:=d 0 g;rw[v]at t;cases t
   |some l=>
    simp only[v]at d;refine R9 fun x u=>?_
    cases z:Ro id a with
    |true=>
     simp only[z,wc]at d;obtain⟨j,t,B⟩:=JT g 0 u;obtain⟨r,q,f⟩:=d j t;obtain⟨s,h5,h6⟩:=Cz q x B;exact⟨s,h5,fun y o=>f y<|h6 y o⟩
    |false=>
     simp only[z,wd]at d;cases he:x.e with
     |normal=>
      simp only;refine R5 (id:=id) g m b x.fr x.h x.ds fun j A=>?_
      obtain⟨r,q,f⟩:=d j A;obtain⟨s,h5,h6⟩:=Cz q x u;simp only[he]at h5;exact⟨s,h5,fun y o=>f y<|h6 y o⟩
     |exit i=>
      obtain⟨r,q,f⟩:=d 0 g;obtain⟨s,h5,h6⟩:=Cz q x u;simp only[he]at h5;exact⟨s,h5,fun y o=>f y<|h6 y o⟩
     |ret=>
      obtain⟨r,q,f⟩:=d 0 g;obtain⟨s,h5,h6⟩:=Cz q x u;simp only[he]at h5;exact⟨s,h5,fun y o=>f y<|h6 y o⟩
  |_=>exact d 0 g
def V6(C:Ctx)(i:Fn)(x:X):Option (List<|V×H):=match x.e with
 | .exit _=>none
 |_=>match C9 x.ds x.h with
  |some c=>match Ig C x.fr c i.results.toList with
   |some v=>some [(v,c)]
   |none=>none
  |none=>none
def QL(C:Ctx)(i:Fn)(y:MY)(x:X):Bool:=match V6 C i x with
 |some l=>l.all<|Ws y
 |none=>false
def UI(C:Ctx)(k:Nat)(y:MY)(id j N:Nat):Bool:=match C.fn y.f with
 |some i=>(match dI C (Aq C k) i.cert id j N k i.body (Fp i.ntmps y.a) ⟨AL y.foot .leaf,y.n⟩ []with
  |some l=>l.all<|QL C i y
  |none=>false)
 |none=>false
theorem W0{k:Nat}{y:MY}{id N:Nat}(s:C.mg=false)(I:C.spec y.f=none)(m:0<N)(h:∀j,j<N->UI C k y id j N=true)(c:(y.new.all fun z=>Zm y.n z.1)=true):MP C (k+1) y=true:=by
 unfold MP;rw[c,Bool.and_true,Aq];simp only[I];unfold UI at h;cases e:C.fn y.f with
 |none=>
  have:=h 0 m;rw[e]at this;cases this
 |some i=>
  simp only[e]at h;obtain⟨l,t,A⟩:=R5 (C:=C) (G:=fun x=>QL C i y x=true) m k i.body (Fp i.ntmps y.a) ⟨AL y.foot .leaf,y.n⟩ [] fun j D=>by
   have g:=h j D;split at g
   ·next l B=>exact⟨l,B,fun x d=>Zi.1 g x d⟩
   ·cases g
  have E:∃r,bl l (V6 C i)=some r/\∀z∈r,Ws y z=true:=R9 fun x d=>by
   have g:=A x d;unfold QL at g;split at g
   ·next r q=>exact⟨r,q,fun z v=>Zi.1 g z v⟩
   ·cases g
  obtain⟨r,o,u⟩:=E;simp only[t];refine(show(match (match bl l (V6 C i)with
   |some r=>some<|bif C.mg then G2 y.n r else r
   |none=>none)with
   |some l=>l.all<|Ws y
   |none=>false)=true from ?_)
  rw[o];simp only[s,wd];exact Zi.2 u
end
end Go.Det
