import Derived.Test.YtbmofcgiokkikaaGreatDoorX02
import Derived.Laws.StructEq
import Derived.Lib.Bytealg
import Derived.Laws.Externs
/- A part of a proof; no law is stated here. -/
noncomputable section
open Nat renaming beq -> zc, eq_of_beq_eq_true -> ze, blt -> zw
open Bool renaming and_eq_true -> zd
open Option.some renaming injEq -> zf
open List renaming mem_singleton -> zg, mem_cons -> zr, mem_map -> zu
open Array renaming getElem?_eq_some_iff -> zh, getD_eq_getD_getElem? -> zl
open Go.Extern.MathBitsCarry renaming m64 -> zi, pair -> zn
open Go.Result renaming andThen_ok -> zj
open Go.Sem renaming run_bind -> zk
open Go.Instr renaming checkKey -> zm
open Go.Det.Ext renaming refl -> zo
open Go.Fence renaming wide -> zp
open Prod.mk renaming injEq -> zq
open PUnit renaming unit -> zt
namespace Go.Det
mutual
def V.beq:V->V->Bool
 | .bool a,.bool b=>a==b
 | .int k a,.int l b=>k==l&&a==b
 | .str a,.str b=>a==b
 | .nilp,.nilp=>true
 | .ptr a i,.ptr b j=>zc a b&&zc i j
 | .nils,.nils=>true
 | .sl a b c d e,.sl r b' q m o=>zc a r&&zc b b'&&zc c q&&zc d m&&zc e o
 | .esl,.esl=>true
 | .es0,.es0=>true
 | .junk,.junk=>true
 | .nilm,.nilm=>true
 | .map a,.map b=>zc a b
 | .yld a,.yld b=>zc a b
 | .nilf,.nilf=>true
 | .nili,.nili=>true
 | .fn f a b,.fn g c d=>f==g&&V.MD a c&&V.MD b d
 | .iface t x,.iface u y=>zc t u&&V.beq x y
 | .agg a,.agg b=>V.MD a b
 | .tup a,.tup b=>V.MD a b
 |_,_=>false
def V.MD:List V->List V->Bool
 |[],[]=>true
 |a::c,b::d=>V.beq a b&&V.MD c d
 |_,_=>false
end
mutual
theorem V.beq_eq:∀ {a b:V},V.beq a b=true->a=b:=by
 intro a b h;cases a<;>cases b<;>simp only[V.beq]at h<;>first
  |(cases h;done)
  |rfl
  |(simp only[zd,wk,Bx,w5]at h;first|(rfl)|(rfl)|(obtain⟨⟨⟨⟨rfl,rfl⟩,rfl⟩,rfl⟩,rfl⟩:=h;rfl))
  |skip
 case fn.fn f a b g c d=>
  simp only[zd,wk]at h;rw[h.1.1,V.IB h.1.2,V.IB h.2]
 case iface.iface t x u y=>
  simp only[zd,Bx,w5]at h;rw[h.1,V.beq_eq h.2]
 case agg.agg a b=>rw[V.IB h]
 case tup.tup a b=>rw[V.IB h]
theorem V.IB:∀ {a b:List V},V.MD a b=true->a=b
 |[],[],_=>rfl
 |[],_::_,h=>by simp[V.MD]at h
 |_::_,[],h=>by simp[V.MD]at h
 |a::c,b::d,h=>by
  simp only[V.MD,zd]at h;rw[V.beq_eq h.1,V.IB h.2]
end
structure Rc where
 i:Nat
 o:Oper
 f:Fr
 v:V
structure St where
 f:Fr
 h:H
 r:List Rc
def still(C:Ctx)(anc:Nat->Nat->Bool)(i:Nat)(h:H)(r:Rc):Bool:=
 anc i r.i||(match Hu C r.f h r.o with
  |some (.val x _)=>V.beq x r.v
  |_=>false)
def IV(C:Ctx)(call:DP)(ops:Array Oper)(anc:Nat->Nat->Bool)(i:Nat)(s:St):Option (V×St):=
 match ops[i]? with
 |none=>none
 |some o=>
  bif Bi s.f ops o then
   bif ET o then
    match Hu C s.f s.h o with
    |some (.val v _)=>match s.f.put o.dst v with
     |some c=>some (v,⟨c,s.h,bif R4 o then⟨i,o,s.f,v⟩::s.r else s.r⟩)
     |none=>none
    |_=>none
   else bif C2 o then
    match wR C s.f o with
    |some (ob,f)=>match s.f.put o.dst (f s.h.nx)with
     |some c=>some (f s.h.nx,⟨c,s.h.push ob,s.r⟩)
     |none=>none
    |none=>none
   else
    match Em C call s.f s.h o with
    |some (v,h')=>match s.f.put o.dst v with
     |some c=>bif s.r.all (still C anc i h')then some (v,⟨c,h',s.r⟩)else none
     |none=>none
    |none=>none
  else
   match s.f.put o.dst (.tup [])with
   |some c=>bif C9 o then(bif s.r.all (still C anc i s.h)then some (.tup [],⟨c,s.h,s.r⟩)else none)else some (.tup [],⟨c,s.h,s.r⟩)
   |none=>none
def Xd(C:Ctx)(call:DP)(ops:Array Oper)(anc:Nat->Nat->Bool):List Nat->St->Option St
 |[],s=>some s
 |i::c,s=>match IV C call ops anc i s with
  |some (_,d)=>Xd C call ops anc c d
  |none=>none
def I9(C:Ctx)(call:DP)(ops:Array Oper)(fr:Fr)(h:H):Option (Fr×H):=
 match Xd C call ops (E7 ops).a (E7 ops).ord ⟨fr,h,[]⟩with
 |some s=>some (s.f,s.h)
 |none=>none
def Wy(C:Ctx)(call:DP)(ops:Array Oper)(fr:Fr)(h:H):Option (Fr×H):=
 bif IW ops (E7 ops)then I9 C call ops fr h else none
def D3:Code->Bool
 | .region _ ops dr=>bif dr then IW ops (E7 ops)else true
 | .seq a b=>D3 a&&D3 b
 | .cond _ a b=>D3 a&&D3 b
 | .block _ b=>D3 b
 | .loop b=>D3 b
 | .scope b=>D3 b
 |_=>true
section
variable {C:Ctx}{P:Program}{call:DP}{ops:Array Oper}{p:Pl}{h:H}{w:World}{fr:Fr}{a:Act}
theorem ME{f c:Fr}{d:Option Nat}{v:V}(h:f.put d v=some c):c.n=f.n/\(∀t,c.get t=if d=some t then v else f.get t)/\∀t,d=some t->t<f.n:=by
 unfold Fr.put at h;cases d with
 |none=>grind
 |some s=>
  simp only[Hz]at h;by_cases e:s<f.n
  ·grind [Fr.get,PM.DI]
  grind
theorem Eg{anc:Nat->Nat->Bool}{i:Nat}{s d:St}{v:V}(c:IV C call ops anc i s=some (v,d)):∃o,ops[i]?=some o/\d.f.n=s.f.n/\(∀t,d.f.get t=if o.dst=some t then v else s.f.get t)/\(∀t,o.dst=some t->t<s.f.n)/\
  ((Bi s.f ops o=false/\v=.tup []/\d.h=s.h)\/
   (Bi s.f ops o=true/\
   ((ET o=true/\Hu C s.f s.h o=some (.val v s.h)/\d.h=s.h)\/
    (C2 o=true/\∃ob f,wR C s.f o=some (ob,f)/\v=f s.h.nx/\d.h=s.h.push ob)\/
    (C9 o=true/\Em C call s.f s.h o=some (v,d.h)))))/\
  (∀r∈s.r,r∈d.r)/\(ET o=true->R4 o=true->Bi s.f ops o=true->⟨i,o,s.f,v⟩∈d.r)/\
  (C9 o=true->∀r∈s.r,still C anc i d.h r=true):=by
 unfold IV at c;split at c
 case h_1=>cases c
 rename_i o B;refine⟨o,B,?_⟩;cases y:Bi s.f ops o with
 |false=>
  simp only[y,wg]at c;split at c
  case h_2=>cases c
  rename_i u hp;obtain⟨j,g,m⟩:=ME hp;grind
 |true=>
  simp only[y,we]at c;cases e:ET o with
  |true=>
   simp only[e,we]at c;split at c
   case h_2=>cases c
   rename_i v1 x q;split at c
   case h_2=>cases c
   rename_i u hp;obtain⟨rfl,rfl⟩:=c;obtain⟨j,g,m⟩:=ME hp;obtain⟨v2,hv2⟩:=rd_val e q;refine⟨j,g,m,ah,fun r hr=>?_,fun _ D _=>?_,(by grind [UE])⟩
   ·grind
   grind
  |false=>
   simp only[e,wg]at c;cases l:C2 o with
   |true=>
    simp only[l,we]at c;split at c
    case h_2=>cases c
    split at c
    case h_2=>cases c
    rename_i u hp;obtain⟨rfl,rfl⟩:=c;obtain⟨j,g,m⟩:=ME hp;exact⟨j,g,m,ah,fun r hr=>hr,(by simp),(by grind [UE])⟩
   |false=>
    simp only[l,wg]at c;split at c
    case h_2=>cases c
    rename_i v1 x z;split at c
    case h_2=>cases c
    rename_i u hp;obtain⟨j,g,m⟩:=ME hp;cases A:s.r.all (still C anc i x)with
    |false=>grind
    |true=>
     simp only[A,we,zf,zq]at c;obtain⟨rfl,rfl⟩:=c;simp_all [C9]
theorem Oc{anc:Nat->Nat->Bool}:∀(L:List Nat) (s d:St),Xd C call ops anc L s=some d->
  ∃(c:Nat->St) (e:Nat->V),c 0=s/\c L.length=d/\∀(q i:Nat),L[q]?=some i->IV C call ops anc i (c q)=some (e q,c<|q+1)
 |[],s,d,h=>by
  cases h;exact⟨fun _=>s,fun _=>.nilp,rfl,rfl,(by simp)⟩
 |i::L,s,d,h=>by
  unfold Xd at h;split at h
  case h_2=>cases h
  rename_i v s1 g;obtain⟨c,e,h0,m,f⟩:=Oc L s1 d h;refine⟨fun q=>match q with|0=>s|q+1=>c q,fun q=>match q with|0=>v|q+1=>e q,rfl,by omega,fun q j l=>?_⟩;grind
theorem kN{pl:OV}(S:IW ops pl=true){J:St}(W:Xd C call ops pl.a pl.ord ⟨fr,h,[]⟩=some J):
  ∃(v:Nat->V) (Hh:Nat->H) (F:Nat->Fr),Canon C call ops pl.a (idx pl.ord) (idx pl.pos) fr h v Hh F/\Hh ops.size=J.h/\F ops.size=J.f:=by
 have st:=aM S;have hl:=xP S;obtain⟨s,T,h0,hn,hq⟩:=Oc pl.ord _ _ W;have Em:∀q,q<ops.size->IV C call ops pl.a (idx pl.ord q) (s q)=some (T q,s<|q+1):=by
  grind [idx]
 have O:∀q,q<=ops.size->(s q).f.n=fr.n:=by
  intro q;induction q with
  |zero=>grind
  |succ q R=>
   intro d;obtain⟨o,_,g1,_⟩:=Eg (Em q ae);omega
 have A:∀q l,q<=l->l<=ops.size->∀r∈(s q).r,r∈(s l).r:=by
  intro q l X;induction l with
  |zero=>
   grind
  |succ l R=>
   intro d r hr;by_cases e:q=l+1
   ·grind
   ·obtain⟨o,_,_,_,_,_,g,_⟩:=Eg (Em l ae);exact g r (R ae ae r hr)
 refine⟨fun i=>T<|idx pl.pos i,fun q=>(s q).h,fun q=>(s q).f,⟨by simp[h0],by simp[h0],O,fun q d o B t=>?_,fun i o t B ht=>?_,fun i o B=>?_,fun i j o oj B U M I N hw Y E=>?_⟩,by grind,by grind⟩
 ·obtain⟨o',m,_,g1,_⟩:=Eg<|Em q d;simp only[(st.ordp q d).2];grind
 ·have c:=(zh.1 B).1;have hp:=st.posp i c;obtain⟨o',m,_,_,g2,_⟩:=Eg<|Em _ hp.1;grind
 ·have c:=(zh.1 B).1;have hp:=st.posp i c;obtain⟨o',m,_,_,_,g3,_⟩:=Eg<|Em _ hp.1;simp_all
 ·have c:=(zh.1 B).1;have K:=(zh.1 U).1;have u:=st.posp i c;have z:=st.posp j K;obtain⟨o',m,_,_,_,_,_,Z,_⟩:=Eg<|Em _ z.1;rw[z.2,U]at m;cases m;have D:=A _ (idx pl.pos i) ae ae _<|Z I N hw;obtain⟨o'',m,_,_,_,_,_,_,g5⟩:=Eg<|Em _ u.1;rw[u.2,B]at m;cases m;have G:=g5 M _ D;unfold still at G;rw[z.2]at G;rw[u.2,E]at G;split at G
  case h_2=>cases G
  rename_i x hx L;obtain⟨y,hy⟩:=rd_val I L;grind [V.beq_eq]
theorem QV(g:IW ops (E7 ops)=true)(i:C.Ok P)(c:call.Ok C P)(o:P.follows .mixedOrders=true)(hr:R p h w)(m:Gl C p)(t:CN p fr a){fr':Fr}{h':H}(f:I9 C call ops fr h=some (fr',h')){id:Nat}{ro:Option Nat}{j:Nat}{Q:Exit->Act->World->Prop}
  (q:∀p' d w',CN p' fr' d->Ext p h w p' h' w'->d.defers=a.defers->Q .normal d w'):(Code.region id ops true).wpIn (FW ro) j P Q a w:=by
 unfold I9 at f;split at f
 case h_2=>cases f
 rename_i s e;obtain⟨v,Hh,F,l,u,y⟩:=kN g e;refine rF i c o (aM g) l hr m t fun p' d w' x z r=>q p' d w' ?_ ?_ r
 ·grind
 grind
theorem gF(g:C.Ok P)(d:call.Ok C P)(l:P.follows .mixedOrders=true)(hr:R p h w)(i:Gl C p)(o:CN p fr a){fr':Fr}{h':H}(e:Wy C call ops fr h=some (fr',h')){id:Nat}{ro:Option Nat}{f:Nat}{Q:Exit->Act->World->Prop}
  (m:∀p' c w',CN p' fr' c->Ext p h w p' h' w'->c.defers=a.defers->Q .normal c w'):(Code.region id ops true).wpIn (FW ro) f P Q a w:=by
 unfold Wy at e;cases j:IW ops (E7 ops)with
 |false=>grind
 |true=>
  grind [QV]
end
section
variable {P:Program}{F:Fence}{n:Nat}{b:Frame}{a:Act}{k:List Item}{cs:List Frame}{w:World}{Q:Exit->Act->World->Prop}
theorem En{c:Code}:step P (lone (b.atR a (.code (.scope c)::k)) cs w)=.next (lone (b.atR a (.code c:: .inScope c::k)) cs w):=
 (by rfl)
theorem R0{c:Code}:step P (lone (b.atR a (.inScope c::k)) cs w)=.next (lone (b.atR a k) cs w):=
 (by rfl)
theorem KK{c:Code}(h:c.wpIn F n P (Exit.noGoto Q) a w):(Code.scope c).wpIn F n P Q a w:=by
 intro b k cs o m hr;have h0:(lone (b.atR a (.code (.scope c)::k)) cs w).fenced P F:=fenced_calm m hr rfl;obtain⟨e,g,f,i,d⟩:=h b (.inScope c::k) cs o m hr;cases e with
 |normal=>exact⟨.normal,g,f,i,.head h0 En<|StepsIn.trans d<|.one (fenced_calm m hr rfl) R0⟩
 |exit id=>
  have t:exitTo id (.inScope c::k)=exitTo id k:=by rfl
  exact⟨.exit id,g,f,i,fun r q=>.head h0 En (d.1 r ah),
   fun j q=>let ⟨k₁,h1,h2⟩:=d.2 j ah;⟨k₁,h1,.head h0 En h2⟩⟩
 |goto l=>exact i.elim
 |ret=>exact⟨_,g,f,i,.of_steps (.one h0 En) d⟩
 |panic s=>exact⟨_,g,f,i,.of_steps (.one h0 En) d⟩
 |outgrown=>exact⟨_,g,f,i,.of_steps (.one h0 En) d⟩
end
structure X where
 e:DX
 fr:Fr
 h:H
 ds:List Nat
def Vk(ro:Option Nat)(fr:Fr)(h:H)(ps:Array Tmp)(asg body:Code)(ds:List Nat):Option (Nat×H×List Nat):=
 match ro with
 |none=>some (h.nx+1,(h.push<|.defd true).push<|.loop ⟨.ready,none,fr,ps,asg,body,h.nx⟩,h.nx::ds)
 |some b=>match h.get b with
  |some (.loop l)=>some (h.nx,h.push<|.loop ⟨.ready,none,fr,ps,asg,body,l.db⟩,ds)
  |_=>none
def BM(C:Ctx)(call:DP)(ro:Option Nat)(ct:Bool):Nat->Code->Fr->H->List Nat->Option (List X)
 |0,_,_,_,_=>none
 |m+1,c,fr,h,ds=>
  match c with
  | .skip| .label _=>some [⟨.normal,fr,h,ds⟩]
  | .region _ ops dr=>bif dr then(match (bif ct then I9 C call ops fr h else Wy C call ops fr h)with
    |some (fr',h')=>some [⟨.normal,fr',h',ds⟩]
    |none=>none)
   else(match U3 C call ops ops.toList fr h with
    |some l=>some<|l.map fun x=>⟨.normal,x.1,x.2,ds⟩
    |none=>none)
  | .seq a b=>match BM C call ro ct m a fr h ds with
   |some l=>bl l fun x=>match x.e with
    | .normal=>BM C call ro ct m b x.fr x.h x.ds
    |_=>some [x]
   |none=>none
  | .cond x a b=>match ev C fr x with
   |some (.bool true)=>BM C call ro ct m a fr h ds
   |some (.bool false)=>BM C call ro ct m b fr h ds
   |_=>none
  | .block id b=>match BM C call ro ct m b fr h ds with
   |some l=>some<|l.map fun x=>match x.e with
    | .exit i=>bif zc i id then { x with e:=.normal }else x
    |_=>x
   |none=>none
  | .loop b=>match BM C call ro ct m b fr h ds with
   |some l=>bl l fun x=>match x.e with
    | .normal=>BM C call ro ct m (.loop b) x.fr x.h x.ds
    |_=>some [x]
   |none=>none
  | .exit i=>some [⟨.exit i,fr,h,ds⟩]
  | .ret=>some [⟨.ret,fr,h,ds⟩]
  | .scope b=>BM C call ro ct m b fr h ds
  | .rangeFunc g ps asg body=>match Vk ro fr h ps asg body ds,ev C fr g with
   |some (b,j,d),some o=>match IT C j o [.yld b]with
    |some (.enter f args)=>match call (.fn f args) j with
     |some l=>bl l fun x=>match x.2.get b with
      |some (.loop ls)=>match ls.st,ls.pend with
       | .busy,_=>none
       |_,none=>some [⟨.normal,fr,x.2.put b<|.loop { ls with st:=.exhausted },d⟩]
       |_,some c=>BM C call ro false m c fr (x.2.put b<|.loop { ls with st:=.exhausted }) d
      |_=>none
     |none=>none
    |_=>none
   |_,_=>none
  |_=>none
def Ia(p:Pl):List Nat->List Deferred->Prop
 |[],l=>l=[]
 |b::c,l=>∃r n l',p[b]?=some (r,n)/\l={ target:=.collected r,args:= #[] }::l'/\Ia p c l'
theorem Ia.mono{p:Pl}(q:Pl):∀ {ds:List Nat} {l:List Deferred},Ia p ds l->Ia (p++q) ds l
 |[],_,h=>h
 |_b::_bs,_l,⟨r,n,l',e,c,d⟩=>⟨r,n,l',ah,c,d.mono q⟩
theorem Ia.ext{p p':Pl}{h h':H}{w w':World}(e:Ext p h w p' h' w'){ds:List Nat}{l:List Deferred}(c:Ia p ds l):Ia p' ds l:=by
 obtain⟨q,rfl⟩:=e.pre;exact c.mono q
def Rr(p:Pl):Option Nat->Option Nat->Prop
 |none,none=>True
 |some b,some r=>∃n,p[b]?=some (r,n)
 |_,_=>False
theorem Rr.ext{p p':Pl}{h h':H}{w w':World}(e:Ext p h w p' h' w'){ro k:Option Nat}(c:Rr p ro k):Rr p' ro k:=by
 obtain⟨q,rfl⟩:=e.pre;cases ro with
 |none=>grind [Rr]
 |some b=>
  cases k with
  |none=>exact c
  |some r=>obtain⟨n,d⟩:=c;exact⟨n,ah⟩
theorem Ext.at{p p':Pl}{h h':H}{w w':World}(e:Ext p h w p' h' w'){b:Nat}{x:Nat×Nat}(c:p[b]?=some x):p'[b]?=some x:=by
 obtain⟨q,rfl⟩:=e.pre;grind
section
variable {C:Ctx}{P:Program}{call:DP}{ops:Array Oper}{p:Pl}{h:H}{w:World}{fr:Fr}{a:Act}
theorem J9(hr:R p h w)(y:CN p fr a){ro k:Option Nat}(c:Rr p ro k){ps:Array Tmp}{asg body:Code}{ds g:List Nat}(f:Ia p ds a.defers){b:Nat}{e:H}
  (d:Vk ro fr h ps asg body ds=some (b,e,g)) (fn:FuncId):∃l mark u s n,(Instr.enterLoop fn a.tmps ps asg body k).run P w=.ok (l,mark) u/\Ext p h w s e u/\s[b]?=some (l,n)/\Ia s g (mark++a.defers):=by
 unfold Vk at d;cases ro with
 |none=>
  cases k with
  |some k=>exact c.elim
  |none=>
   obtain⟨rfl,rfl,rfl⟩:=d;have v:=Ext.push (n:=0) hr (o:=.defd true) (x:=.deferred<|some []) (by rfl);have q:(p++[(w.heap.size,0)])[h.nx]?=some (w.heap.size,0):=by rw[<-hr.len];simp
   have j:EY (p++[(w.heap.size,0)]) fr a.tmps:=EY.mono _ y;have i:=Ext.push (n:=0) v.rel (o:=.loop ⟨.ready,none,fr,ps,asg,body,h.nx⟩) (x:=.loop { state:=.ready,pending:=none,fn,tmps:=a.tmps,params:=ps,assign:=asg,body,defers:=w.heap.size })
    ⟨fn,a.tmps,_,_,j,q,rfl⟩
   refine⟨_,_,_,_,0,run_enterLoop_outer fn a.tmps ps asg body,v.trans i,?_,?_⟩
   ·have:h.nx+1=(p++[(w.heap.size,0)]).length:=by simp[hr.len]
    grind
   ·exact⟨w.heap.size,0,a.defers,ah,rfl,Ia.mono _<|Ia.mono _ f⟩
 |some z=>
  cases k with
  |none=>exact c.elim
  |some k=>
   simp only at d;split at d
   case h_2=>cases d
   rename_i l0 t;obtain⟨rfl,rfl,rfl⟩:=d;obtain⟨n0,hn0⟩:=c;obtain⟨r',n',x,e,h2,f0,tmps,r,m,h3,h4,rfl⟩:=hr.obj _ _ t;rw[hn0]at e;cases e;have i:=Ext.push (n:=0) hr (o:=.loop ⟨.ready,none,fr,ps,asg,body,l0.db⟩) (x:=.loop { state:=.ready,pending:=none,fn,tmps:=a.tmps,params:=ps,assign:=asg,body,defers:=r })
    ⟨fn,a.tmps,_,_,y,h4,rfl⟩
   refine⟨w.heap.size,[],_,_,0,?_,i,?_,?_⟩
   ·unfold Instr.enterLoop;simp only[zk,run_getLoop h2,run_newObj_alloc,zj,Sem.run_pure,World.alloc]
   ·rw[<-hr.len];simp
   ·exact Ia.mono _ f
theorem Result.Zk{α d:Type}{r:Result α}{f:α->World->Result d}{b:d}{w':World}(h:r.andThen f=.ok b w'):∃a c,r=.ok a c/\f a c=.ok b w':=by
 cases r with
 |ok a c=>exact⟨a,c,rfl,h⟩
 |halt x c=>simp_all
theorem MX(hC:C.Ok P)(E:call.Ok C P)(hm:P.follows .mixedOrders=true){ro k:Option Nat}{n:Nat}:∀(m:Nat) (ct:Bool) (c:Code) {fr:Fr} {h:H} {ds:List Nat} {L:List X},(ct=true->D3 c=true)->BM C call ro ct m c fr h ds=some L->
  ∀(p:Pl) (a:Act) (w:World) (Q:Exit->Act->World->Prop),R p h w->Gl C p->CN p fr a->Ia p ds a.defers->Rr p ro k->
   (∀x∈L,∀p' V w',CN p' x.fr V->Ext p h w p' x.h w'->Ia p' x.ds V.defers->Q x.e.TY V w')->
   c.wpIn (FW k) n P Q a w/\∀b,c=.loop b->Code.roundsIn (FW k) n P b Q m a w
 |0,ct,c,fr,h,ds,L,J,o=>by cases o
 |m+1,ct,c,fr,h,ds,L,J,o=>by
  intro p a w Q hr N I B D G;have ih:∀ {ct:Bool} (c:Code) {fr:Fr} {h:H} {ds:List Nat} {L:List X},(ct=true->D3 c=true)->BM C call ro ct m c fr h ds=some L->∀ {p:Pl} {a:Act} {w:World},R p h w->Gl C p->CN p fr a->Ia p ds a.defers->Rr p ro k->
    ∀ {Q:Exit->Act->World->Prop},(∀x∈L,∀p' V w',CN p' x.fr V->Ext p h w p' x.h w'->Ia p' x.ds V.defers->Q x.e.TY V w')->
   c.wpIn (FW k) n P Q a w/\∀b,c=.loop b->Code.roundsIn (FW k) n P b Q m a w:=fun {ct} c {fr h ds L} J o {p a w} hr N I B D {Q} G=>MX hC E hm m ct c J o p a w Q hr N I B D G
  cases c with
  |skip=>cases o;exact⟨wpIn_skip<|G _ (zg.2 rfl) p a w I (zo hr) B,(by simp)⟩
  |label l=>cases o;exact⟨wpIn_label<|G _ (zg.2 rfl) p a w I (zo hr) B,(by simp)⟩
  |region id ops dr=>
   refine⟨?_,(by simp)⟩;simp only[BM]at o;cases dr with
   |true=>
    simp only[we]at o;split at o
    case h_2=>cases o
    rename_i fr1 h1 Z;cases o;refine(show ∀ {Q':Exit->Act->World->Prop},(∀p' V w',CN p' fr1 V->Ext p h w p' h1 w'->V.defers=a.defers->Q' .normal V w')->(Code.region id ops true).wpIn (FW k) n P Q' a w from fun {Q'} U=>?_) fun M a1 K t j q=>G _ (zg.2 rfl) M a1 K t j<|q▸B.ext j
    cases ct with
    |false=>grind [gF]
    |true=>exact QV (by simpa [D3]using J rfl) hC E hm hr N I Z U
   |false=>
    simp only[wg]at o;split at o
    case h_2=>cases o
    rename_i l Z;cases o;exact Y9 hC E hr N I Z fun x hx M a1 K t j q=>G _ (zu.2 ⟨x,hx,rfl⟩) M a1 K t j<|q▸B.ext j
  |seq x y=>
   refine⟨wpIn_seq ?_,(by simp)⟩;simp only[BM]at o;split at o
   case h_2=>cases o
   rename_i l Z;refine(ih x (by grind [D3]) Z hr N I B D fun z hz M a1 K t j q=>?_).1;obtain⟨L1,O,g2⟩:=JV o z hz;cases A:z.e with
   |normal=>
    simp only[A]at O;exact(ih y (by grind [D3]) O j.rel (N.ext j) t q (D.ext j) fun u hu Y a2 w2 T he2 S=>G u (g2 u hu) Y a2 w2 T (j.trans he2) S).1
   |exit i=>
    simp only[A,zf]at O;subst O;have:=G z ah M a1 K t j q;rw[A]at this;exact this
   |ret=>
    simp only[A,zf]at O;subst O;have:=G z ah M a1 K t j q;rw[A]at this;exact this
  |cond x b1 b2=>
   refine⟨?_,(by simp)⟩;simp only[BM]at o;split at o
   case h_1=>
    rename_i hx;have hv:=Bc N I hx;grind [Ae,wpIn_cond_true,D3]
   case h_2=>
    rename_i hx;have hv:=Bc N I hx;grind [Ae,wpIn_cond_false,D3]
   grind
  |block id b=>
   refine⟨wpIn_block ?_,(by simp)⟩;simp only[BM]at o;split at o
   case h_2=>cases o
   rename_i l Z;cases o;refine(ih b (fun e=>by have:=J e;simpa [D3]using this) Z hr N I B D fun z hz M a1 K t j q=>?_).1;have U:=G _ (zu.2 ⟨z,hz,rfl⟩) M a1 K;cases A:z.e with
   |normal=>
    simp only[A]at U;exact U t j q
   |ret=>
    simp only[A]at U;exact U t j q
   |exit i=>
    simp only[A,Bx]at U;by_cases ei:i=id
    ·simp only[ei,decide_true,we]at U;simp only[DX.TY,Exit.inBlock,ei,wm];exact U t j q
    ·simp only[ei,decide_false,wg,A]at U;simp only[DX.TY,Exit.inBlock,ei,vg];exact U t j q
  |loop b=>
   have key:Code.roundsIn (FW k) n P b Q (m+1) a w:=by
    rw[roundsIn_succ];simp only[BM]at o;split at o
    case h_2=>cases o
    rename_i l Z;refine(ih b (fun e=>by have:=J e;simpa [D3]using this) Z hr N I B D fun z hz M a1 K t j q=>?_).1;obtain⟨L1,O,g2⟩:=JV o z hz;cases A:z.e with
    |normal=>
     simp only[A]at O;exact(ih (.loop b) J O j.rel (N.ext j) t q (D.ext j) fun u hu Y a2 w2 T he2 S=>G u (g2 u hu) Y a2 w2 T (j.trans he2) S).2 b rfl
    |exit i=>
     simp only[A,zf]at O;subst O;have:=G z ah M a1 K t j q;rw[A]at this;exact this
    |ret=>
     simp only[A,zf]at O;subst O;have:=G z ah M a1 K t j q;rw[A]at this;exact this
   grind [wpIn_loop_rounds]
  |exit i=>cases o;exact⟨wpIn_exit<|G _ (zg.2 rfl) p a w I (zo hr) B,(by simp)⟩
  |ret=>cases o;exact⟨wpIn_ret<|G _ (zg.2 rfl) p a w I (zo hr) B,(by simp)⟩
  |scope b=>
   refine⟨KK ?_,(by simp)⟩;simp only[BM]at o;refine(ih b (fun e=>by have:=J e;simpa [D3]using this) o hr N I B D fun z hz M a1 K t j q=>?_).1;have h1:=G z hz M a1 K t j q;cases A:z.e<;>rw[A]at h1<;>exact h1
  |rangeFunc g ps asg body=>
   refine⟨wpIn_rangeFunc fun fn _=>?_,(by simp)⟩;simp only[BM]at o;split at o
   case h_2=>cases o
   rename_i b h1 ds1 g' hen hgv;split at o
   case h_2=>cases o
   rename_i f args hdc;split at o
   case h_2=>cases o
   rename_i l hcl;obtain⟨r,mark,K,M,nb,q1,q2,q3,q4⟩:=J9 (P:=P) hr I D B hen fn;have hyld:Ay M [.yld b] (#[Value.func (.yield r) #[] #[]]).toList:=by
    simp only[Bm,J4,vf];simp only[Ae];grind
   obtain⟨args',s1,s2⟩:=NJ hC q2.rel (N.ext q2) (q2.jS<|Bc N I hgv) hyld hdc;rw[zk]at s1;obtain⟨d,w1',s3,s4⟩:=Result.Zk s1;refine⟨r,mark,K,d,w1',f,args',K,q1,?_,fun _ _=>trivial,s4,(by grind [FW,zp]),ZJ.2<|(E.fn f args h1 l hcl M K args' q2.rel (N.ext q2) s2).mono ?_⟩
   ·grind [resolve,Act.eval]
   ·rintro e w2 ⟨v,h2,v',Y,hmem,rfl,k1,k2⟩;obtain⟨L1,t1,t2⟩:=JV o (v,h2) hmem;split at t1
    case h_2=>cases t1
    rename_i ls hls;obtain⟨r',n',x,u1,u2,f0,tmps,rd,md,u3,u4,rfl⟩:=k2.rel.obj _ _ hls;have hpb:=k2.at q3;rw[hpb]at u1;cases u1;have hbusy:ls.st≠ .busy:=by
     grind
    obtain⟨W,hW,hput⟩:∃W,(Instr.endLoop r).run P w2=.ok ls.pend W/\Ext Y h2 w2 Y (h2.put b<|.loop { ls with st:=.exhausted }) W:=
     ⟨_,run_endLoop u2 hbusy,Ext.put k2.rel hls hpb (o':=.loop { ls with st:=.exhausted }) (x':=.loop { state:=.exhausted,pending:=ls.pend,fn:=f0,tmps,params:=ls.ps,assign:=ls.asg,body:=ls.body,defers:=rd }) ⟨f0,tmps,rd,md,u3,u4,rfl⟩ rfl rfl rfl rfl⟩
    have hex:=q2.trans<|k2.trans hput;refine⟨ls.pend,W,hW,?_⟩;have T:CN Y fr { a with defers:=mark++a.defers }:=CN.ext (a:={ a with defers:=mark++a.defers }) I<|q2.trans k2;have S:Ia Y ds1 (mark++a.defers):=Ia.ext k2 q4;split at t1
    case h_1=>cases t1
    case h_2=>
     rename_i hpe _;cases t1;simp only[hpe];exact G _ (t2 _<|zg.2 rfl) Y _ _ T hex S
    case h_3=>
     rename_i c hpe _;simp only[hpe];exact(ih c (by simp) t1 hput.rel (N.ext hex) T S (D.ext hex) fun u hu p3 a3 w3 hf3 he3 hd3=>G u (t2 u hu) p3 a3 w3 hf3 (hex.trans he3) hd3).1
  |goto l=>simp[BM]at o
  |refuse s=>simp[BM]at o
end
section
variable {C:Ctx}{P:Program}{p:Pl}{h:H}{w:World}{fr:Fr}{a:Act}
def dD(C:Ctx)(fr:Fr)(h:H):ResultVar->Option V
 | .tmp t=>some<|fr.get t
 | .cell a t=>FH C.T h t<|fr.get a
def Q2(C:Ctx)(fr:Fr)(h:H):List ResultVar->Option (List V)
 |[]=>some []
 |r::c=>match dD C fr h r,Q2 C fr h c with
  |some v,some vs=>some (v::vs)
  |_,_=>none
def Sm(C:Ctx)(fr:Fr)(h:H)(c:List ResultVar):Option V:=
 match Q2 C fr h c with
 |some [v]=>some v
 |some vs=>some<|.tup vs
 |none=>none
def AbU(a:Act):ResultVar->Sem Value
 | .tmp t=>pure<|a.tmps.getD t undef
 | .cell x t=>do loadVar t (<-asAddr (a.tmps.getD x undef))
theorem YR(fn:Func)(a:Act):results fn a.tmps=(do let vs<-fn.results.mapM (AbU a);pure (if h:vs.size=1 then vs[0]else .tuple vs)):=by
 rfl
theorem qG(l:C.T.Ok P)(hr:R p h w)(f:CN p fr a){r:ResultVar}{v:V}(d:dD C fr h r=some v):
  ∃v',(AbU a r).run P w=.ok v' w/\Ae p v v':=by
 cases r with
 |tmp t=>cases d;exact⟨_,rfl,f.2 t⟩
 |cell x t=>
  simp only[dD]at d;obtain⟨v',g,j⟩:=Wd (P:=P) l hr (f.2 x) d;refine⟨v',?_,j⟩;have hp:∃b i,fr.get x=.ptr b i:=by
   unfold FH at d;grind
  obtain⟨b,i,e⟩:=hp;have c:=f.2 x;rw[e]at c;obtain⟨r,n,_,c⟩:=c;rw[c]at g;simp only[AbU,c];exact g
theorem Wg(g:C.T.Ok P)(hr:R p h w)(f:CN p fr a):∀ {e:List ResultVar} {vs:List V},Q2 C fr h e=some vs->
  ∃c:List Value,(e.mapM<|AbU a).run P w=.ok c w/\Ay p vs c
 |[],vs,d=>by cases d;simp
 |r::e,vs,d=>by
  unfold Q2 at d;split at d
  case h_2=>cases d
  rename_i v l i j;cases d;obtain⟨v',m,o⟩:=qG (P:=P) g hr f i;obtain⟨c,g3,g4⟩:=Wg g hr f j;simp_all
theorem AbJ(l:C.T.Ok P)(hr:R p h w)(j:CN p fr a){fn:Func}{v:V}(e:Sm C fr h fn.results.toList=some v):∃v',(results fn a.tmps).run P w=.ok v' w/\Ae p v v':=by
 unfold Sm at e;cases i:Q2 C fr h fn.results.toList with
 |none=>grind
 |some vs=>
  obtain⟨c,q,f⟩:=Wg (P:=P) l hr j i;have r:=f.length;have d:(results fn a.tmps).run P w=.ok (if h:c.toArray.size=1 then c.toArray[0]else .tuple c.toArray) w:=by
   grind [YR,zk,Array.mapM_eq_mapM_toList,Sem.run_map,zj,Sem.run_pure]
  refine⟨_,d,?_⟩;simp only[i]at e;cases vs with
  |nil=>
   grind [Ae]
  |cons x g=>
   cases g with
   |nil=>
    obtain⟨y,rfl,m⟩:=f.one;grind
   |cons o g=>
    cases e;rw[dif_neg ah];simp_all [Ae]
def XC:List V->Nat->PM V->PM V
 |[],_,m=>m
 |v::vs,i,m=>XC vs (i+1)<|m.set i<|some v
def Ox(n:Nat)(args:List V):Fr:=⟨args.length+(n-args.length),XC args 0 .leaf⟩
theorem NV:∀(vs:List V) (i:Nat) (m:PM V) (t:Nat),(XC vs i m).get t=if i<=t/\t<i+vs.length then vs[t-i]? else m.get t
 |[],i,m,t=>by simp[XC];omega
 |v::vs,i,m,t=>by
  unfold XC;rw[NV vs (i+1) _ t];by_cases e:t=i
  ·subst e;rw[wc ae,wd<|by simp];simp
  ·by_cases c:i+1<=t/\t<i+1+vs.length
   ·grind
   ·rw[wc c,wc ah];simp[e]
theorem sT{args:List V}{args':Array Value}(f:Ay p args args'.toList)(n:Nat):CN p (Ox n args) { tmps:=args'++Array.replicate (n-args'.size) undef,defers:=[] }:=by
 have g:=f.length;simp at g;refine⟨by simp[Ox,g],fun t=>?_⟩;unfold Ox Fr.get;rw[NV];by_cases e:t<args.length
 ·rw[wd ae];obtain⟨u,l,j⟩:=f.get (i:=t) (d:=args[t]) (by simp[e]);have c:args'[t]?=some u:=ah
  simp only[Nat.sub_zero,List.getElem?_eq_getElem e,Option.getD_some];rw[zl,Array.getElem?_append_left ae,c];exact j
 ·have:(args'++Array.replicate (n-args'.size) undef).getD t undef=undef:=by
   rw[zl,Array.getElem?_append_right ae];grind
  simp_all [Ae,undef]
def Hx:List Nat->H->Option H
 |[],h=>some h
 |b::c,h=>match h.get b with
  |some (.defd true)=>Hx c<|h.put b<|.defd false
  |_=>none
theorem SE{fn:Func}{tmps:Array Value}{n:Nat}:∀ {ds:List Nat} {l:List Deferred} {p:Pl} {h:H} {w:World} {g:H},Ia p ds l->R p h w->Hx ds h=some g->
  ∃d,Ext p h w p g d/\∀f:Ending->World->Prop,(∃v,(results fn tmps).run P d=.ok v d/\f (.returned v) d)->LeavesInM zp n P fn tmps f l .returning w
 |[],l,p,h,w,g,i,hr,e=>by
  cases e;cases (show l=[]from i);exact⟨w,zo hr,fun f hR=>hR⟩
 |b::q,l,p,h,w,g,i,hr,e=>by
  unfold Hx at e;split at e
  case h_2=>cases e
  rename_i o;obtain⟨r,m,l',hp,rfl,j⟩:=i;obtain⟨r',m',x,k1,k2,k3⟩:=hr.obj _ _ o;rw[hp]at k1;cases k1;subst k3;have c:=Ext.put hr o hp (o':=.defd false) (x':=.deferred none) (by rfl) (w':=w.putObj r<|.deferred none) rfl rfl rfl rfl;obtain⟨d,g1,g2⟩:=SE (fn:=fn) (tmps:=tmps) (n:=n) j c.rel e;exact⟨d,c.trans g1,fun f hR=>⟨by simp,.inl ⟨r,_,rfl,run_takeDeferred k2,g2 f hR⟩⟩⟩
def Uz(C:Ctx)(m:Nat)(call:DP)(b:Nat)(ls:LS)(fr:Fr)(h:H):Option (List<|V×H):=
 match BM C call (some b) false m ls.asg fr h []with
 |some l=>bl l fun x=>match x.e,x.h.get b with
  | .normal,some (.loop l1)=>match l1.st with
   | .ready=>match BM C call (some b) false m ls.body x.fr (x.h.put b<|.loop { l1 with st:=.busy }) x.ds with
    |some d=>bl d fun y=>match y.h.get b with
     |some (.loop c)=>match y.e with
      | .normal=>some [(.bool true,y.h.put b<|.loop { c with st:=.ready,pend:=none })]
      | .ret=>some [(.bool false,y.h.put b<|.loop { c with st:=.done,pend:=some .ret })]
      | .exit i=>some [(.bool false,y.h.put b<|.loop { c with st:=.done,pend:=some (.exit i) })]
     |_=>none
    |none=>none
   |_=>none
  |_,_=>none
 |none=>none
mutual
def MH:V->List Nat
 | .ptr b _| .sl b _ _ _ _| .map b| .yld b=>[b]
 | .fn _ a b=>JW a++JW b
 | .iface _ v=>MH v
 | .agg l| .tup l=>JW l
 |_=>[]
def JW:List V->List Nat
 |[]=>[]
 |v::vs=>MH v++JW vs
end
def yQ:O->List Nat
 | .cells cs _ _=>JW cs
 | .map es _=>es.flatMap fun e=>MH e.1++MH e.2.1
 |_=>[]
def reach(h:H)(n0:Nat):Nat->List Nat->List Nat->List Nat
 |0,_,acc=>acc
 |_+1,[],acc=>acc
 |f+1,b::c,acc=>bif zw b n0||acc.any (zc b)then reach h n0 f c acc
  else match h.get b with
   |some o=>reach h n0 f (yQ o++c) (b::acc)
   |none=>reach h n0 f c acc
def Pn(QC:List Nat):Nat->Nat->H->H
 |0,_,h=>h
 |f+1,b,h=>Pn QC f (b+1)<|bif QC.any (zc b)then h else h.kill b
def Ads:O->Bool
 | .loop l=>match l.st with| .exhausted=>true|_=>false
 |_=>false
def Wn:Option O->Option O
 |some o=>bif Ads o then none else some o
 |none=>none
def UG:PM O->PM O
 | .leaf=>.leaf
 | .node l v r=>.node (UG l) (Wn v)<|UG r
theorem LX:∀(q:H5) (m:PM O),q.get (UG m)=Wn (q.get m)
 |H5.here,PM.leaf=>rfl
 |H5.l _,PM.leaf=>rfl
 |H5.r _,PM.leaf=>rfl
 |H5.here,PM.node _ _ _=>rfl
 |H5.l q,PM.node l _ _=>LX q l
 |H5.r q,PM.node _ _ r=>LX q r
def H.sift(h:H):H:=⟨UG h.m,h.nx⟩
theorem Wr{p:Pl}{h:H}{w:World}(hr:R p h w):Ext p h w p h.sift w:=by
 have sub:∀b o,h.sift.get b=some o->h.get b=some o:=by
  intro b o c;have:h.sift.get b=Wn (h.get b):=LX _ _;rw[this]at c;cases f:h.get b with
  |none=>rw[f]at c;cases c
  |some x=>
   grind [Wn]
 refine⟨(by simp),⟨hr.len,fun b o c=>hr.obj b o<|sub b o c,fun b b' o o' r n n' c j=>hr.inj b b' o o' r n n' (sub b o c) ah⟩,Nat.le_refl _,(by simp),fun r m=>?_,rfl,rfl,rfl,fun r e g=>⟨rfl,?_⟩,Nat.le_refl _⟩
 ·grind [Im]
 ·obtain⟨b,n,cs,t,fz,d,i,l⟩:=g;refine .inl ⟨b,n,cs,t,fz,?_,i,l⟩;rw[show h.sift.get b=Wn (h.get b)from LX _ _,d];rfl
def gcO(n0:Nat)(x:V×H):V×H:=(x.1,Pn (reach x.2 n0 1000 (MH x.1) []) (x.2.nx-n0) n0 x.2.sift)
def fE:List (V×V×Nat)->List (V×V×Nat)->Bool
 |[],[]=>true
 |(a,b,c)::l,(e,b',d)::l'=>V.beq a e&&V.beq b b'&&zc c d&&fE l l'
 |_,_=>false
def QF:List Nat->List Nat->Bool
 |[],[]=>true
 |a::l,b::l'=>zc a b&&QF l l'
 |_,_=>false
def AdY:O->O->Bool
 | .cells cs t fz,.cells cs' i fz'=>V.MD cs cs'&&zc t i&&zc fz.1 fz'.1&&zc fz.2 fz'.2
 | .map es c,.map d g=>fE es d&&zc c g
 | .siter s n,.siter f n'=>s==f&&zc n n'
 | .miter none a l b,.miter none e l' b'=>zc a e&&QF l l'&&zc b b'
 | .miter (some m) a l b,.miter (some j) e l' b'=>zc m j&&zc a e&&QF l l'&&zc b b'
 | .defd a,.defd b=>a==b
 |_,_=>false
def S7:Option O->Option O->Bool
 |none,none=>true
 |some a,some b=>AdY a b
 |_,_=>false
def Q4:PM O->PM O->Bool
 | .leaf,.leaf=>true
 | .node l v r,.node l' v' c=>S7 v v'&&Q4 l l'&&Q4 r c
 |_,_=>false
def ZO(x y:V×H):Bool:=V.beq x.1 y.1&&zc x.2.nx y.2.nx&&Q4 x.2.m y.2.m
def dedup:List (V×H)->List (V×H)
 |[]=>[]
 |x::l=>let r:=dedup l;bif r.any (ZO x)then r else x::r
def Qu(n0:Nat):List (V×H)->List (V×H)
 |[]=>[]
 |[x]=>[x]
 |l=>dedup<|l.map<|gcO n0
theorem dC:∀ {a b:List (V×V×Nat)},fE a b=true->a=b
 |[],[],_=>rfl
 |[],_::_,h=>by simp[fE]at h
 |_::_,[],h=>by simp[fE]at h
 |(a,b,c)::l,(e,b',d)::l',h=>by
  simp only[fE,zd]at h;rw[V.beq_eq h.1.1.1,V.beq_eq h.1.1.2,ze h.1.2,dC h.2]
theorem QS:∀ {a b:List Nat},QF a b=true->a=b
 |[],[],_=>rfl
 |[],_::_,h=>by simp[QF]at h
 |_::_,[],h=>by simp[QF]at h
 |a::l,b::l',h=>by
  simp only[QF,zd]at h;rw[ze h.1,QS h.2]
theorem Z9{a b:O}(h:AdY a b=true):a=b:=by
 unfold AdY at h;split at h
 ·grind [V.IB,ze]
 ·grind [dC,ze]
 ·simp_all
 ·grind [ze,QS]
 ·grind [ze,QS]
 ·grind
 grind
theorem Rp:∀ {a b:PM O},Q4 a b=true->a=b
 | .leaf,.leaf,_=>rfl
 | .leaf,.node _ _ _,h=>by simp[Q4]at h
 | .node _ _ _,.leaf,h=>by simp[Q4]at h
 | .node l v r,.node l' v' c,h=>by
  simp only[Q4,zd]at h;rw[Rp h.1.2,Rp h.2];congr 1;cases v<;>cases v'<;>first|rfl|exact wi some (Z9 h.1.1)|(simp[S7]at h)
theorem uV{x y:V×H}(h:ZO x y=true):x=y:=by
 simp only[ZO,zd]at h;obtain⟨v,m,n⟩:=x;obtain⟨v',m',n'⟩:=y;grind [V.beq_eq,ze,Rp]
theorem Ns:∀ {l:List (V×H)} {x:V×H},x∈l->x∈dedup l
 |a::l,x,h=>by
  unfold dedup;simp only;cases c:(dedup l).any (ZO a)with
  |true=>
   rcases zr.1 h with rfl|h
   ·grind [uV]
   ·exact Ns h
  |false=>
   rcases zr.1 h with rfl|h
   ·simp
   ·exact List.mem_cons_of_mem _<|Ns h
theorem JR(QC:List Nat):∀(f b:Nat) {p:Pl} {h:H} {w:World},R p h w->Ext p h w p (Pn QC f b h) w
 |0,_,_,_,_,hr=>zo hr
 |f+1,b,p,h,w,hr=>by
  unfold Pn;cases QC.any (zc b)with
  |true=>exact JR QC f (b+1) hr
  |false=>exact(Ext.kill hr b).trans<|JR QC f (b+1)<|hr.kill b
theorem Ho.merge{l:List (V×H)}{n0:Nat}{e:Ending}{w':World}(i:Ho p h w l e w'):Ho p h w (Qu n0 l) e w':=by
 obtain⟨v,h',v',p',d,f,g,c⟩:=i;unfold Qu;split
 ·cases d
 ·exact⟨v,h',v',p',d,f,g,c⟩
 ·exact⟨v,(gcO n0 (v,h')).2,v',p',Ns<|zu.2 ⟨_,d,rfl⟩,f,g,c.trans<|(Wr c.rel).trans<|JR _ _ _ (Wr c.rel).rel⟩
def Bh(C:Ctx):Nat->DP
 |0=>fun _ _=>none
 |n+1=>fun c h=>
  match c with
  | .rnd b ls fr=>Uz C n (Bh C n) b ls fr h
  | .fn f args=>
   match C.spec f with
   |some q=>match q args h with
    |some x=>some [x]
    |none=>none
   |none=>
    match C.fn f with
    |none=>none
    |some i=>
     match BM C (Bh C n) none i.cert n i.body (Ox i.ntmps args) h []with
     |none=>none
     |some l=>match (bl l fun x=>match x.e with
      | .exit _=>none
      |_=>match Hx x.ds x.h with
       |some d=>match Sm C x.fr d i.results.toList with
        |some v=>some [(v,d)]
        |none=>none
       |none=>none)with
      |some r=>some<|bif C.mg then Qu h.nx r else r
      |none=>none
theorem Og(hr:R p h w){b r n:Nat}{ls:LS}(d:h.get b=some (.loop ls))(hp:p[b]?=some (r,n)):
  ∃rec:Loop,w.heap[r]?=some (.loop rec)/\rec.state=ls.st/\rec.pending=ls.pend/\∀(st:LoopState) (c:Option Code),Ext p h w p (h.put b<|.loop { ls with st:=st,pend:=c }) (w.putObj r<|.loop { rec with state:=st,pending:=c }):=by
 obtain⟨i,n',x,u1,u2,f0,tmps,rd,e,f,g,rfl⟩:=hr.obj _ _ d;rw[hp]at u1;cases u1;exact⟨_,u2,rfl,rfl,fun st c=>Ext.put hr d hp (o':=.loop { ls with st:=st,pend:=c }) ⟨f0,tmps,rd,e,f,g,rfl⟩ rfl rfl rfl rfl⟩
theorem NB(G:C.Ok P){call:DP}(g:call.Ok C P)(I:P.follows .mixedOrders=true){b:Nat}{ls:LS}{l:List (V×H)}{k m E:Nat}(q:Uz C E call b ls fr h=some l){f:FuncId}{tmps:Array Value}
  (hr:R p h w) (K:Gl C p) (hp:p[b]?=some (k,m)) (T:EY p fr tmps):RoundIn zp 0 P k f tmps ls.asg ls.body w (Ho p h w l):=by
 unfold Uz at q;split at q
 case h_2=>cases q
 rename_i L S;refine roundIn_of_wpIn trivial ?_;refine(MX (k:=some k) (n:=0) G g I E false ls.asg (by simp) S p { tmps:=tmps,defers:=[] } w _ hr K T rfl ⟨m,hp⟩ fun x Y z a1 M t c D=>?_).1;obtain⟨L1,j,g2⟩:=JV q x Y;split at j
 case h_2=>cases j
 rename_i l1 r u;split at j
 case h_2=>cases j
 rename_i s;split at j
 case h_2=>cases j
 rename_i L2 A;rw[r];obtain⟨rec,q1,N,q3,q4⟩:=Og c.rel u<|c.at hp;refine⟨_,run_beginRound q1<|N.trans s,?_⟩;have o:Ext z x.h M z (x.h.put b<|.loop { l1 with st:=.busy }) (M.putObj k<|.loop { rec with state:=.busy }):=by
  grind
 have ex:=c.trans o;refine(MX (k:=some k) (n:=0) G g I E false ls.body (by simp) A z a1 _ _ o.rel (K.ext ex) t D ⟨m,c.at hp⟩ fun y U v a2 Z X d W=>?_).1;obtain⟨L3,t1,t2⟩:=JV j y U;split at t1
 case h_2=>cases t1
 rename_i l3 B;obtain⟨J,s1,s2,s3,s4⟩:=Og d.rel B<|d.at (c.at hp);cases O:y.e with
 |normal=>
  exact⟨_,_,run_endRound none s1,.bool true,_,.bool true,v,ah,rfl,by rfl,ex.trans<|d.trans<|s4 .ready none⟩
 |ret=>
  exact⟨_,_,run_endRound (some .ret) s1,.bool false,_,.bool false,v,ah,rfl,by rfl,ex.trans<|d.trans<|s4 .done<|some .ret⟩
 |exit i=>
  exact⟨_,_,(by grind [run_endRound]),.bool false,_,.bool false,v,ah,rfl,by rfl,ex.trans<|d.trans<|s4 .done<|some<|.exit i⟩
def G7(C:Ctx):Prop:=∀f i,C.fn f=some i->i.cert=true->D3 i.body=true
theorem HS(r:C.Ok P)(t:G7 C)(y:P.follows .mixedOrders=true):∀n,(Bh C n).Ok C P
 |0=>⟨fun f args h l c=>(by cases c),fun b ls fr h l c=>(by cases c)⟩
 |n+1=>by
  refine⟨fun f args h l c p w args' hr z I=>?_,fun b ls fr h l c p w k m f tmps hr z hb hp U=>NB r (HS r t y n) y c hr z hp U⟩;unfold Bh at c;simp only at c;split at c
  case h_1=>
   rename_i q X;split at c
   case h_2=>cases c
   rename_i x E;cases c;refine(r.spec f q X p h w args args' x.1 x.2 hr z I E).mono ?_;rintro e w' ⟨v',p',rfl,o,K⟩;exact⟨x.1,x.2,v',p',(by simp),rfl,o,K⟩
  case h_2=>
   split at c
   case h_1=>cases c
   rename_i i J;split at c
   case h_1=>cases c
   rename_i L S;split at c
   case h_2=>cases c
   rename_i lr D;cases c;refine Calls.mono ?_ (fun e w' G=>(show Ho p h w (bif C.mg then Qu h.nx lr else lr) e w' from by cases C.mg with|true=>exact Ho.merge G|false=>exact G));have c:=D;generalize lr=l at c;obtain⟨fn,s,h2,h3,h4,R⟩:=r.fn f i J;have Y:=t f i J;refine callsIn_wide.1<|callsIn_of_wp_marks (F:=zp) (n:=0) s h3 trivial ?_;rw[h4];refine(MX (k:=none) (n:=0) r (HS r t y n) y n i.cert i.body Y S p _ w _ hr z (sT I i.ntmps) rfl trivial fun x E O a1 Z A u B=>?_).1;obtain⟨L1,o,K⟩:=JV c x E;have fin:∀ {s:H} {v:V},Hx x.ds x.h=some s->Sm C x.fr s i.results.toList=some v->L1=[(v,s)]->LeavesInM zp 0 P fn a1.tmps (Ho p h w l) a1.defers .returning Z:=by
    intro s v g d W;obtain⟨w2,q1,N⟩:=SE (P:=P) (fn:=fn) (tmps:=a1.tmps) (n:=0) B u.rel g;obtain⟨v',s1,s2⟩:=AbJ (P:=P) (fn:=fn) r.T q1.rel (A.ext q1) (by rw[R];exact d);exact N _ ⟨v',s1,v,s,v',O,ah,rfl,s2,u.trans q1⟩
   split at o
   case h_1=>cases o
   case h_2=>
    split at o
    case h_2=>cases o
    rename_i h2 g;split at o
    case h_2=>cases o
    rename_i v d;cases o;cases M:x.e with
    |normal=>exact fin g d rfl
    |ret=>exact fin g d rfl
    |exit j=>grind
end
def lP(P:Program)(t:TypeId):Option TI:=
 match P.info? t with
 |some i=>match i.zero with
  |some z=>match cv z with
   |some v=>some ⟨i.size,i.bytes,v⟩
   |none=>none
  |none=>none
 |none=>none
theorem lO{P:Program}{t:TypeId}{i:TI}(h:lP P t=some i):∃j v,P.info? t=some j/\j.size=i.size/\j.bytes=i.bytes/\j.zero=some v/\∀p,Ae p i.zv v:=by
 unfold lP at h;split at h
 case h_2=>cases h
 split at h
 case h_2=>cases h
 split at h
 case h_2=>cases h
 cases h;simp_all [Yb]
def zN(P:Program)(t:TypeId):Option FK:=
 match P.underlying t with
 |some (.int k)=>some<|.int k
 |some .string=>some .str
 |some .bool=>some .bool
 |_=>none
def PW(P:Program):List Field->Nat->Option (List FK)
 |[],_=>some []
 | f :: fs, i => if f.name = "_" \/ f.offset ≠ i then none else match zN P f.type, PW P fs (i + 1) with
  |some k,some ks=>some (k::ks)
  |_,_=>none
def YB(P:Program)(t:TypeId):Option (List FK):=
 match P.underlying t with
 |some (.struct fs)=>if P.stoodInHeld t=true\/P.eqGuardType P.depth t=true then none else PW P fs.toList 0
 |_=>none
def Yn:TypeDesc->Bool
 | .pointer _=>false
 |_=>true
def qO(P:Program)(t:TypeId)(name:String):Option FuncId:=
 match P.info? t,P.underlying t with
 |some j,some d=>match j.methods.find? (·.name==name)with
  |some m=>match m.path,m.func with
   |⟨[]⟩,some (f,false)=>bif Yn d then some f else none
   |_,_=>none
  |none=>none
 |_,_=>none
theorem pC{P:Program}{t:TypeId}{name:String}{f:FuncId}(h:qO P t name=some f):∃j m d,P.info? t=some j/\j.methods.find? (·.name==name)=some m/\m.path= #[]/\m.func=some (f,false)/\P.underlying t=some d/\∀e,d≠ .pointer e:=by
 unfold qO at h;split at h
 case h_2=>cases h
 rename_i j d c g;split at h
 case h_2=>cases h
 split at h
 case h_2=>cases h
 cases hp:Yn d with
 |false=>grind
 |true=>
  grind [Yn]
def Acr(P:Program):Cj:=⟨P.underlying,lP P,YB P,qO P⟩
section
variable {P:Program}{p:Pl}
theorem Ru{t:TypeId}{k:FK}(h:zN P t=some k):∃d,P.underlying t=some d/\EE d=false/\(∀e,d≠ .interface e)/\match k with
  | .int k=>d=.int k
  | .str=>d=.string
  | .bool=>d=.bool:=by
 unfold zN at h;split at h
 case h_1=>rename_i c;cases h;exact⟨_,c,rfl,(by simp),rfl⟩
 case h_2=>rename_i c;cases h;exact⟨_,c,rfl,(by simp),rfl⟩
 case h_3=>rename_i c;cases h;exact⟨_,c,rfl,(by simp),rfl⟩
 grind
theorem Qt{t:TypeId}{d:TypeDesc}(g:P.underlying t=some d)(e:EE d=false){cs:Array Value}{i:Nat}{v:Value}(f:cs[i]?=some v)(w:World):(part t cs i).run P w=.ok v w:=by
 unfold part isAgg;have c:(underlying t).run P w=.ok d w:=by simp_all [underlying]
 simp only[zk,c,zj];cases d<;>first|(cases e;done)|simp[f]
theorem cL{t:TypeId}{k:FK}(h:zN P t=some k){a b:V}{f b':Value}(e:k.ok a=true)(c:k.ok b=true)(g:Ae p a f)(i:Ae p b b'){r:Bool}(m:EK a b=some r)(d:Nat)(w:World):
  (Op.equalIn (d+1) t f b').run P w=.ok r w:=by
 obtain⟨D,j,_,_,l⟩:=Ru h;cases k with
 |int k=>
  cases a<;>simp only[FK.ok]at e<;>try (cases e;done)
  cases b<;>simp only[FK.ok]at c<;>try (cases c;done)
  grind [Ae,EK,run_equalIn_int]
 |str=>
  cases a<;>simp only[FK.ok]at e<;>try (cases e;done)
  cases b<;>simp only[FK.ok]at c<;>try (cases c;done)
  grind [Ae,EK,run_equalIn_string,I7]
 |bool=>
  cases a<;>simp only[FK.ok]at e<;>try (cases e;done)
  cases b<;>simp only[FK.ok]at c<;>try (cases c;done)
  grind [Ae,EK,run_equalIn_bool']
theorem TG:∀ {ks:List FK} {x:List V},fit ks x=true->ks.length=x.length
 |[],[],_=>rfl
 |[],_::_,h=>by simp[fit]at h
 |_::_,[],h=>by simp[fit]at h
 |k::ks,v::vs,h=>by
  unfold fit at h;cases c:k.ok v with
  |false=>grind
  |true=>simp only[c,we]at h;simp[TG h]
theorem LH(d:Nat){w:World}{x' y':Array Value}:∀ {fs:List Field} {i:Nat} {ks:List FK},PW P fs i=some ks->∀ {x y:List V} {u v:List Value},fit ks x=true->fit ks y=true->Ay p x u->Ay p y v->
  (∀j a,u[j]?=some a->x'[i+j]?=some a)->(∀j a,v[j]?=some a->y'[i+j]?=some a)->∀ {r:Bool},Ca x y=some r->(Op.eqFields (d+1) x' y' fs).run P w=.ok r w
 |[],i,ks,g,x,y,u,v,G,E,_,_,_,_,r,t=>by
  cases g;cases x with
  |cons _ _=>simp[fit]at G
  |nil=>cases y with
   |cons _ _=>simp[fit]at E
   |nil=>simp_all [Ca,Op.eqFields]
 |f::fs,i,ks,g,x,y,u,v,G,E,N,T,M,L,r,t=>by
  unfold PW at g;split at g
  case isTrue=>cases g
  have q : f.name ≠ "_" := ah;have o:f.offset=i:=ae;split at g
  case h_2=>cases g
  rename_i k m A W;cases g;cases x with
  |nil=>simp[fit]at G
  |cons a x=>cases y with
   |nil=>simp[fit]at E
   |cons b y=>
    obtain⟨O,X,rfl,s,B⟩:=N;obtain⟨b',v',rfl,hv1,hv2⟩:=T;have J:k.ok a=true:=by grind [fit]
    have K:k.ok b=true:=by grind [fit]
    have S:fit m x=true:=by grind [fit]
    have U:fit m y=true:=by grind [fit]
    obtain⟨D,e,l,_,_⟩:=Ru A;have I:=Qt e l (M 0 O rfl) w;have pb:=Qt e l (L 0 b' rfl) w;simp only[Nat.add_zero]at I pb;simp only[Op.eqFields,q,vc,not_false_eq_true,wm,zk,o,I,pb,zj];unfold Ca at t;split at t
    case h_1=>
     rename_i z;rw[cL A J K s hv1 z];exact LH d W S U B hv2 (fun j c R=>by have:=M (j+1) c ah;grind) (fun j c R=>by have:=L (j+1) c ah;grind) t
    case h_2=>
     rename_i z;rw[cL A J K s hv1 z];simp_all
    grind
theorem KW{b:Bool}{w:World}{x':Array Value}:∀ {fs:List Field} {i:Nat} {ks:List FK},PW P fs i=some ks->∀ {x:List V} {u:List Value},fit ks x=true->Ay p x u->
  (∀j a,u[j]?=some a->x'[i+j]?=some a)->
  (forIn (m := Sem) fs PUnit.unit fun f _ => if f.name ≠ "_" then do
    zm b 9999 f.type (<-part f.type x' f.offset)
    pure (ForInStep.yield zt)
   else do
    pure zt
    pure (ForInStep.yield zt)).run P w=.ok zt w
 |[],i,ks,e,x,u,t,_,_=>by simp
 |f::fs,i,ks,e,x,u,t,v,r=>by
  unfold PW at e;split at e
  case isTrue=>cases e
  split at e
  case h_2=>cases e
  rename_i k q y E;cases e;cases x with
  |nil=>simp[fit]at t
  |cons a x=>
   obtain⟨s,K,rfl,z,o⟩:=v;have A:fit q x=true:=by grind [fit]
   obtain⟨D,l,g,B,_⟩:=Ru y;have I:=Qt l g (r 0 s rfl) w;have G:(zm b 9999 f.type s).run P w=.ok () w:=by
    unfold zm;have d:(underlying f.type).run P w=.ok D w:=by simp_all [underlying]
    simp only[zk,d,zj];cases D<;>first|rfl|grind|grind
   have J:=KW (b:=b) (w:=w) (x':=x') E A o (fun j c L=>by have:=r (j+1) c ah;grind);simp_all
theorem Adb(P:Program):(Acr P).Ok P:=by
 have key:∀t ks,YB P t=some ks->∃fs,P.underlying t=some (.struct fs)/\P.stoodInHeld t=false/\P.eqGuardType P.depth t=false/\PW P fs.toList 0=some ks:=by
  grind [YB]
 refine⟨fun t d h=>h,fun t i h=>lO h,?_,?_,?_,?_,fun t name f h=>pC h⟩
 ·intro t ks h p x y x' y' r w m q o s u;obtain⟨fs,c,l,g,j⟩:=key t ks h;grind [Program.fieldsOf,Op.equal,Op.maxDepth,run_equalIn_struct,LH]
 ·intro t ks h;obtain⟨fs,c,l,g,j⟩:=key t ks h;exact g
 ·intro t ks h p x x' b w m o;obtain⟨fs,c,l,g,j⟩:=key t ks h;unfold zm;have e:(underlying t).run P w=.ok (.struct fs) w:=by simp_all [underlying]
  have:=KW (b:=b) (w:=w) (x':=x') j m o (by simp);simp_all
 ·intro t ks h;obtain⟨fs,c,_⟩:=key t ks h;exact⟨fs,c⟩
end
def R3(P:Program)(ct:FuncId->Bool)(f:FuncId):Option Fn:=
 match P.funcs[f]? with
 |some fn=>match fn.body with
  | some b => if fn.name = "runtime.NumGoroutine" then none else some ⟨fn.ntmps, fn.results, b, ct f⟩
  |none=>none
 |none=>none
theorem Aao {P : Program} {ct : FuncId -> Bool} {f : FuncId} {i : Fn} (h : R3 P ct f = some i) : ∃ fn, P.funcs[f]? = some fn /\ fn.name ≠ "runtime.NumGoroutine" /\ fn.body = some i.body /\ fn.ntmps = i.ntmps /\ fn.results = i.results := by
 unfold R3 at h;grind
inductive PK where
 |indexByte
 |add64
 |sub64
 |count
 |noEsc
def RC:Array Value->Sem Value:=fun args=>do
 let (x, y, b) <- Extern.MathBitsCarry.three "Sub64" args
 pure (zn ((x+zi-y-b) % zi) (if x<y+b then 1 else 0))
def PK.entry:PK->Array Value->Sem Value
 | .indexByte=>Extern.BytealgIndexByte.indexByte
 | .add64=>add64Entry
 | .sub64=>RC
 | .count=>Extern.BytealgCount.count
 | .noEsc=>Extern.AbiNoEscape.same
def VK:Option Nat->V
 |some i=>i64 i
 |none=>.int .i64<| -1
def uG:Nat:=18446744073709551616
def PK.run:PK->List V->H->Option (V×H)
 | .indexByte,[.str s,.int .u8 c],h=>some (VK<|s.findIdx? fun x=>x==c.toNat.toUInt8,h)
 | .add64,[.int .u64<|.ofNat x,.int .u64<|.ofNat y,.int .u64<|.ofNat c],h=>
  bif Nat.ble c 1 then some (.tup [.int .u64<|.ofNat<|(x+y+c) % uG,.int .u64<|.ofNat<|(x+y+c)/uG],h)else none
 | .sub64,[.int .u64<|.ofNat x,.int .u64<|.ofNat y,.int .u64<|.ofNat c],h=>
  bif Nat.ble c 1 then some (.tup [.int .u64<|.ofNat<|(x+uG-y-c) % uG,.int .u64<|.ofNat<|bif zw x (y+c)then 1 else 0],h)else none
 | .count,[.str s,.int .u8 c],h=>some (.int .i64 (s.foldl (fun n x=>bif x==c.toNat.toUInt8 then Nat.add n 1 else n) 0:Nat),h)
 | .noEsc,[.ptr b o],h=>some (.ptr b o,h)
 |_,_,_=>none
theorem Sj(s:Rd)(c:UInt8):((List.range (bytesOf s).size).find? fun i=>(bytesOf s)[i]! ==c)=s.findIdx? fun x=>x==c:=by
 have key:∀(l pre:Rd),pre++l=s->((List.range' pre.length l.length).find? fun i=>(bytesOf s)[i]! ==c)=(l.findIdx? fun x=>x==c).map (· +pre.length):=by
  intro l;induction l with
  |nil=>simp
  |cons a l e=>
   intro pre hp;have d:(bytesOf s)[pre.length]! =a:=by
    grind [Ch,bytesOf,ByteArray.getElem_eq_getElem_data]
   rw[List.length_cons,List.range'_succ,List.find?_cons,d,List.findIdx?_cons];cases f:a==c with
   |true=>simp
   |false=>
    have:=e (pre++[a]) ah;simp only[List.length_append,List.length_singleton]at this;simp only[this,Bool.false_eq_true,vg,Option.map_map];congr 1;grind
 have:=key s [] rfl;simp_all [List.range_eq_range',Ch]
theorem Ay.three{p:Pl}{a b c:V}{l:List Value}(h:Ay p [a,b,c] l):∃x y z,l=[x,y,z]/\Ae p a x/\Ae p b y/\Ae p c z:=by
 simp only[Ay]at h;grind
theorem PK.sim{P:Program}{k:PK}{p:Pl}{h:H}{w:World}{args:List V}{args':Array Value}{v:V}{h':H}(g:Ay p args args'.toList)(d:k.run args h=some (v,h')):
  h'=h/\∃v',(k.entry args').run P w=.ok v' w/\Ae p v v':=by
 unfold PK.run at d;split at d
 case h_6=>cases d
 case h_5=>
  cases d;obtain⟨x,i,e⟩:=g.one;have:args'= #[x]:=ah;subst this;exact⟨rfl,x,(by rfl),e⟩
 case h_1=>
  rename_i s c;cases d;obtain⟨x,y,i,e,f⟩:=g.two;have:args'= #[x,y]:=ah;subst this;subst e f;refine⟨rfl,_,run_indexByte_string (bytesOf s) c w,?_⟩;unfold firstIdx;rw[Sj];grind [VK,i64,Ae]
 case h_2=>
  rename_i x y c;rw[show Nat.ble c 1=decide (c<=1)from by rw[Bool.eq_iff_iff];simp]at d;by_cases j:c<=1
  ·simp only[j,decide_true,we,zf,zq]at d;obtain⟨rfl,rfl⟩:=d;obtain⟨x',y',z',i,e,f,h3⟩:=g.three;have:args'= #[x',y',z']:=ah;subst this;subst e f h3;refine⟨rfl,_,run_add64 x y c ae ae ae ae w,?_⟩;simp_all [Ae,uG]
  grind
 case h_3=>
  rename_i x y c;rw[show Nat.ble c 1=decide (c<=1)from by rw[Bool.eq_iff_iff];simp]at d;by_cases j:c<=1
  ·simp only[j,decide_true,we,zf,zq]at d;obtain⟨rfl,rfl⟩:=d;obtain⟨x',y',z',i,e,f,h3⟩:=g.three;have:args'= #[x',y',z']:=ah;subst this;subst e f h3;have key:(RC #[.int .u64 x,.int .u64 y,.int .u64 c]).run P w=
     .ok (zn ((x+zi-y-c) % zi)<|if x<y+c then 1 else 0) w:=by
    have:c=0\/c=1:=ae
    rcases this with rfl|rfl<;>rfl
   refine⟨rfl,_,key,?_⟩;refine⟨_,rfl,?_⟩;simp only[Bm,J4,vf,Ae];refine⟨rfl,?_⟩;grind [Hz]
  grind
 case h_4=>
  rename_i s c;cases d;obtain⟨x,y,i,e,f⟩:=g.two;have:args'= #[x,y]:=ah;subst this;subst e f;refine⟨rfl,_,Lib.run_countString (bytesOf s) c w,?_⟩;have key:∀(l:Rd) (n:Nat),l.foldl (fun n x=>bif x==c.toNat.toUInt8 then Nat.add n 1 else n) n=n+Lib.countByte l c.toNat.toUInt8:=by
   intro l;induction l with
   |nil=>grind [Lib.countByte]
   |cons x l m=>
    intro n;rw[List.foldl_cons,m];unfold Lib.countByte;grind
  simp_all [Ae,bytesOf]
def Tz(L:List (FuncId×PK))(f:FuncId):Option (List V->H->Option (V×H)):=
 match L with
 |[]=>none
 |(g,k)::L=>bif zc g f then some k.run else Tz L f
structure Lu(P:Program)(x:FuncId×PK):Prop where
 ok : ∃ fn, P.funcs[x.1]? = some fn /\ (fn.name == "runtime.NumGoroutine") = false /\ fn.body.isNone = true /\ Extern.findNext fn = none /\ Extern.find fn = some x.2.entry
theorem cV{P:Program}:∀ {L:List (FuncId×PK)},(∀x∈L,Lu P x)->∀f q,Tz L f=some q->∀(p:Pl) (h:H) (w:World) (args:List V) (args':Array Value) v h',R p h w->Ay p args args'.toList->q args h=some (v,h')->
  ∃v' p' w',(callFunc f args').run P w=.ok (.value v') w'/\Ae p' v v'/\Ext p h w p' h' w'
 |[],_,f,q,c,_,_,_,_,_,_,_,_,_,_=>by cases c
 |(g,k)::L,j,f,q,c,p,h,w,args,args',v,h',hr,i,d=>by
  unfold Tz at c;rw[Bx]at c;by_cases e:g=f
  ·subst e;simp only[decide_true,we,zf]at c;subst c;obtain⟨fn,l,r,s,o,m⟩:=(j (g,k)<|by simp).ok;obtain⟨rfl,v',g1,g2⟩:=PK.sim (P:=P) (w:=w) i d;refine⟨v',p,w,?_,g2,zo hr⟩;simp_all [run_callFunc_extern]
  ·simp only[e,decide_false,wg]at c;exact cV ah f q c p h w args args' v h' hr i d
def Aho:Option (List<|V×H)->Option V
 |some [(v,_)]=>some v
 |_=>none
def aA(C:Ctx)(n:Nat)(f:FuncId)(args:List V)(v:V):Bool:=match Aho (Bh C n (.fn f args) hG)with
 |some x=>V.beq x v
 |none=>false
theorem Zg{C C':Ctx}{P:Program}(D:C.Ok P)(z:G7 C)(I:P.follows .mixedOrders=true){n:Nat}{f:FuncId}{args:List V}{v:V}
  (i:aA C n f args v=true) (J:V.Jm args=true) (q:v.flat=true) {p:Pl} {h:H} {w:World} {args':Array Value} (hr:R p h w) (t:Gl C' p) (K:Gh h) (c:Ay p args args'.toList):
  Calls P f args' w fun e w'=>∃v' p',e=.returned v'/\Ae p' v v'/\Ext p h w p' h w':=by
 unfold aA at i;split at i
 case h_2=>cases i
 rename_i x j;have s:x=v:=V.beq_eq i;subst s;unfold Aho at j;split at j
 case h_2=>cases j
 rename_i l L A;cases j;refine((HS D z I n).fn f args hG _ A _ w args' (AdU hr t K) t.take<|V.Kz J c).mono ?_;rintro e w' ⟨u,h',v',p',g,rfl,B,d⟩;cases zg.1 g;have E:∀r,r<w.heap.size->w'.heap[r]?=w.heap[r]?:=fun r hr=>d.FI t.take r hr
 refine⟨v',p,rfl,V.Dj q B,⟨(by simp),⟨hr.len,fun b o G=>?_,hr.inj⟩,d.size,ah,ah,d.os,d.out,d.tape,ah,d.dr⟩⟩;obtain⟨r,m,y,N,O,M⟩:=hr.obj b o G;grind
def wM(h:H):List (Nat×O)->Bool
 |[]=>true
 |(i,o)::l=>S7 (h.get i) (some o)&&wM h l
theorem cE{h:H}:∀ {l:List (Nat×O)},wM h l=true->∀x∈l,h.get x.1=some x.2
 |[],_,x,c=>by cases c
 |(i,o)::l,d,x,c=>by
  simp only[wM,zd]at d;rcases zr.1 c with rfl|c
  ·cases e:h.get i with
   |none=>grind [S7]
   |some q=>grind [Z9,S7]
  ·exact cE d.2 x c
def goS:List (Nat×O)->Bool
 |[]=>true
 |(_,o)::l=>S7 (some o) (some o)&&goS l
theorem iA:goS FI=true:=by rfl
theorem tV{h:H}(c:Gh h):wM h FI=true:=by
 have key:∀l:List (Nat×O),(∀x∈l,h.get x.1=some x.2)->goS l=true->wM h l=true:=by
  intro l;induction l with
  |nil=>exact fun _ _=>rfl
  |cons x l f=>
   intro d e;simp_all [goS,wM]
 exact key FI c iA
abbrev CM:=List<|FuncId×List V×V
def FM:CM->FuncId->List V->Option V
 |[],_,_=>none
 |(g,a,v)::l,f,args=>bif zc g f&&V.MD a args then some v else FM l f args
def TS:CM->FuncId->Bool
 |[],_=>false
 |(g,_,_)::l,f=>bif zc g f then true else TS l f
def Ij(L:CM)(f:FuncId):Option (List V->H->Option (V×H)):=
 bif TS L f then some (fun args h=>bif wM h FI then(match FM L f args with|some v=>some (v,h)|none=>none)else none)else none
def AV(C:Ctx)(n:Nat):CM->Bool
 |[]=>true
 |(f,a,v)::l=>aA C n f a v&&V.Jm a&&v.flat&&AV C n l
theorem fP{L:CM}{f:FuncId}{args:List V}{v:V}(h:FM L f args=some v){C:Ctx}{n:Nat}(c:AV C n L=true):aA C n f args v=true/\V.Jm args=true/\v.flat=true:=by
 induction L with
 |nil=>cases h
 |cons x l d=>
  obtain⟨g,a,u⟩:=x;simp only[AV,zd]at c;unfold FM at h;cases e:(zc g f&&V.MD a args)with
  |false=>grind
  |true=>
   grind [ze,V.IB]
theorem Aam{C C':Ctx}{P:Program}(m:C.Ok P)(j:G7 C)(o:P.follows .mixedOrders=true){n:Nat}{L:CM}(x:AV C n L=true):
  ∀f q,Ij L f=some q->∀(p:Pl) (h:H) (w:World) (args:List V) (args':Array Value) v h',R p h w->Gl C' p->Ay p args args'.toList->q args h=some (v,h')->
  Calls P f args' w fun e w'=>∃v' p',e=.returned v'/\Ae p' v v'/\Ext p h w p' h' w':=by
 intro f q i p h w args args' v h' hr s d c;unfold Ij at i;cases y:TS L f with
 |false=>grind
 |true=>
  rw[y]at i;cases i;simp only at c;cases g:wM h FI with
  |false=>grind
  |true=>
  rw[g]at c;split at c
  case h_2=>cases c
  rename_i u l;cases c;obtain⟨t,z,r⟩:=fP l x;exact Zg (C':=C') m j o t z r hr s (cE g) d
section
def Ra(P:Program):Nat->Nat->Bool
 |0,_=>true
 |n+1,a=>(match R3 P (fun _=>true) a with|some i=>D3 i.body|none=>true)&&Ra P n (a+1)
variable {P:Program}
theorem Sx{ct:FuncId->Bool}{f:FuncId}{i:Fn}(c:R3 P ct f=some i):R3 P (fun _=>true) f=some { i with cert:=true }/\i.cert=ct f:=by
 unfold R3 at c ⊢;cases d:P.funcs[f]? with
 |none=>grind
 |some fn=>
  grind
theorem JK{f:Nat}{i:Fn}{ct:FuncId->Bool}(c:R3 P ct f=some i):∀ {n a:Nat},Ra P n a=true->a<=f->f<a+n->D3 i.body=true
 |0,a,_,d,g=>by omega
 |n+1,a,h,d,g=>by
  simp only[Ra,zd]at h;by_cases e:a=f
  ·subst e;rw[(Sx c).1]at h;exact h.1
  ·exact JK c h.2 ae ae
def mkC(P:Program)(N:Nat)(L:List (FuncId×PK)):Ctx:=⟨Acr P,0,R3 P<|fun f=>zw f N,Tz L,fun _=>none,true⟩
theorem gP{N:Nat}{L:List (FuncId×PK)}(h:∀f i,f<N->R3 P (fun f=>zw f N) f=some i->D3 i.body=true):G7 (mkC P N L):=by
 intro f i c d;have c:R3 P (fun f=>zw f N) f=some i:=c;rw[(Sx c).2]at d;exact h f i (Nat.le_of_ble_eq_true d) c
theorem AdN{N:Nat}{L:List (FuncId×PK)}(g:∀x∈L,Lu P x):(mkC P N L).Ok P where
 T:=Adb P
 fn:=fun _ _ h=>Aao (P:=P) (ct:=fun f=>zw f N) h
 prim:=fun f q c p h w args args' v h' hr _ e d=>cV g f q c p h w args args' v h' hr e d
 spec:=fun f q c=>by cases c
end
end Go.Det
