import Derived.Test.YtobmcolckeoejaaGreatDoorX02
import Derived.Laws.StructEq
import Derived.Lib.Bytealg
import Derived.Laws.Externs
/- A part of a proof; no law is stated here. -/
noncomputable section
open Nat renaming beq -> zc, eq_of_beq_eq_true -> ze, blt -> zw
open Bool renaming and_eq_true -> zd
open Option.some renaming injEq -> zf
open List renaming mem_singleton -> zg, mem_cons -> zr, mem_map -> zu
open Array renaming getElem?_eq_some_iff -> zh, getD_eq_getD_getElem? -> zl
open Go.Extern.MathBitsCarry renaming m64 -> zi, pair -> zn
open Go.Result renaming andThen_ok -> zj
open Go.Sem renaming run_bind -> zk
open Go.Instr renaming checkKey -> zm
open Go.Det.Ext renaming refl -> zo
open Go.Fence renaming wide -> zp
open Prod.mk renaming injEq -> zq
open PUnit renaming unit -> zt
namespace Go.Det
mutual
def V.beq:V->V->Bool
 | .bool a,.bool b=>a==b
 | .int k a,.int l b=>k==l&&a==b
 | .str a,.str b=>a==b
 | .nilp,.nilp=>true
 | .ptr a i,.ptr b j=>zc a b&&zc i j
 | .nils,.nils=>true
 | .sl a b c d e,.sl m b' r o q=>zc a m&&zc b b'&&zc c r&&zc d o&&zc e q
 | .esl,.esl=>true
 | .es0,.es0=>true
 | .junk,.junk=>true
 | .nilm,.nilm=>true
 | .map a,.map b=>zc a b
 | .yld a,.yld b=>zc a b
 | .nilf,.nilf=>true
 | .nili,.nili=>true
 | .fn f a b,.fn g c d=>f==g&&V.LJ a c&&V.LJ b d
 | .iface t x,.iface u y=>zc t u&&V.beq x y
 | .agg a,.agg b=>V.LJ a b
 | .tup a,.tup b=>V.LJ a b
 |_,_=>false
def V.LJ:List V->List V->Bool
 |[],[]=>true
 |a::c,b::d=>V.beq a b&&V.LJ c d
 |_,_=>false
end
mutual
theorem V.beq_eq:∀ {a b:V},V.beq a b=true->a=b:=by
 intro a b h;cases a<;>cases b<;>simp only[V.beq]at h<;>first
  |(cases h;done)
  |rfl
  |(simp only[zd,wk,Bn,w5]at h;first|(rfl)|(rfl)|(obtain⟨⟨⟨⟨rfl,rfl⟩,rfl⟩,rfl⟩,rfl⟩:=h;rfl))
  |skip
 case fn.fn f a b g c d=>
  simp only[zd,wk]at h;rw[h.1.1,V.Ik h.1.2,V.Ik h.2]
 case iface.iface t x u y=>
  simp only[zd,Bn,w5]at h;rw[h.1,V.beq_eq h.2]
 case agg.agg a b=>rw[V.Ik h]
 case tup.tup a b=>rw[V.Ik h]
theorem V.Ik:∀ {a b:List V},V.LJ a b=true->a=b
 |[],[],_=>rfl
 |[],_::_,h=>by simp[V.LJ]at h
 |_::_,[],h=>by simp[V.LJ]at h
 |a::c,b::d,h=>by
  simp only[V.LJ,zd]at h;rw[V.beq_eq h.1,V.Ik h.2]
end
structure Rc where
 i:Nat
 o:Oper
 f:Fr
 v:V
structure St where
 f:Fr
 h:H
 r:List Rc
def still(C:Ctx)(anc:Nat->Nat->Bool)(i:Nat)(h:H)(r:Rc):Bool:=
 anc i r.i||(match G0 C r.f h r.o with
  |some (.val x _)=>V.beq x r.v
  |_=>false)
def Iq(C:Ctx)(call:Dw)(ops:Array Oper)(anc:Nat->Nat->Bool)(i:Nat)(s:St):Option (V×St):=
 match ops[i]? with
 |none=>none
 |some o=>
  bif Bb s.f ops o then
   bif Ez o then
    match G0 C s.f s.h o with
    |some (.val v _)=>match s.f.put o.dst v with
     |some c=>some (v,⟨c,s.h,bif Rj o then⟨i,o,s.f,v⟩::s.r else s.r⟩)
     |none=>none
    |_=>none
   else bif CJ o then
    match uW C s.f o with
    |some (ob,f)=>match s.f.put o.dst (f s.h.nx)with
     |some c=>some (f s.h.nx,⟨c,s.h.push ob,s.r⟩)
     |none=>none
    |none=>none
   else
    match D7 C call s.f s.h o with
    |some (v,h')=>match s.f.put o.dst v with
     |some c=>bif s.r.all (still C anc i h')then some (v,⟨c,h',s.r⟩)else none
     |none=>none
    |none=>none
  else
   match s.f.put o.dst (.tup [])with
   |some c=>bif CQ o then(bif s.r.all (still C anc i s.h)then some (.tup [],⟨c,s.h,s.r⟩)else none)else some (.tup [],⟨c,s.h,s.r⟩)
   |none=>none
def V5(C:Ctx)(call:Dw)(ops:Array Oper)(anc:Nat->Nat->Bool):List Nat->St->Option St
 |[],s=>some s
 |i::d,s=>match Iq C call ops anc i s with
  |some (_,c)=>V5 C call ops anc d c
  |none=>none
def IE(C:Ctx)(call:Dw)(ops:Array Oper)(fr:Fr)(h:H):Option (Fr×H):=
 match V5 C call ops (EG ops).a (EG ops).ord ⟨fr,h,[]⟩with
 |some s=>some (s.f,s.h)
 |none=>none
def Wc(C:Ctx)(call:Dw)(ops:Array Oper)(fr:Fr)(h:H):Option (Fr×H):=
 bif Io ops (EG ops)then IE C call ops fr h else none
def DH:Code->Bool
 | .region _ ops dr=>bif dr then Io ops (EG ops)else true
 | .seq a b=>DH a&&DH b
 | .cond _ a b=>DH a&&DH b
 | .block _ b=>DH b
 | .loop b=>DH b
 | .scope b=>DH b
 |_=>true
section
variable {C:Ctx}{P:Program}{call:Dw}{ops:Array Oper}{p:Pl}{h:H}{w:World}{fr:Fr}{a:Act}
theorem LU{f c:Fr}{d:Option Nat}{v:V}(h:f.put d v=some c):c.n=f.n/\(∀t,c.get t=if d=some t then v else f.get t)/\∀t,d=some t->t<f.n:=by
 unfold Fr.put at h;cases d with
 |none=>grind
 |some s=>
  simp only[Hu]at h;by_cases e:s<f.n
  ·grind [Fr.get,PM.Dv]
  grind
theorem DS{anc:Nat->Nat->Bool}{i:Nat}{s d:St}{v:V}(c:Iq C call ops anc i s=some (v,d)):∃o,ops[i]?=some o/\d.f.n=s.f.n/\(∀t,d.f.get t=if o.dst=some t then v else s.f.get t)/\(∀t,o.dst=some t->t<s.f.n)/\
  ((Bb s.f ops o=false/\v=.tup []/\d.h=s.h)\/
   (Bb s.f ops o=true/\
   ((Ez o=true/\G0 C s.f s.h o=some (.val v s.h)/\d.h=s.h)\/
    (CJ o=true/\∃ob f,uW C s.f o=some (ob,f)/\v=f s.h.nx/\d.h=s.h.push ob)\/
    (CQ o=true/\D7 C call s.f s.h o=some (v,d.h)))))/\
  (∀r∈s.r,r∈d.r)/\(Ez o=true->Rj o=true->Bb s.f ops o=true->⟨i,o,s.f,v⟩∈d.r)/\
  (CQ o=true->∀r∈s.r,still C anc i d.h r=true):=by
 unfold Iq at c;split at c
 case h_1=>cases c
 rename_i o A;refine⟨o,A,?_⟩;cases y:Bb s.f ops o with
 |false=>
  simp only[y,wg]at c;split at c
  case h_2=>cases c
  rename_i q hp;obtain⟨g,m,j⟩:=LU hp;grind
 |true=>
  simp only[y,we]at c;cases e:Ez o with
  |true=>
   simp only[e,we]at c;split at c
   case h_2=>cases c
   rename_i v1 x u;split at c
   case h_2=>cases c
   rename_i q hp;obtain⟨rfl,rfl⟩:=c;obtain⟨g,m,j⟩:=LU hp;obtain⟨v2,hv2⟩:=rd_val e u;refine⟨g,m,j,ah,fun r hr=>?_,fun _ D _=>?_,(by grind [S6])⟩
   ·grind
   grind
  |false=>
   simp only[e,wg]at c;cases l:CJ o with
   |true=>
    simp only[l,we]at c;split at c
    case h_2=>cases c
    split at c
    case h_2=>cases c
    rename_i q hp;obtain⟨rfl,rfl⟩:=c;obtain⟨g,m,j⟩:=LU hp;exact⟨g,m,j,ah,fun r hr=>hr,(by simp),(by grind [S6])⟩
   |false=>
    simp only[l,wg]at c;split at c
    case h_2=>cases c
    rename_i v1 x B;split at c
    case h_2=>cases c
    rename_i q hp;obtain⟨g,m,j⟩:=LU hp;cases z:s.r.all (still C anc i x)with
    |false=>grind
    |true=>
     simp only[z,we,zf,zq]at c;obtain⟨rfl,rfl⟩:=c;simp_all [CQ]
theorem NQ{anc:Nat->Nat->Bool}:∀(L:List Nat) (s d:St),V5 C call ops anc L s=some d->
  ∃(c:Nat->St) (e:Nat->V),c 0=s/\c L.length=d/\∀(q i:Nat),L[q]?=some i->Iq C call ops anc i (c q)=some (e q,c<|q+1)
 |[],s,d,h=>by
  cases h;exact⟨fun _=>s,fun _=>.nilp,rfl,rfl,(by simp)⟩
 |i::L,s,d,h=>by
  unfold V5 at h;split at h
  case h_2=>cases h
  rename_i v s1 f;obtain⟨c,e,h0,m,g⟩:=NQ L s1 d h;refine⟨fun q=>match q with|0=>s|q+1=>c q,fun q=>match q with|0=>v|q+1=>e q,rfl,by omega,fun q j l=>?_⟩;grind
theorem lQ{pl:Oa}(T:Io ops pl=true){N:St}(W:V5 C call ops pl.a pl.ord ⟨fr,h,[]⟩=some N):
  ∃(v:Nat->V) (Hh:Nat->H) (F:Nat->Fr),Canon C call ops pl.a (idx pl.ord) (idx pl.pos) fr h v Hh F/\Hh ops.size=N.h/\F ops.size=N.f:=by
 have st:=aD T;have hl:=AaT T;obtain⟨s,S,h0,hn,hq⟩:=NQ pl.ord _ _ W;have D7:∀q,q<ops.size->Iq C call ops pl.a (idx pl.ord q) (s q)=some (S q,s<|q+1):=by
  grind [idx]
 have K:∀q,q<=ops.size->(s q).f.n=fr.n:=by
  intro q;induction q with
  |zero=>grind
  |succ q R=>
   intro d;obtain⟨o,_,Z,_⟩:=DS (D7 q ae);omega
 have u:∀q l,q<=l->l<=ops.size->∀r∈(s q).r,r∈(s l).r:=by
  intro q l X;induction l with
  |zero=>
   grind
  |succ l R=>
   intro d r hr;by_cases e:q=l+1
   ·grind
   ·obtain⟨o,_,_,_,_,_,g,_⟩:=DS (D7 l ae);exact g r (R ae ae r hr)
 refine⟨fun i=>S<|idx pl.pos i,fun q=>(s q).h,fun q=>(s q).f,⟨by simp[h0],by simp[h0],K,fun q d o z t=>?_,fun i o t z ht=>?_,fun i o z=>?_,fun i j o oj z U J E L hw hlt I=>?_⟩,by grind,by grind⟩
 ·obtain⟨o',m,_,Z,_⟩:=DS<|D7 q d;simp only[(st.ordp q d).2];grind
 ·have c:=(zh.1 z).1;have hp:=st.posp i c;obtain⟨o',m,_,_,g2,_⟩:=DS<|D7 _ hp.1;grind
 ·have c:=(zh.1 z).1;have hp:=st.posp i c;obtain⟨o',m,_,_,_,g3,_⟩:=DS<|D7 _ hp.1;simp_all
 ·have c:=(zh.1 z).1;have M:=(zh.1 U).1;have B:=st.posp i c;have A:=st.posp j M;obtain⟨o',m,_,_,_,_,_,Y,_⟩:=DS<|D7 _ A.1;rw[A.2,U]at m;cases m;have D:=u _ (idx pl.pos i) ae ae _<|Y E L hw;obtain⟨o'',m,_,_,_,_,_,_,g5⟩:=DS<|D7 _ B.1;rw[B.2,z]at m;cases m;have G:=g5 J _ D;unfold still at G;rw[A.2]at G;rw[B.2,I]at G;split at G
  case h_2=>cases G
  rename_i x hx O;obtain⟨y,hy⟩:=rd_val E O;grind [V.beq_eq]
theorem QK(g:Io ops (EG ops)=true)(o:C.Ok P)(c:call.Ok C P)(m:P.follows .mixedOrders=true)(hr:R p h w)(t:Gl C p)(j:Cx p fr a){fr':Fr}{h':H}(f:IE C call ops fr h=some (fr',h')){id:Nat}{ro:Option Nat}{l:Nat}{Q:Exit->Act->World->Prop}
  (q:∀p' d w',Cx p' fr' d->Ext p h w p' h' w'->d.defers=a.defers->Q .normal d w'):(Code.region id ops true).wpIn (FW ro) l P Q a w:=by
 unfold IE at f;split at f
 case h_2=>cases f
 rename_i s e;obtain⟨v,Hh,F,i,u,y⟩:=lQ g e;refine nP o c m (aD g) i hr t j fun p' d w' z x r=>q p' d w' ?_ ?_ r
 ·grind
 grind
theorem iA(l:C.Ok P)(d:call.Ok C P)(j:P.follows .mixedOrders=true)(hr:R p h w)(o:Gl C p)(i:Cx p fr a){fr':Fr}{h':H}(e:Wc C call ops fr h=some (fr',h')){id:Nat}{ro:Option Nat}{f:Nat}{Q:Exit->Act->World->Prop}
  (m:∀p' c w',Cx p' fr' c->Ext p h w p' h' w'->c.defers=a.defers->Q .normal c w'):(Code.region id ops true).wpIn (FW ro) f P Q a w:=by
 unfold Wc at e;cases g:Io ops (EG ops)with
 |false=>grind
 |true=>
  grind [QK]
end
section
variable {P:Program}{F:Fence}{n:Nat}{b:Frame}{a:Act}{k:List Item}{cs:List Frame}{w:World}{Q:Exit->Act->World->Prop}
theorem D8{c:Code}:step P (lone (b.atR a (.code (.scope c)::k)) cs w)=.next (lone (b.atR a (.code c:: .inScope c::k)) cs w):=
 (by rfl)
theorem Rm{c:Code}:step P (lone (b.atR a (.inScope c::k)) cs w)=.next (lone (b.atR a k) cs w):=
 (by rfl)
theorem J8{c:Code}(h:c.wpIn F n P (Exit.noGoto Q) a w):(Code.scope c).wpIn F n P Q a w:=by
 intro b k cs o m hr;have h0:(lone (b.atR a (.code (.scope c)::k)) cs w).fenced P F:=fenced_calm m hr rfl;obtain⟨e,g,f,i,d⟩:=h b (.inScope c::k) cs o m hr;cases e with
 |normal=>exact⟨.normal,g,f,i,.head h0 D8<|StepsIn.trans d<|.one (fenced_calm m hr rfl) Rm⟩
 |exit id=>
  have s:exitTo id (.inScope c::k)=exitTo id k:=by rfl
  exact⟨.exit id,g,f,i,fun q r=>.head h0 D8 (d.1 q ah),
   fun j r=>let ⟨k₁,h1,h2⟩:=d.2 j ah;⟨k₁,h1,.head h0 D8 h2⟩⟩
 |goto l=>exact i.elim
 |ret=>exact⟨_,g,f,i,.of_steps (.one h0 D8) d⟩
 |panic t=>exact⟨_,g,f,i,.of_steps (.one h0 D8) d⟩
 |outgrown=>exact⟨_,g,f,i,.of_steps (.one h0 D8) d⟩
end
structure X where
 e:DX
 fr:Fr
 h:H
 ds:List Nat
def S1(ro:Option Nat)(fr:Fr)(h:H)(ps:Array Tmp)(asg body:Code)(ds:List Nat):Option (Nat×H×List Nat):=
 match ro with
 |none=>some (h.nx+1,(h.push<|.defd true).push<|.loop ⟨.ready,none,fr,ps,asg,body,h.nx⟩,h.nx::ds)
 |some b=>match h.get b with
  |some (.loop l)=>some (h.nx,h.push<|.loop ⟨.ready,none,fr,ps,asg,body,l.db⟩,ds)
  |_=>none
def By(C:Ctx)(call:Dw)(ro:Option Nat)(ct:Bool):Nat->Code->Fr->H->List Nat->Option (List X)
 |0,_,_,_,_=>none
 |m+1,c,fr,h,ds=>
  match c with
  | .skip| .label _=>some [⟨.normal,fr,h,ds⟩]
  | .region _ ops dr=>bif dr then(match (bif ct then IE C call ops fr h else Wc C call ops fr h)with
    |some (fr',h')=>some [⟨.normal,fr',h',ds⟩]
    |none=>none)
   else(match UX C call ops ops.toList fr h with
    |some l=>some<|l.map fun x=>⟨.normal,x.1,x.2,ds⟩
    |none=>none)
  | .seq a b=>match By C call ro ct m a fr h ds with
   |some l=>bl l fun x=>match x.e with
    | .normal=>By C call ro ct m b x.fr x.h x.ds
    |_=>some [x]
   |none=>none
  | .cond x a b=>match ev C fr x with
   |some (.bool true)=>By C call ro ct m a fr h ds
   |some (.bool false)=>By C call ro ct m b fr h ds
   |_=>none
  | .block id b=>match By C call ro ct m b fr h ds with
   |some l=>some<|l.map fun x=>match x.e with
    | .exit i=>bif zc i id then { x with e:=.normal }else x
    |_=>x
   |none=>none
  | .loop b=>match By C call ro ct m b fr h ds with
   |some l=>bl l fun x=>match x.e with
    | .normal=>By C call ro ct m (.loop b) x.fr x.h x.ds
    |_=>some [x]
   |none=>none
  | .exit i=>some [⟨.exit i,fr,h,ds⟩]
  | .ret=>some [⟨.ret,fr,h,ds⟩]
  | .scope b=>By C call ro ct m b fr h ds
  | .rangeFunc g ps asg body=>match S1 ro fr h ps asg body ds,ev C fr g with
   |some (b,j,d),some o=>match Ip C j o [.yld b]with
    |some (.enter f args)=>match call (.fn f args) j with
     |some l=>bl l fun x=>match x.2.get b with
      |some (.loop ls)=>match ls.st,ls.pend with
       | .busy,_=>none
       |_,none=>some [⟨.normal,fr,x.2.put b<|.loop { ls with st:=.exhausted },d⟩]
       |_,some c=>By C call ro false m c fr (x.2.put b<|.loop { ls with st:=.exhausted }) d
      |_=>none
     |none=>none
    |_=>none
   |_,_=>none
  |_=>none
def H9(p:Pl):List Nat->List Deferred->Prop
 |[],l=>l=[]
 |b::c,l=>∃r n l',p[b]?=some (r,n)/\l={ target:=.collected r,args:= #[] }::l'/\H9 p c l'
theorem H9.mono{p:Pl}(q:Pl):∀ {ds:List Nat} {l:List Deferred},H9 p ds l->H9 (p++q) ds l
 |[],_,h=>h
 |_b::_bs,_l,⟨r,n,l',e,d,c⟩=>⟨r,n,l',ah,d,c.mono q⟩
theorem H9.ext{p p':Pl}{h h':H}{w w':World}(e:Ext p h w p' h' w'){ds:List Nat}{l:List Deferred}(c:H9 p ds l):H9 p' ds l:=by
 obtain⟨q,rfl⟩:=e.pre;exact c.mono q
def Ph(p:Pl):Option Nat->Option Nat->Prop
 |none,none=>True
 |some b,some r=>∃n,p[b]?=some (r,n)
 |_,_=>False
theorem Ph.ext{p p':Pl}{h h':H}{w w':World}(e:Ext p h w p' h' w'){ro k:Option Nat}(c:Ph p ro k):Ph p' ro k:=by
 obtain⟨q,rfl⟩:=e.pre;cases ro with
 |none=>grind [Ph]
 |some b=>
  cases k with
  |none=>exact c
  |some r=>obtain⟨n,d⟩:=c;exact⟨n,ah⟩
theorem Ext.at{p p':Pl}{h h':H}{w w':World}(e:Ext p h w p' h' w'){b:Nat}{x:Nat×Nat}(c:p[b]?=some x):p'[b]?=some x:=by
 obtain⟨q,rfl⟩:=e.pre;grind
section
variable {C:Ctx}{P:Program}{call:Dw}{ops:Array Oper}{p:Pl}{h:H}{w:World}{fr:Fr}{a:Act}
theorem JY(hr:R p h w)(v:Cx p fr a){ro k:Option Nat}(c:Ph p ro k){ps:Array Tmp}{asg body:Code}{ds g:List Nat}(f:H9 p ds a.defers){b:Nat}{e:H}
  (d:S1 ro fr h ps asg body ds=some (b,e,g)) (fn:FuncId):∃l mark y q n,(Instr.enterLoop fn a.tmps ps asg body k).run P w=.ok (l,mark) y/\Ext p h w q e y/\q[b]?=some (l,n)/\H9 q g (mark++a.defers):=by
 unfold S1 at d;cases ro with
 |none=>
  cases k with
  |some k=>exact c.elim
  |none=>
   obtain⟨rfl,rfl,rfl⟩:=d;have u:=Ext.push (n:=0) hr (o:=.defd true) (x:=.deferred<|some []) (by rfl);have t:(p++[(w.heap.size,0)])[h.nx]?=some (w.heap.size,0):=by rw[<-hr.len];simp
   have i:EE (p++[(w.heap.size,0)]) fr a.tmps:=EE.mono _ v;have j:=Ext.push (n:=0) u.rel (o:=.loop ⟨.ready,none,fr,ps,asg,body,h.nx⟩) (x:=.loop { state:=.ready,pending:=none,fn,tmps:=a.tmps,params:=ps,assign:=asg,body,defers:=w.heap.size })
    ⟨fn,a.tmps,_,_,i,t,rfl⟩
   refine⟨_,_,_,_,0,run_enterLoop_outer fn a.tmps ps asg body,u.trans j,?_,?_⟩
   ·have:h.nx+1=(p++[(w.heap.size,0)]).length:=by simp[hr.len]
    grind
   ·exact⟨w.heap.size,0,a.defers,ah,rfl,H9.mono _<|H9.mono _ f⟩
 |some z=>
  cases k with
  |none=>exact c.elim
  |some k=>
   simp only at d;split at d
   case h_2=>cases d
   rename_i l0 s;obtain⟨rfl,rfl,rfl⟩:=d;obtain⟨n0,hn0⟩:=c;obtain⟨r',n',x,e,h2,f0,tmps,r,m,h3,h4,rfl⟩:=hr.obj _ _ s;rw[hn0]at e;cases e;have j:=Ext.push (n:=0) hr (o:=.loop ⟨.ready,none,fr,ps,asg,body,l0.db⟩) (x:=.loop { state:=.ready,pending:=none,fn,tmps:=a.tmps,params:=ps,assign:=asg,body,defers:=r })
    ⟨fn,a.tmps,_,_,v,h4,rfl⟩
   refine⟨w.heap.size,[],_,_,0,?_,j,?_,?_⟩
   ·unfold Instr.enterLoop;simp only[zk,run_getLoop h2,run_newObj_alloc,zj,Sem.run_pure,World.alloc]
   ·rw[<-hr.len];simp
   ·exact H9.mono _ f
theorem Result.X1{α d:Type}{r:Result α}{f:α->World->Result d}{b:d}{w':World}(h:r.andThen f=.ok b w'):∃a c,r=.ok a c/\f a c=.ok b w':=by
 cases r with
 |ok a c=>exact⟨a,c,rfl,h⟩
 |halt x c=>simp_all
theorem Lu(hC:C.Ok P)(E:call.Ok C P)(hm:P.follows .mixedOrders=true){ro k:Option Nat}{n:Nat}:∀(m:Nat) (ct:Bool) (c:Code) {fr:Fr} {h:H} {ds:List Nat} {L:List X},(ct=true->DH c=true)->By C call ro ct m c fr h ds=some L->
  ∀(p:Pl) (a:Act) (w:World) (Q:Exit->Act->World->Prop),R p h w->Gl C p->Cx p fr a->H9 p ds a.defers->Ph p ro k->
   (∀x∈L,∀p' V w',Cx p' x.fr V->Ext p h w p' x.h w'->H9 p' x.ds V.defers->Q x.e.Ti V w')->
   c.wpIn (FW k) n P Q a w/\∀b,c=.loop b->Code.roundsIn (FW k) n P b Q m a w
 |0,ct,c,fr,h,ds,L,J,o=>by cases o
 |m+1,ct,c,fr,h,ds,L,J,o=>by
  intro p a w Q hr N I B D G;have ih:∀ {ct:Bool} (c:Code) {fr:Fr} {h:H} {ds:List Nat} {L:List X},(ct=true->DH c=true)->By C call ro ct m c fr h ds=some L->∀ {p:Pl} {a:Act} {w:World},R p h w->Gl C p->Cx p fr a->H9 p ds a.defers->Ph p ro k->
    ∀ {Q:Exit->Act->World->Prop},(∀x∈L,∀p' V w',Cx p' x.fr V->Ext p h w p' x.h w'->H9 p' x.ds V.defers->Q x.e.Ti V w')->
   c.wpIn (FW k) n P Q a w/\∀b,c=.loop b->Code.roundsIn (FW k) n P b Q m a w:=fun {ct} c {fr h ds L} J o {p a w} hr N I B D {Q} G=>Lu hC E hm m ct c J o p a w Q hr N I B D G
  cases c with
  |skip=>cases o;exact⟨wpIn_skip<|G _ (zg.2 rfl) p a w I (zo hr) B,(by simp)⟩
  |label l=>cases o;exact⟨wpIn_label<|G _ (zg.2 rfl) p a w I (zo hr) B,(by simp)⟩
  |region id ops dr=>
   refine⟨?_,(by simp)⟩;simp only[By]at o;cases dr with
   |true=>
    simp only[we]at o;split at o
    case h_2=>cases o
    rename_i fr1 h1 hs;cases o;refine(show ∀ {Q':Exit->Act->World->Prop},(∀p' V w',Cx p' fr1 V->Ext p h w p' h1 w'->V.defers=a.defers->Q' .normal V w')->(Code.region id ops true).wpIn (FW k) n P Q' a w from fun {Q'} U=>?_) fun M a1 K q j A=>G _ (zg.2 rfl) M a1 K q j<|A▸B.ext j
    cases ct with
    |false=>grind [iA]
    |true=>exact QK (by simpa [DH]using J rfl) hC E hm hr N I hs U
   |false=>
    simp only[wg]at o;split at o
    case h_2=>cases o
    rename_i l hs;cases o;exact YP hC E hr N I hs fun x hx M a1 K q j A=>G _ (zu.2 ⟨x,hx,rfl⟩) M a1 K q j<|A▸B.ext j
  |seq x y=>
   refine⟨wpIn_seq ?_,(by simp)⟩;simp only[By]at o;split at o
   case h_2=>cases o
   rename_i l hs;refine(ih x (by grind [DH]) hs hr N I B D fun z hz M a1 K q j A=>?_).1;obtain⟨L1,S,g2⟩:=IM o z hz;cases t:z.e with
   |normal=>
    simp only[t]at S;exact(ih y (by grind [DH]) S j.rel (N.ext j) q A (D.ext j) fun u hu Y a2 w2 O he2 T=>G u (g2 u hu) Y a2 w2 O (j.trans he2) T).1
   |exit i=>
    simp only[t,zf]at S;subst S;have:=G z ah M a1 K q j A;rw[t]at this;exact this
   |ret=>
    simp only[t,zf]at S;subst S;have:=G z ah M a1 K q j A;rw[t]at this;exact this
  |cond x b1 b2=>
   refine⟨?_,(by simp)⟩;simp only[By]at o;split at o
   case h_1=>
    rename_i hx;have hv:=A6 N I hx;grind [Ae,wpIn_cond_true,DH]
   case h_2=>
    rename_i hx;have hv:=A6 N I hx;grind [Ae,wpIn_cond_false,DH]
   grind
  |block id b=>
   refine⟨wpIn_block ?_,(by simp)⟩;simp only[By]at o;split at o
   case h_2=>cases o
   rename_i l hs;cases o;refine(ih b (fun e=>by have:=J e;simpa [DH]using this) hs hr N I B D fun z hz M a1 K q j A=>?_).1;have U:=G _ (zu.2 ⟨z,hz,rfl⟩) M a1 K;cases t:z.e with
   |normal=>
    simp only[t]at U;exact U q j A
   |ret=>
    simp only[t]at U;exact U q j A
   |exit i=>
    simp only[t,Bn]at U;by_cases ei:i=id
    ·simp only[ei,decide_true,we]at U;simp only[DX.Ti,Exit.inBlock,ei,wm];exact U q j A
    ·simp only[ei,decide_false,wg,t]at U;simp only[DX.Ti,Exit.inBlock,ei,vf];exact U q j A
  |loop b=>
   have key:Code.roundsIn (FW k) n P b Q (m+1) a w:=by
    rw[roundsIn_succ];simp only[By]at o;split at o
    case h_2=>cases o
    rename_i l hs;refine(ih b (fun e=>by have:=J e;simpa [DH]using this) hs hr N I B D fun z hz M a1 K q j A=>?_).1;obtain⟨L1,S,g2⟩:=IM o z hz;cases t:z.e with
    |normal=>
     simp only[t]at S;exact(ih (.loop b) J S j.rel (N.ext j) q A (D.ext j) fun u hu Y a2 w2 O he2 T=>G u (g2 u hu) Y a2 w2 O (j.trans he2) T).2 b rfl
    |exit i=>
     simp only[t,zf]at S;subst S;have:=G z ah M a1 K q j A;rw[t]at this;exact this
    |ret=>
     simp only[t,zf]at S;subst S;have:=G z ah M a1 K q j A;rw[t]at this;exact this
   grind [wpIn_loop_rounds]
  |exit i=>cases o;exact⟨wpIn_exit<|G _ (zg.2 rfl) p a w I (zo hr) B,(by simp)⟩
  |ret=>cases o;exact⟨wpIn_ret<|G _ (zg.2 rfl) p a w I (zo hr) B,(by simp)⟩
  |scope b=>
   refine⟨J8 ?_,(by simp)⟩;simp only[By]at o;refine(ih b (fun e=>by have:=J e;simpa [DH]using this) o hr N I B D fun z hz M a1 K q j A=>?_).1;have h1:=G z hz M a1 K q j A;cases t:z.e<;>rw[t]at h1<;>exact h1
  |rangeFunc g ps asg body=>
   refine⟨wpIn_rangeFunc fun fn _=>?_,(by simp)⟩;simp only[By]at o;split at o
   case h_2=>cases o
   rename_i b h1 ds1 g' hen hgv;split at o
   case h_2=>cases o
   rename_i f args hdc;split at o
   case h_2=>cases o
   rename_i l hcl;obtain⟨r,mark,K,M,nb,q1,q2,q3,q4⟩:=JY (P:=P) hr I D B hen fn;have hyld:Aw M [.yld b] (#[Value.func (.yield r) #[] #[]]).toList:=by
    simp only[Bh,JI,ve];simp only[Ae];grind
   obtain⟨args',s1,s2⟩:=Nf hC q2.rel (N.ext q2) (q2.qJ<|A6 N I hgv) hyld hdc;rw[zk]at s1;obtain⟨d,w1',s3,s4⟩:=Result.X1 s1;refine⟨r,mark,K,d,w1',f,args',K,q1,?_,fun _ _=>trivial,s4,(by grind [FW,zp]),XV.2<|(E.fn f args h1 l hcl M K args' q2.rel (N.ext q2) s2).mono ?_⟩
   ·grind [resolve,Act.eval]
   ·rintro e w2 ⟨v,h2,v',Y,hmem,rfl,k1,k2⟩;obtain⟨L1,t1,t2⟩:=IM o (v,h2) hmem;split at t1
    case h_2=>cases t1
    rename_i ls hls;obtain⟨r',n',x,u1,u2,f0,tmps,rd,md,u3,u4,rfl⟩:=k2.rel.obj _ _ hls;have hpb:=k2.at q3;rw[hpb]at u1;cases u1;have hbusy:ls.st≠ .busy:=by
     grind
    obtain⟨W,hW,hput⟩:∃W,(Instr.endLoop r).run P w2=.ok ls.pend W/\Ext Y h2 w2 Y (h2.put b<|.loop { ls with st:=.exhausted }) W:=
     ⟨_,run_endLoop u2 hbusy,Ext.put k2.rel hls hpb (o':=.loop { ls with st:=.exhausted }) (x':=.loop { state:=.exhausted,pending:=ls.pend,fn:=f0,tmps,params:=ls.ps,assign:=ls.asg,body:=ls.body,defers:=rd }) ⟨f0,tmps,rd,md,u3,u4,rfl⟩ rfl rfl rfl rfl⟩
    have Z:=q2.trans<|k2.trans hput;refine⟨ls.pend,W,hW,?_⟩;have O:Cx Y fr { a with defers:=mark++a.defers }:=Cx.ext (a:={ a with defers:=mark++a.defers }) I<|q2.trans k2;have T:H9 Y ds1 (mark++a.defers):=H9.ext k2 q4;split at t1
    case h_1=>cases t1
    case h_2=>
     rename_i hpe _;cases t1;simp only[hpe];exact G _ (t2 _<|zg.2 rfl) Y _ _ O Z T
    case h_3=>
     rename_i c hpe _;simp only[hpe];exact(ih c (by simp) t1 hput.rel (N.ext Z) O T (D.ext Z) fun u hu p3 a3 w3 hf3 he3 hd3=>G u (t2 u hu) p3 a3 w3 hf3 (Z.trans he3) hd3).1
  |goto l=>simp[By]at o
  |refuse s=>simp[By]at o
end
section
variable {C:Ctx}{P:Program}{p:Pl}{h:H}{w:World}{fr:Fr}{a:Act}
def Zj(C:Ctx)(fr:Fr)(h:H):ResultVar->Option V
 | .tmp t=>some<|fr.get t
 | .cell a t=>Fe C.T h t<|fr.get a
def Ql(C:Ctx)(fr:Fr)(h:H):List ResultVar->Option (List V)
 |[]=>some []
 |r::c=>match Zj C fr h r,Ql C fr h c with
  |some v,some vs=>some (v::vs)
  |_,_=>none
def Rx(C:Ctx)(fr:Fr)(h:H)(c:List ResultVar):Option V:=
 match Ql C fr h c with
 |some [v]=>some v
 |some vs=>some<|.tup vs
 |none=>none
def yG(a:Act):ResultVar->Sem Value
 | .tmp t=>pure<|a.tmps.getD t undef
 | .cell x t=>do loadVar t (<-asAddr (a.tmps.getD x undef))
theorem YN(fn:Func)(a:Act):results fn a.tmps=(do let vs<-fn.results.mapM (yG a);pure (if h:vs.size=1 then vs[0]else .tuple vs)):=by
 rfl
theorem mG(j:C.T.Ok P)(hr:R p h w)(f:Cx p fr a){r:ResultVar}{v:V}(d:Zj C fr h r=some v):
  ∃v',(yG a r).run P w=.ok v' w/\Ae p v v':=by
 cases r with
 |tmp t=>cases d;exact⟨_,rfl,f.2 t⟩
 |cell x t=>
  simp only[Zj]at d;obtain⟨v',g,l⟩:=Xg (P:=P) j hr (f.2 x) d;refine⟨v',?_,l⟩;have hp:∃b i,fr.get x=.ptr b i:=by
   unfold Fe at d;grind
  obtain⟨b,i,e⟩:=hp;have c:=f.2 x;rw[e]at c;obtain⟨r,n,_,c⟩:=c;rw[c]at g;simp only[yG,c];exact g
theorem VW(g:C.T.Ok P)(hr:R p h w)(f:Cx p fr a):∀ {e:List ResultVar} {vs:List V},Ql C fr h e=some vs->
  ∃c:List Value,(e.mapM<|yG a).run P w=.ok c w/\Aw p vs c
 |[],vs,d=>by cases d;simp
 |r::e,vs,d=>by
  unfold Ql at d;split at d
  case h_2=>cases d
  rename_i v l i j;cases d;obtain⟨v',o,m⟩:=mG (P:=P) g hr f i;obtain⟨c,g3,g4⟩:=VW g hr f j;simp_all
theorem Aaa(l:C.T.Ok P)(hr:R p h w)(j:Cx p fr a){fn:Func}{v:V}(e:Rx C fr h fn.results.toList=some v):∃v',(results fn a.tmps).run P w=.ok v' w/\Ae p v v':=by
 unfold Rx at e;cases f:Ql C fr h fn.results.toList with
 |none=>grind
 |some vs=>
  obtain⟨c,r,g⟩:=VW (P:=P) l hr j f;have m:=g.length;have d:(results fn a.tmps).run P w=.ok (if h:c.toArray.size=1 then c.toArray[0]else .tuple c.toArray) w:=by
   grind [YN,zk,Array.mapM_eq_mapM_toList,Sem.run_map,zj,Sem.run_pure]
  refine⟨_,d,?_⟩;simp only[f]at e;cases vs with
  |nil=>
   grind [Ae]
  |cons x i=>
   cases i with
   |nil=>
    obtain⟨y,rfl,o⟩:=g.one;grind
   |cons q i=>
    cases e;rw[dif_neg ah];simp_all [Ae]
def Wp:List V->Nat->PM V->PM V
 |[],_,m=>m
 |v::vs,i,m=>Wp vs (i+1)<|m.set i<|some v
def NU(n:Nat)(args:List V):Fr:=⟨args.length+(n-args.length),Wp args 0 .leaf⟩
theorem M8:∀(vs:List V) (i:Nat) (m:PM V) (t:Nat),(Wp vs i m).get t=if i<=t/\t<i+vs.length then vs[t-i]? else m.get t
 |[],i,m,t=>by simp[Wp];omega
 |v::vs,i,m,t=>by
  unfold Wp;rw[M8 vs (i+1) _ t];by_cases e:t=i
  ·subst e;rw[wc ae,wd<|by simp];simp
  ·by_cases c:i+1<=t/\t<i+1+vs.length
   ·grind
   ·rw[wc c,wc ah];simp[e]
theorem tD{args:List V}{args':Array Value}(f:Aw p args args'.toList)(n:Nat):Cx p (NU n args) { tmps:=args'++Array.replicate (n-args'.size) undef,defers:=[] }:=by
 have e:=f.length;simp at e;refine⟨by simp[NU,e],fun t=>?_⟩;unfold NU Fr.get;rw[M8];by_cases g:t<args.length
 ·rw[wd ae];obtain⟨u,l,j⟩:=f.get (i:=t) (d:=args[t]) (by simp[g]);have c:args'[t]?=some u:=ah
  simp only[Nat.sub_zero,List.getElem?_eq_getElem g,Option.getD_some];rw[zl,Array.getElem?_append_left ae,c];exact j
 ·have:(args'++Array.replicate (n-args'.size) undef).getD t undef=undef:=by
   rw[zl,Array.getElem?_append_right ae];grind
  simp_all [Ae,undef]
def G7:List Nat->H->Option H
 |[],h=>some h
 |b::c,h=>match h.get b with
  |some (.defd true)=>G7 c<|h.put b<|.defd false
  |_=>none
theorem RP{fn:Func}{tmps:Array Value}{n:Nat}:∀ {ds:List Nat} {l:List Deferred} {p:Pl} {h:H} {w:World} {g:H},H9 p ds l->R p h w->G7 ds h=some g->
  ∃e,Ext p h w p g e/\∀f:Ending->World->Prop,(∃v,(results fn tmps).run P e=.ok v e/\f (.returned v) e)->LeavesInM zp n P fn tmps f l .returning w
 |[],l,p,h,w,g,i,hr,d=>by
  cases d;cases (show l=[]from i);exact⟨w,zo hr,fun f hR=>hR⟩
 |b::q,l,p,h,w,g,i,hr,d=>by
  unfold G7 at d;split at d
  case h_2=>cases d
  rename_i o;obtain⟨r,m,l',hp,rfl,j⟩:=i;obtain⟨r',m',x,k1,k2,k3⟩:=hr.obj _ _ o;rw[hp]at k1;cases k1;subst k3;have c:=Ext.put hr o hp (o':=.defd false) (x':=.deferred none) (by rfl) (w':=w.putObj r<|.deferred none) rfl rfl rfl rfl;obtain⟨e,g1,g2⟩:=RP (fn:=fn) (tmps:=tmps) (n:=n) j c.rel d;exact⟨e,c.trans g1,fun f hR=>⟨by simp,.inl ⟨r,_,rfl,run_takeDeferred k2,g2 f hR⟩⟩⟩
def Ub(C:Ctx)(m:Nat)(call:Dw)(b:Nat)(ls:LS)(fr:Fr)(h:H):Option (List<|V×H):=
 match By C call (some b) false m ls.asg fr h []with
 |some l=>bl l fun x=>match x.e,x.h.get b with
  | .normal,some (.loop l1)=>match l1.st with
   | .ready=>match By C call (some b) false m ls.body x.fr (x.h.put b<|.loop { l1 with st:=.busy }) x.ds with
    |some d=>bl d fun y=>match y.h.get b with
     |some (.loop c)=>match y.e with
      | .normal=>some [(.bool true,y.h.put b<|.loop { c with st:=.ready,pend:=none })]
      | .ret=>some [(.bool false,y.h.put b<|.loop { c with st:=.done,pend:=some .ret })]
      | .exit i=>some [(.bool false,y.h.put b<|.loop { c with st:=.done,pend:=some (.exit i) })]
     |_=>none
    |none=>none
   |_=>none
  |_,_=>none
 |none=>none
mutual
def LV:V->List Nat
 | .ptr b _| .sl b _ _ _ _| .map b| .yld b=>[b]
 | .fn _ a b=>IS a++IS b
 | .iface _ v=>LV v
 | .agg l| .tup l=>IS l
 |_=>[]
def IS:List V->List Nat
 |[]=>[]
 |v::vs=>LV v++IS vs
end
def Aaj:O->List Nat
 | .cells cs _ _=>IS cs
 | .map es _=>es.flatMap fun e=>LV e.1++LV e.2.1
 |_=>[]
def reach(h:H)(n0:Nat):Nat->List Nat->List Nat->List Nat
 |0,_,acc=>acc
 |_+1,[],acc=>acc
 |f+1,b::c,acc=>bif zw b n0||acc.any (zc b)then reach h n0 f c acc
  else match h.get b with
   |some o=>reach h n0 f (Aaj o++c) (b::acc)
   |none=>reach h n0 f c acc
def OL(Q5:List Nat):Nat->Nat->H->H
 |0,_,h=>h
 |f+1,b,h=>OL Q5 f (b+1)<|bif Q5.any (zc b)then h else h.kill b
def Adg:O->Bool
 | .loop l=>match l.st with| .exhausted=>true|_=>false
 |_=>false
def V9:Option O->Option O
 |some o=>bif Adg o then none else some o
 |none=>none
def UA:PM O->PM O
 | .leaf=>.leaf
 | .node l v r=>.node (UA l) (V9 v)<|UA r
theorem Mh:∀(q:Hx) (m:PM O),q.get (UA m)=V9 (q.get m)
 |Hx.here,PM.leaf=>rfl
 |Hx.l _,PM.leaf=>rfl
 |Hx.r _,PM.leaf=>rfl
 |Hx.here,PM.node _ _ _=>rfl
 |Hx.l q,PM.node l _ _=>Mh q l
 |Hx.r q,PM.node _ _ r=>Mh q r
def H.sift(h:H):H:=⟨UA h.m,h.nx⟩
theorem VY{p:Pl}{h:H}{w:World}(hr:R p h w):Ext p h w p h.sift w:=by
 have sub:∀b o,h.sift.get b=some o->h.get b=some o:=by
  intro b o c;have:h.sift.get b=V9 (h.get b):=Mh _ _;rw[this]at c;cases j:h.get b with
  |none=>rw[j]at c;cases c
  |some x=>
   grind [V9]
 refine⟨(by simp),⟨hr.len,fun b o c=>hr.obj b o<|sub b o c,fun b b' o o' r n n' c i=>hr.inj b b' o o' r n n' (sub b o c) ah⟩,Nat.le_refl _,(by simp),fun r m=>?_,rfl,rfl,rfl,fun r l d=>⟨rfl,?_⟩,Nat.le_refl _⟩
 ·grind [Im]
 ·obtain⟨b,n,cs,t,fz,e,g,f⟩:=d;refine .inl ⟨b,n,cs,t,fz,?_,g,f⟩;rw[show h.sift.get b=V9 (h.get b)from Mh _ _,e];rfl
def gcO(n0:Nat)(x:V×H):V×H:=(x.1,OL (reach x.2 n0 1000 (LV x.1) []) (x.2.nx-n0) n0 x.2.sift)
def iM:List (V×V×Nat)->List (V×V×Nat)->Bool
 |[],[]=>true
 |(a,b,c)::l,(e,b',d)::l'=>V.beq a e&&V.beq b b'&&zc c d&&iM l l'
 |_,_=>false
def Qp:List Nat->List Nat->Bool
 |[],[]=>true
 |a::l,b::l'=>zc a b&&Qp l l'
 |_,_=>false
def AdQ:O->O->Bool
 | .cells cs t fz,.cells cs' j fz'=>V.LJ cs cs'&&zc t j&&zc fz.1 fz'.1&&zc fz.2 fz'.2
 | .map es c,.map e i=>iM es e&&zc c i
 | .siter s n,.siter g n'=>s==g&&zc n n'
 | .miter none a l b,.miter none d l' b'=>zc a d&&Qp l l'&&zc b b'
 | .miter (some m) a l b,.miter (some f) d l' b'=>zc m f&&zc a d&&Qp l l'&&zc b b'
 | .defd a,.defd b=>a==b
 |_,_=>false
def Sg:Option O->Option O->Bool
 |none,none=>true
 |some a,some b=>AdQ a b
 |_,_=>false
def PB:PM O->PM O->Bool
 | .leaf,.leaf=>true
 | .node l v r,.node l' v' c=>Sg v v'&&PB l l'&&PB r c
 |_,_=>false
def Zt(x y:V×H):Bool:=V.beq x.1 y.1&&zc x.2.nx y.2.nx&&PB x.2.m y.2.m
def dedup:List (V×H)->List (V×H)
 |[]=>[]
 |x::l=>let r:=dedup l;bif r.any (Zt x)then r else x::r
def Qs(n0:Nat):List (V×H)->List (V×H)
 |[]=>[]
 |[x]=>[x]
 |l=>dedup<|l.map<|gcO n0
theorem cB:∀ {a b:List (V×V×Nat)},iM a b=true->a=b
 |[],[],_=>rfl
 |[],_::_,h=>by simp[iM]at h
 |_::_,[],h=>by simp[iM]at h
 |(a,b,c)::l,(e,b',d)::l',h=>by
  simp only[iM,zd]at h;rw[V.beq_eq h.1.1.1,V.beq_eq h.1.1.2,ze h.1.2,cB h.2]
theorem P9:∀ {a b:List Nat},Qp a b=true->a=b
 |[],[],_=>rfl
 |[],_::_,h=>by simp[Qp]at h
 |_::_,[],h=>by simp[Qp]at h
 |a::l,b::l',h=>by
  simp only[Qp,zd]at h;rw[ze h.1,P9 h.2]
theorem aQ{a b:O}(h:AdQ a b=true):a=b:=by
 unfold AdQ at h;split at h
 ·grind [V.Ik,ze]
 ·grind [cB,ze]
 ·simp_all
 ·grind [ze,P9]
 ·grind [ze,P9]
 ·grind
 grind
theorem QG:∀ {a b:PM O},PB a b=true->a=b
 | .leaf,.leaf,_=>rfl
 | .leaf,.node _ _ _,h=>by simp[PB]at h
 | .node _ _ _,.leaf,h=>by simp[PB]at h
 | .node l v r,.node l' v' c,h=>by
  simp only[PB,zd]at h;rw[QG h.1.2,QG h.2];congr 1;cases v<;>cases v'<;>first|rfl|exact wi some (aQ h.1.1)|(simp[Sg]at h)
theorem oI{x y:V×H}(h:Zt x y=true):x=y:=by
 simp only[Zt,zd]at h;obtain⟨v,m,n⟩:=x;obtain⟨v',m',n'⟩:=y;grind [V.beq_eq,ze,QG]
theorem MH:∀ {l:List (V×H)} {x:V×H},x∈l->x∈dedup l
 |a::l,x,h=>by
  unfold dedup;simp only;cases c:(dedup l).any (Zt a)with
  |true=>
   rcases zr.1 h with rfl|h
   ·grind [oI]
   ·exact MH h
  |false=>
   rcases zr.1 h with rfl|h
   ·simp
   ·exact List.mem_cons_of_mem _<|MH h
theorem I9(Q5:List Nat):∀(f b:Nat) {p:Pl} {h:H} {w:World},R p h w->Ext p h w p (OL Q5 f b h) w
 |0,_,_,_,_,hr=>zo hr
 |f+1,b,p,h,w,hr=>by
  unfold OL;cases Q5.any (zc b)with
  |true=>exact I9 Q5 f (b+1) hr
  |false=>exact(Ext.kill hr b).trans<|I9 Q5 f (b+1)<|hr.kill b
theorem G1.merge{l:List (V×H)}{n0:Nat}{e:Ending}{w':World}(i:G1 p h w l e w'):G1 p h w (Qs n0 l) e w':=by
 obtain⟨v,h',v',p',d,g,f,c⟩:=i;unfold Qs;split
 ·cases d
 ·exact⟨v,h',v',p',d,g,f,c⟩
 ·exact⟨v,(gcO n0 (v,h')).2,v',p',MH<|zu.2 ⟨_,d,rfl⟩,g,f,c.trans<|(VY c.rel).trans<|I9 _ _ _ (VY c.rel).rel⟩
def Ba(C:Ctx):Nat->Dw
 |0=>fun _ _=>none
 |n+1=>fun c h=>
  match c with
  | .rnd b ls fr=>Ub C n (Ba C n) b ls fr h
  | .fn f args=>
   match C.spec f with
   |some q=>match q args h with
    |some x=>some [x]
    |none=>none
   |none=>
    match C.fn f with
    |none=>none
    |some i=>
     match By C (Ba C n) none i.cert n i.body (NU i.ntmps args) h []with
     |none=>none
     |some l=>match (bl l fun x=>match x.e with
      | .exit _=>none
      |_=>match G7 x.ds x.h with
       |some d=>match Rx C x.fr d i.results.toList with
        |some v=>some [(v,d)]
        |none=>none
       |none=>none)with
      |some r=>some<|bif C.mg then Qs h.nx r else r
      |none=>none
theorem NG(hr:R p h w){b r n:Nat}{ls:LS}(d:h.get b=some (.loop ls))(hp:p[b]?=some (r,n)):
  ∃rec:Loop,w.heap[r]?=some (.loop rec)/\rec.state=ls.st/\rec.pending=ls.pend/\∀(st:LoopState) (c:Option Code),Ext p h w p (h.put b<|.loop { ls with st:=st,pend:=c }) (w.putObj r<|.loop { rec with state:=st,pending:=c }):=by
 obtain⟨i,n',x,u1,u2,f0,tmps,rd,f,e,g,rfl⟩:=hr.obj _ _ d;rw[hp]at u1;cases u1;exact⟨_,u2,rfl,rfl,fun st c=>Ext.put hr d hp (o':=.loop { ls with st:=st,pend:=c }) ⟨f0,tmps,rd,f,e,g,rfl⟩ rfl rfl rfl rfl⟩
theorem Nh(G:C.Ok P){call:Dw}(c:call.Ok C P)(I:P.follows .mixedOrders=true){b:Nat}{ls:LS}{l:List (V×H)}{k m B:Nat}(q:Ub C B call b ls fr h=some l){f:FuncId}{tmps:Array Value}
  (hr:R p h w) (M:Gl C p) (hp:p[b]?=some (k,m)) (S:EE p fr tmps):RoundIn zp 0 P k f tmps ls.asg ls.body w (G1 p h w l):=by
 unfold Ub at q;split at q
 case h_2=>cases q
 rename_i L W;refine roundIn_of_wpIn trivial ?_;refine(Lu (k:=some k) (n:=0) G c I B false ls.asg (by simp) W p { tmps:=tmps,defers:=[] } w _ hr M S rfl ⟨m,hp⟩ fun x X A a1 K u g D=>?_).1;obtain⟨L1,j,g2⟩:=IM q x X;split at j
 case h_2=>cases j
 rename_i l1 z v;split at j
 case h_2=>cases j
 rename_i E;split at j
 case h_2=>cases j
 rename_i L2 r;rw[z];obtain⟨rec,q1,U,Z,q4⟩:=NG g.rel v<|g.at hp;refine⟨_,run_beginRound q1<|U.trans E,?_⟩;have o:Ext A x.h K A (x.h.put b<|.loop { l1 with st:=.busy }) (K.putObj k<|.loop { rec with state:=.busy }):=by
  grind
 have ex:=g.trans o;refine(Lu (k:=some k) (n:=0) G c I B false ls.body (by simp) r A a1 _ _ o.rel (M.ext ex) u D ⟨m,g.at hp⟩ fun y N s a2 w2 Y d T=>?_).1;obtain⟨L3,t1,t2⟩:=IM j y N;split at t1
 case h_2=>cases t1
 rename_i l3 t;obtain⟨J,s1,s2,s3,s4⟩:=NG d.rel t<|d.at (g.at hp);cases O:y.e with
 |normal=>
  exact⟨_,_,run_endRound none s1,.bool true,_,.bool true,s,ah,rfl,by rfl,ex.trans<|d.trans<|s4 .ready none⟩
 |ret=>
  exact⟨_,_,run_endRound (some .ret) s1,.bool false,_,.bool false,s,ah,rfl,by rfl,ex.trans<|d.trans<|s4 .done<|some .ret⟩
 |exit i=>
  exact⟨_,_,(by grind [run_endRound]),.bool false,_,.bool false,s,ah,rfl,by rfl,ex.trans<|d.trans<|s4 .done<|some<|.exit i⟩
def GO(C:Ctx):Prop:=∀f i,C.fn f=some i->i.cert=true->DH i.body=true
theorem Hs(s:C.Ok P)(t:GO C)(y:P.follows .mixedOrders=true):∀n,(Ba C n).Ok C P
 |0=>⟨fun f args h l c=>(by cases c),fun b ls fr h l c=>(by cases c)⟩
 |n+1=>by
  refine⟨fun f args h l c p w args' hr z G=>?_,fun b ls fr h l c p w k m f tmps hr z hb hp N=>Nh s (Hs s t y n) y c hr z hp N⟩;unfold Ba at c;simp only at c;split at c
  case h_1=>
   rename_i q hq;split at c
   case h_2=>cases c
   rename_i x D;cases c;refine(s.spec f q hq p h w args args' x.1 x.2 hr z G D).mono ?_;rintro e w' ⟨v',p',rfl,o,J⟩;exact⟨x.1,x.2,v',p',(by simp),rfl,o,J⟩
  case h_2=>
   split at c
   case h_1=>cases c
   rename_i i K;split at c
   case h_1=>cases c
   rename_i L W;split at c
   case h_2=>cases c
   rename_i lr A;cases c;refine Calls.mono ?_ (fun e w' I=>(show G1 p h w (bif C.mg then Qs h.nx lr else lr) e w' from by cases C.mg with|true=>exact G1.merge I|false=>exact I));have c:=A;generalize lr=l at c;obtain⟨fn,r,R,O,h4,S⟩:=s.fn f i K;have X:=t f i K;refine callsIn_wide.1<|callsIn_of_wp_marks (F:=zp) (n:=0) r O trivial ?_;rw[h4];refine(Lu (k:=none) (n:=0) s (Hs s t y n) y n i.cert i.body X W p _ w _ hr z (tD G i.ntmps) rfl trivial fun x D Z a1 w1 B u E=>?_).1;obtain⟨L1,o,J⟩:=IM c x D;have fin:∀ {r:H} {v:V},G7 x.ds x.h=some r->Rx C x.fr r i.results.toList=some v->L1=[(v,r)]->LeavesInM zp 0 P fn a1.tmps (G1 p h w l) a1.defers .returning w1:=by
    intro r v g d M;obtain⟨w2,q1,U⟩:=RP (P:=P) (fn:=fn) (tmps:=a1.tmps) (n:=0) E u.rel g;obtain⟨v',s1,s2⟩:=Aaa (P:=P) (fn:=fn) s.T q1.rel (B.ext q1) (by rw[S];exact d);exact U _ ⟨v',s1,v,r,v',Z,ah,rfl,s2,u.trans q1⟩
   split at o
   case h_1=>cases o
   case h_2=>
    split at o
    case h_2=>cases o
    rename_i R g;split at o
    case h_2=>cases o
    rename_i v d;cases o;cases Y:x.e with
    |normal=>exact fin g d rfl
    |ret=>exact fin g d rfl
    |exit j=>grind
end
def oP(P:Program)(t:TypeId):Option TI:=
 match P.info? t with
 |some i=>match i.zero with
  |some z=>match cv z with
   |some v=>some ⟨i.size,i.bytes,v⟩
   |none=>none
  |none=>none
 |none=>none
theorem pL{P:Program}{t:TypeId}{i:TI}(h:oP P t=some i):∃j v,P.info? t=some j/\j.size=i.size/\j.bytes=i.bytes/\j.zero=some v/\∀p,Ae p i.zv v:=by
 unfold oP at h;split at h
 case h_2=>cases h
 split at h
 case h_2=>cases h
 split at h
 case h_2=>cases h
 cases h;simp_all [XD]
def yI(P:Program)(t:TypeId):Option FK:=
 match P.underlying t with
 |some (.int k)=>some<|.int k
 |some .string=>some .str
 |some .bool=>some .bool
 |_=>none
def Qw(P:Program):List Field->Nat->Option (List FK)
 |[],_=>some []
 | f :: fs, i => if f.name = "_" \/ f.offset ≠ i then none else match yI P f.type, Qw P fs (i + 1) with
  |some k,some ks=>some (k::ks)
  |_,_=>none
def Yw(P:Program)(t:TypeId):Option (List FK):=
 match P.underlying t with
 |some (.struct fs)=>if P.stoodInHeld t=true\/P.eqGuardType P.depth t=true then none else Qw P fs.toList 0
 |_=>none
def XB:TypeDesc->Bool
 | .pointer _=>false
 |_=>true
def pE(P:Program)(t:TypeId)(name:String):Option FuncId:=
 match P.info? t,P.underlying t with
 |some j,some d=>match j.methods.find? (·.name==name)with
  |some m=>match m.path,m.func with
   |⟨[]⟩,some (f,false)=>bif XB d then some f else none
   |_,_=>none
  |none=>none
 |_,_=>none
theorem kX{P:Program}{t:TypeId}{name:String}{f:FuncId}(h:pE P t name=some f):∃j m d,P.info? t=some j/\j.methods.find? (·.name==name)=some m/\m.path= #[]/\m.func=some (f,false)/\P.underlying t=some d/\∀e,d≠ .pointer e:=by
 unfold pE at h;split at h
 case h_2=>cases h
 rename_i j d c g;split at h
 case h_2=>cases h
 split at h
 case h_2=>cases h
 cases hp:XB d with
 |false=>grind
 |true=>
  grind [XB]
def Abj(P:Program):B6:=⟨P.underlying,oP P,Yw P,pE P⟩
section
variable {P:Program}{p:Pl}
theorem Pf{t:TypeId}{k:FK}(h:yI P t=some k):∃d,P.underlying t=some d/\Ed d=false/\(∀e,d≠ .interface e)/\match k with
  | .int k=>d=.int k
  | .str=>d=.string
  | .bool=>d=.bool:=by
 unfold yI at h;split at h
 case h_1=>rename_i c;cases h;exact⟨_,c,rfl,(by simp),rfl⟩
 case h_2=>rename_i c;cases h;exact⟨_,c,rfl,(by simp),rfl⟩
 case h_3=>rename_i c;cases h;exact⟨_,c,rfl,(by simp),rfl⟩
 grind
theorem PE{t:TypeId}{d:TypeDesc}(g:P.underlying t=some d)(e:Ed d=false){cs:Array Value}{i:Nat}{v:Value}(f:cs[i]?=some v)(w:World):(part t cs i).run P w=.ok v w:=by
 unfold part isAgg;have c:(underlying t).run P w=.ok d w:=by simp_all [underlying]
 simp only[zk,c,zj];cases d<;>first|(cases e;done)|simp[f]
theorem cC{t:TypeId}{k:FK}(h:yI P t=some k){a b:V}{f b':Value}(c:k.ok a=true)(e:k.ok b=true)(g:Ae p a f)(i:Ae p b b'){r:Bool}(j:Es a b=some r)(d:Nat)(w:World):
  (Op.equalIn (d+1) t f b').run P w=.ok r w:=by
 obtain⟨D,m,_,_,l⟩:=Pf h;cases k with
 |int k=>
  cases a<;>simp only[FK.ok]at c<;>try (cases c;done)
  cases b<;>simp only[FK.ok]at e<;>try (cases e;done)
  grind [Ae,Es,run_equalIn_int]
 |str=>
  cases a<;>simp only[FK.ok]at c<;>try (cases c;done)
  cases b<;>simp only[FK.ok]at e<;>try (cases e;done)
  grind [Ae,Es,run_equalIn_string,Jm]
 |bool=>
  cases a<;>simp only[FK.ok]at c<;>try (cases c;done)
  cases b<;>simp only[FK.ok]at e<;>try (cases e;done)
  grind [Ae,Es,run_equalIn_bool']
theorem UD:∀ {ks:List FK} {x:List V},fit ks x=true->ks.length=x.length
 |[],[],_=>rfl
 |[],_::_,h=>by simp[fit]at h
 |_::_,[],h=>by simp[fit]at h
 |k::ks,v::vs,h=>by
  unfold fit at h;cases c:k.ok v with
  |false=>grind
  |true=>simp only[c,we]at h;simp[UD h]
theorem Mj(d:Nat){w:World}{x' y':Array Value}:∀ {fs:List Field} {i:Nat} {ks:List FK},Qw P fs i=some ks->∀ {x y:List V} {u v:List Value},fit ks x=true->fit ks y=true->Aw p x u->Aw p y v->
  (∀j a,u[j]?=some a->x'[i+j]?=some a)->(∀j a,v[j]?=some a->y'[i+j]?=some a)->∀ {r:Bool},BX x y=some r->(Op.eqFields (d+1) x' y' fs).run P w=.ok r w
 |[],i,ks,e,x,y,u,v,z,A,_,_,_,_,r,t=>by
  cases e;cases x with
  |cons _ _=>simp[fit]at z
  |nil=>cases y with
   |cons _ _=>simp[fit]at A
   |nil=>simp_all [BX,Op.eqFields]
 |f::fs,i,ks,e,x,y,u,v,z,A,N,W,M,L,r,t=>by
  unfold Qw at e;split at e
  case isTrue=>cases e
  have q : f.name ≠ "_" := ah;have m:f.offset=i:=ae;split at e
  case h_2=>cases e
  rename_i k o B T;cases e;cases x with
  |nil=>simp[fit]at z
  |cons a x=>cases y with
   |nil=>simp[fit]at A
   |cons b y=>
    obtain⟨S,X,rfl,s,G⟩:=N;obtain⟨b',v',rfl,hv1,hv2⟩:=W;have K:k.ok a=true:=by grind [fit]
    have J:k.ok b=true:=by grind [fit]
    have R:fit o x=true:=by grind [fit]
    have O:fit o y=true:=by grind [fit]
    obtain⟨D,l,g,_,_⟩:=Pf B;have I:=PE l g (M 0 S rfl) w;have pb:=PE l g (L 0 b' rfl) w;simp only[Nat.add_zero]at I pb;simp only[Op.eqFields,q,vc,not_false_eq_true,wm,zk,m,I,pb,zj];unfold BX at t;split at t
    case h_1=>
     rename_i E;rw[cC B K J s hv1 E];exact Mj d T R O G hv2 (fun j c U=>by have:=M (j+1) c ah;grind) (fun j c U=>by have:=L (j+1) c ah;grind) t
    case h_2=>
     rename_i E;rw[cC B K J s hv1 E];simp_all
    grind
theorem Kv{b:Bool}{w:World}{x':Array Value}:∀ {fs:List Field} {i:Nat} {ks:List FK},Qw P fs i=some ks->∀ {x:List V} {u:List Value},fit ks x=true->Aw p x u->
  (∀j a,u[j]?=some a->x'[i+j]?=some a)->
  (forIn (m := Sem) fs PUnit.unit fun f _ => if f.name ≠ "_" then do
    zm b 9999 f.type (<-part f.type x' f.offset)
    pure (ForInStep.yield zt)
   else do
    pure zt
    pure (ForInStep.yield zt)).run P w=.ok zt w
 |[],i,ks,d,x,u,s,_,_=>by simp
 |f::fs,i,ks,d,x,u,s,y,t=>by
  unfold Qw at d;split at d
  case isTrue=>cases d
  split at d
  case h_2=>cases d
  rename_i k o v z;cases d;cases x with
  |nil=>simp[fit]at s
  |cons a x=>
   obtain⟨r,K,rfl,A,q⟩:=y;have G:fit o x=true:=by grind [fit]
   obtain⟨D,g,l,E,_⟩:=Pf v;have J:=PE g l (t 0 r rfl) w;have B:(zm b 9999 f.type r).run P w=.ok () w:=by
    unfold zm;have e:(underlying f.type).run P w=.ok D w:=by simp_all [underlying]
    simp only[zk,e,zj];cases D<;>first|rfl|grind|grind
   have I:=Kv (b:=b) (w:=w) (x':=x') z G q (fun j c L=>by have:=t (j+1) c ah;grind);simp_all
theorem Adz(P:Program):(Abj P).Ok P:=by
 have key:∀t ks,Yw P t=some ks->∃fs,P.underlying t=some (.struct fs)/\P.stoodInHeld t=false/\P.eqGuardType P.depth t=false/\Qw P fs.toList 0=some ks:=by
  grind [Yw]
 refine⟨fun t d h=>h,fun t i h=>pL h,?_,?_,?_,?_,fun t name f h=>kX h⟩
 ·intro t ks h p x y x' y' r w o u m q s;obtain⟨fs,c,l,g,e⟩:=key t ks h;grind [Program.fieldsOf,Op.equal,Op.maxDepth,run_equalIn_struct,Mj]
 ·intro t ks h;obtain⟨fs,c,l,g,e⟩:=key t ks h;exact g
 ·intro t ks h p x x' b w o m;obtain⟨fs,c,l,g,e⟩:=key t ks h;unfold zm;have j:(underlying t).run P w=.ok (.struct fs) w:=by simp_all [underlying]
  have:=Kv (b:=b) (w:=w) (x':=x') e o m (by simp);simp_all
 ·intro t ks h;obtain⟨fs,c,_⟩:=key t ks h;exact⟨fs,c⟩
end
def Rl(P:Program)(ct:FuncId->Bool)(f:FuncId):Option Fn:=
 match P.funcs[f]? with
 |some fn=>match fn.body with
  | some b => if fn.name = "runtime.NumGoroutine" then none else some ⟨fn.ntmps, fn.results, b, ct f⟩
  |none=>none
 |none=>none
theorem vO {P : Program} {ct : FuncId -> Bool} {f : FuncId} {i : Fn} (h : Rl P ct f = some i) : ∃ fn, P.funcs[f]? = some fn /\ fn.name ≠ "runtime.NumGoroutine" /\ fn.body = some i.body /\ fn.ntmps = i.ntmps /\ fn.results = i.results := by
 unfold Rl at h;grind
inductive PK where
 |indexByte
 |add64
 |sub64
 |count
 |noEsc
def Ra:Array Value->Sem Value:=fun args=>do
 let (x, y, b) <- Extern.MathBitsCarry.three "Sub64" args
 pure (zn ((x+zi-y-b) % zi) (if x<y+b then 1 else 0))
def PK.entry:PK->Array Value->Sem Value
 | .indexByte=>Extern.BytealgIndexByte.indexByte
 | .add64=>add64Entry
 | .sub64=>Ra
 | .count=>Extern.BytealgCount.count
 | .noEsc=>Extern.AbiNoEscape.same
def Wq:Option Nat->V
 |some i=>i64 i
 |none=>.int .i64<| -1
def kH:Nat:=18446744073709551616
def PK.run:PK->List V->H->Option (V×H)
 | .indexByte,[.str s,.int .u8 c],h=>some (Wq<|s.findIdx? fun x=>x==c.toNat.toUInt8,h)
 | .add64,[.int .u64<|.ofNat x,.int .u64<|.ofNat y,.int .u64<|.ofNat c],h=>
  bif Nat.ble c 1 then some (.tup [.int .u64<|.ofNat<|(x+y+c) % kH,.int .u64<|.ofNat<|(x+y+c)/kH],h)else none
 | .sub64,[.int .u64<|.ofNat x,.int .u64<|.ofNat y,.int .u64<|.ofNat c],h=>
  bif Nat.ble c 1 then some (.tup [.int .u64<|.ofNat<|(x+kH-y-c) % kH,.int .u64<|.ofNat<|bif zw x (y+c)then 1 else 0],h)else none
 | .count,[.str s,.int .u8 c],h=>some (.int .i64 (s.foldl (fun n x=>bif x==c.toNat.toUInt8 then Nat.add n 1 else n) 0:Nat),h)
 | .noEsc,[.ptr b o],h=>some (.ptr b o,h)
 |_,_,_=>none
theorem Rq(s:Rd)(c:UInt8):((List.range (bytesOf s).size).find? fun i=>(bytesOf s)[i]! ==c)=s.findIdx? fun x=>x==c:=by
 have key:∀(l pre:Rd),pre++l=s->((List.range' pre.length l.length).find? fun i=>(bytesOf s)[i]! ==c)=(l.findIdx? fun x=>x==c).map (· +pre.length):=by
  intro l;induction l with
  |nil=>simp
  |cons a l f=>
   intro pre hp;have d:(bytesOf s)[pre.length]! =a:=by
    grind [BZ,bytesOf,ByteArray.getElem_eq_getElem_data]
   rw[List.length_cons,List.range'_succ,List.find?_cons,d,List.findIdx?_cons];cases e:a==c with
   |true=>simp
   |false=>
    have:=f (pre++[a]) ah;simp only[List.length_append,List.length_singleton]at this;simp only[this,Bool.false_eq_true,vf,Option.map_map];congr 1;grind
 have:=key s [] rfl;simp_all [List.range_eq_range',BZ]
theorem Aw.three{p:Pl}{a b c:V}{l:List Value}(h:Aw p [a,b,c] l):∃x y z,l=[x,y,z]/\Ae p a x/\Ae p b y/\Ae p c z:=by
 simp only[Aw]at h;grind
theorem PK.sim{P:Program}{k:PK}{p:Pl}{h:H}{w:World}{args:List V}{args':Array Value}{v:V}{h':H}(g:Aw p args args'.toList)(d:k.run args h=some (v,h')):
  h'=h/\∃v',(k.entry args').run P w=.ok v' w/\Ae p v v':=by
 unfold PK.run at d;split at d
 case h_6=>cases d
 case h_5=>
  cases d;obtain⟨x,i,e⟩:=g.one;have:args'= #[x]:=ah;subst this;exact⟨rfl,x,(by rfl),e⟩
 case h_1=>
  rename_i s c;cases d;obtain⟨x,y,i,e,f⟩:=g.two;have:args'= #[x,y]:=ah;subst this;subst e f;refine⟨rfl,_,run_indexByte_string (bytesOf s) c w,?_⟩;unfold firstIdx;rw[Rq];grind [Wq,i64,Ae]
 case h_2=>
  rename_i x y c;rw[show Nat.ble c 1=decide (c<=1)from by rw[Bool.eq_iff_iff];simp]at d;by_cases j:c<=1
  ·simp only[j,decide_true,we,zf,zq]at d;obtain⟨rfl,rfl⟩:=d;obtain⟨x',y',z',i,e,f,h3⟩:=g.three;have:args'= #[x',y',z']:=ah;subst this;subst e f h3;refine⟨rfl,_,run_add64 x y c ae ae ae ae w,?_⟩;simp_all [Ae,kH]
  grind
 case h_3=>
  rename_i x y c;rw[show Nat.ble c 1=decide (c<=1)from by rw[Bool.eq_iff_iff];simp]at d;by_cases j:c<=1
  ·simp only[j,decide_true,we,zf,zq]at d;obtain⟨rfl,rfl⟩:=d;obtain⟨x',y',z',i,e,f,h3⟩:=g.three;have:args'= #[x',y',z']:=ah;subst this;subst e f h3;have key:(Ra #[.int .u64 x,.int .u64 y,.int .u64 c]).run P w=
     .ok (zn ((x+zi-y-c) % zi)<|if x<y+c then 1 else 0) w:=by
    have:c=0\/c=1:=ae
    rcases this with rfl|rfl<;>rfl
   refine⟨rfl,_,key,?_⟩;refine⟨_,rfl,?_⟩;simp only[Bh,JI,ve,Ae];refine⟨rfl,?_⟩;grind [Hu]
  grind
 case h_4=>
  rename_i s c;cases d;obtain⟨x,y,i,e,f⟩:=g.two;have:args'= #[x,y]:=ah;subst this;subst e f;refine⟨rfl,_,Lib.run_countString (bytesOf s) c w,?_⟩;have key:∀(l:Rd) (n:Nat),l.foldl (fun n x=>bif x==c.toNat.toUInt8 then Nat.add n 1 else n) n=n+Lib.countByte l c.toNat.toUInt8:=by
   intro l;induction l with
   |nil=>grind [Lib.countByte]
   |cons x l m=>
    intro n;rw[List.foldl_cons,m];unfold Lib.countByte;grind
  simp_all [Ae,bytesOf]
def Up(L:List (FuncId×PK))(f:FuncId):Option (List V->H->Option (V×H)):=
 match L with
 |[]=>none
 |(g,k)::L=>bif zc g f then some k.run else Up L f
structure KZ(P:Program)(x:FuncId×PK):Prop where
 ok : ∃ fn, P.funcs[x.1]? = some fn /\ (fn.name == "runtime.NumGoroutine") = false /\ fn.body.isNone = true /\ Extern.findNext fn = none /\ Extern.find fn = some x.2.entry
theorem Z6{P:Program}:∀ {L:List (FuncId×PK)},(∀x∈L,KZ P x)->∀f q,Up L f=some q->∀(p:Pl) (h:H) (w:World) (args:List V) (args':Array Value) v h',R p h w->Aw p args args'.toList->q args h=some (v,h')->
  ∃v' p' w',(callFunc f args').run P w=.ok (.value v') w'/\Ae p' v v'/\Ext p h w p' h' w'
 |[],_,f,q,c,_,_,_,_,_,_,_,_,_,_=>by cases c
 |(g,k)::L,j,f,q,c,p,h,w,args,args',v,h',hr,d,i=>by
  unfold Up at c;rw[Bn]at c;by_cases e:g=f
  ·subst e;simp only[decide_true,we,zf]at c;subst c;obtain⟨fn,l,o,m,s,r⟩:=(j (g,k)<|by simp).ok;obtain⟨rfl,v',g1,g2⟩:=PK.sim (P:=P) (w:=w) d i;refine⟨v',p,w,?_,g2,zo hr⟩;simp_all [run_callFunc_extern]
  ·simp only[e,decide_false,wg]at c;exact Z6 ah f q c p h w args args' v h' hr d i
def Afq:Option (List<|V×H)->Option V
 |some [(v,_)]=>some v
 |_=>none
def bH(C:Ctx)(n:Nat)(f:FuncId)(args:List V)(v:V):Bool:=match Afq (Ba C n (.fn f args) hG)with
 |some x=>V.beq x v
 |none=>false
theorem XG{C C':Ctx}{P:Program}(G:C.Ok P)(s:GO C)(E:P.follows .mixedOrders=true){n:Nat}{f:FuncId}{args:List V}{v:V}
  (j:bH C n f args v=true) (A:V.IF args=true) (q:v.flat=true) {p:Pl} {h:H} {w:World} {args':Array Value} (hr:R p h w) (z:Gl C' p) (D:Gh h) (c:Aw p args args'.toList):
  Calls P f args' w fun e w'=>∃v' p',e=.returned v'/\Ae p' v v'/\Ext p h w p' h w':=by
 unfold bH at j;split at j
 case h_2=>cases j
 rename_i x i;have t:x=v:=V.beq_eq j;subst t;unfold Afq at i;split at i
 case h_2=>cases i
 rename_i l L J;cases i;refine((Hs G s E n).fn f args hG _ J _ w args' (AcV hr z D) z.take<|V.JQ A c).mono ?_;rintro e w' ⟨u,h',v',p',g,rfl,B,d⟩;cases zg.1 g;have K:∀r,r<w.heap.size->w'.heap[r]?=w.heap[r]?:=fun r hr=>d.Fg z.take r hr
 refine⟨v',p,rfl,V.C4 q B,⟨(by simp),⟨hr.len,fun b o I=>?_,hr.inj⟩,d.size,ah,ah,d.os,d.out,d.tape,ah,d.dr⟩⟩;obtain⟨r,m,y,O,N,M⟩:=hr.obj b o I;grind
def uX(h:H):List (Nat×O)->Bool
 |[]=>true
 |(i,o)::l=>Sg (h.get i) (some o)&&uX h l
theorem ZC{h:H}:∀ {l:List (Nat×O)},uX h l=true->∀x∈l,h.get x.1=some x.2
 |[],_,x,c=>by cases c
 |(i,o)::l,d,x,c=>by
  simp only[uX,zd]at d;rcases zr.1 c with rfl|c
  ·cases e:h.get i with
   |none=>grind [Sg]
   |some q=>grind [aQ,Sg]
  ·exact ZC d.2 x c
def goS:List (Nat×O)->Bool
 |[]=>true
 |(_,o)::l=>Sg (some o) (some o)&&goS l
theorem eP:goS Fg=true:=by rfl
theorem qW{h:H}(c:Gh h):uX h Fg=true:=by
 have key:∀l:List (Nat×O),(∀x∈l,h.get x.1=some x.2)->goS l=true->uX h l=true:=by
  intro l;induction l with
  |nil=>exact fun _ _=>rfl
  |cons x l d=>
   intro e f;simp_all [goS,uX]
 exact key Fg c eP
abbrev Cy:=List<|FuncId×List V×V
def Ff:Cy->FuncId->List V->Option V
 |[],_,_=>none
 |(g,a,v)::l,f,args=>bif zc g f&&V.LJ a args then some v else Ff l f args
def UL:Cy->FuncId->Bool
 |[],_=>false
 |(g,_,_)::l,f=>bif zc g f then true else UL l f
def Ie(L:Cy)(f:FuncId):Option (List V->H->Option (V×H)):=
 bif UL L f then some (fun args h=>bif uX h Fg then(match Ff L f args with|some v=>some (v,h)|none=>none)else none)else none
def AU(C:Ctx)(n:Nat):Cy->Bool
 |[]=>true
 |(f,a,v)::l=>bH C n f a v&&V.IF a&&v.flat&&AU C n l
theorem dL{L:Cy}{f:FuncId}{args:List V}{v:V}(h:Ff L f args=some v){C:Ctx}{n:Nat}(c:AU C n L=true):bH C n f args v=true/\V.IF args=true/\v.flat=true:=by
 induction L with
 |nil=>cases h
 |cons x l d=>
  obtain⟨g,a,u⟩:=x;simp only[AU,zd]at c;unfold Ff at h;cases e:(zc g f&&V.LJ a args)with
  |false=>grind
  |true=>
   grind [ze,V.Ik]
theorem vH{C C':Ctx}{P:Program}(s:C.Ok P)(i:GO C)(r:P.follows .mixedOrders=true){n:Nat}{L:Cy}(l:AU C n L=true):
  ∀f q,Ie L f=some q->∀(p:Pl) (h:H) (w:World) (args:List V) (args':Array Value) v h',R p h w->Gl C' p->Aw p args args'.toList->q args h=some (v,h')->
  Calls P f args' w fun e w'=>∃v' p',e=.returned v'/\Ae p' v v'/\Ext p h w p' h' w':=by
 intro f q j p h w args args' v h' hr z d c;unfold Ie at j;cases o:UL L f with
 |false=>grind
 |true=>
  rw[o]at j;cases j;simp only at c;cases g:uX h Fg with
  |false=>grind
  |true=>
  rw[g]at c;split at c
  case h_2=>cases c
  rename_i u m;cases c;obtain⟨y,x,t⟩:=dL m l;exact XG (C':=C') s i r y x t hr z (ZC g) d
section
def O1(P:Program):Nat->Nat->Bool
 |0,_=>true
 |n+1,a=>(match Rl P (fun _=>true) a with|some i=>DH i.body|none=>true)&&O1 P n (a+1)
variable {P:Program}
theorem R2{ct:FuncId->Bool}{f:FuncId}{i:Fn}(c:Rl P ct f=some i):Rl P (fun _=>true) f=some { i with cert:=true }/\i.cert=ct f:=by
 unfold Rl at c ⊢;cases d:P.funcs[f]? with
 |none=>grind
 |some fn=>
  grind
theorem IW{f:Nat}{i:Fn}{ct:FuncId->Bool}(c:Rl P ct f=some i):∀ {n a:Nat},O1 P n a=true->a<=f->f<a+n->DH i.body=true
 |0,a,_,d,g=>by omega
 |n+1,a,h,d,g=>by
  simp only[O1,zd]at h;by_cases e:a=f
  ·subst e;rw[(R2 c).1]at h;exact h.1
  ·exact IW c h.2 ae ae
def mkC(P:Program)(N:Nat)(L:List (FuncId×PK)):Ctx:=⟨Abj P,0,Rl P<|fun f=>zw f N,Up L,fun _=>none,true⟩
theorem dJ{N:Nat}{L:List (FuncId×PK)}(h:∀f i,f<N->Rl P (fun f=>zw f N) f=some i->DH i.body=true):GO (mkC P N L):=by
 intro f i c d;have c:Rl P (fun f=>zw f N) f=some i:=c;rw[(R2 c).2]at d;exact h f i (Nat.le_of_ble_eq_true d) c
theorem Adt{N:Nat}{L:List (FuncId×PK)}(g:∀x∈L,KZ P x):(mkC P N L).Ok P where
 T:=Adz P
 fn:=fun _ _ h=>vO (P:=P) (ct:=fun f=>zw f N) h
 prim:=fun f q c p h w args args' v h' hr _ d e=>Z6 g f q c p h w args args' v h' hr d e
 spec:=fun f q c=>by cases c
end
end Go.Det
