import Derived.Test.YtjbmodoofdpgcaaGreatDoorX02
import Derived.Laws.StructEq
import Derived.Lib.Bytealg
import Derived.Laws.Externs
/- A part of a proof; no law is stated here. -/
noncomputable section
open Nat renaming beq -> zc, eq_of_beq_eq_true -> ze, blt -> zw
open Bool renaming and_eq_true -> zd
open Option.some renaming injEq -> zf
open List renaming mem_singleton -> zg, mem_cons -> zr, mem_map -> zu
open Array renaming getElem?_eq_some_iff -> zh, getD_eq_getD_getElem? -> zl
open Go.Extern.MathBitsCarry renaming m64 -> zi, pair -> zn
open Go.Result renaming andThen_ok -> zj
open Go.Sem renaming run_bind -> zk
open Go.Instr renaming checkKey -> zm
open Go.Det.Ext renaming refl -> zo
open Go.Fence renaming wide -> zp
open Prod.mk renaming injEq -> zq
open PUnit renaming unit -> zt
namespace Go.Det
mutual
def V.beq:V->V->Bool
 | .bool a,.bool b=>a==b
 | .int k a,.int l b=>k==l&&a==b
 | .str a,.str b=>a==b
 | .nilp,.nilp=>true
 | .ptr a i,.ptr b j=>zc a b&&zc i j
 | .nils,.nils=>true
 | .sl a b c d e,.sl m b' r o q=>zc a m&&zc b b'&&zc c r&&zc d o&&zc e q
 | .esl,.esl=>true
 | .es0,.es0=>true
 | .junk,.junk=>true
 | .nilm,.nilm=>true
 | .map a,.map b=>zc a b
 | .yld a,.yld b=>zc a b
 | .nilf,.nilf=>true
 | .nili,.nili=>true
 | .fn f a b,.fn g c d=>f==g&&V.I5 a c&&V.I5 b d
 | .iface t x,.iface u y=>zc t u&&V.beq x y
 | .agg a,.agg b=>V.I5 a b
 | .tup a,.tup b=>V.I5 a b
 |_,_=>false
def V.I5:List V->List V->Bool
 |[],[]=>true
 |a::c,b::d=>V.beq a b&&V.I5 c d
 |_,_=>false
end
mutual
theorem V.beq_eq:∀ {a b:V},V.beq a b=true->a=b:=by
 intro a b h;cases a<;>cases b<;>simp only[V.beq]at h<;>first
  |(cases h;done)
  |rfl
  |(simp only[zd,wk,Bj,w5]at h;first|(rfl)|(rfl)|(obtain⟨⟨⟨⟨rfl,rfl⟩,rfl⟩,rfl⟩,rfl⟩:=h;rfl))
  |skip
 case fn.fn f a b g c d=>
  simp only[zd,wk]at h;rw[h.1.1,V.Fu h.1.2,V.Fu h.2]
 case iface.iface t x u y=>
  simp only[zd,Bj,w5]at h;rw[h.1,V.beq_eq h.2]
 case agg.agg a b=>rw[V.Fu h]
 case tup.tup a b=>rw[V.Fu h]
theorem V.Fu:∀ {a b:List V},V.I5 a b=true->a=b
 |[],[],_=>rfl
 |[],_::_,h=>by simp[V.I5]at h
 |_::_,[],h=>by simp[V.I5]at h
 |a::c,b::d,h=>by
  simp only[V.I5,zd]at h;rw[V.beq_eq h.1,V.Fu h.2]
end
structure Rc where
 i:Nat
 o:Oper
 f:Fr
 v:V
structure St where
 f:Fr
 h:H
 r:List Rc
def still(C:Ctx)(anc:Nat->Nat->Bool)(i:Nat)(h:H)(r:Rc):Bool:=
 anc i r.i||(match FN C r.f h r.o with
  |some (.val x _)=>V.beq x r.v
  |_=>false)
def Ho(C:Ctx)(call:CJ)(ops:Array Oper)(anc:Nat->Nat->Bool)(i:Nat)(s:St):Option (V×St):=
 match ops[i]? with
 |none=>none
 |some o=>
  bif A3 s.f ops o then
   bif DZ o then
    match FN C s.f s.h o with
    |some (.val v _)=>match s.f.put o.dst v with
     |some c=>some (v,⟨c,s.h,bif OX o then⟨i,o,s.f,v⟩::s.r else s.r⟩)
     |none=>none
    |_=>none
   else bif Cr o then
    match fW C s.f o with
    |some (ob,f)=>match s.f.put o.dst (f s.h.nx)with
     |some c=>some (f s.h.nx,⟨c,s.h.push ob,s.r⟩)
     |none=>none
    |none=>none
   else
    match Dx C call s.f s.h o with
    |some (v,h')=>match s.f.put o.dst v with
     |some c=>bif s.r.all (still C anc i h')then some (v,⟨c,h',s.r⟩)else none
     |none=>none
    |none=>none
  else
   match s.f.put o.dst (.tup [])with
   |some c=>bif Cx o then(bif s.r.all (still C anc i s.h)then some (.tup [],⟨c,s.h,s.r⟩)else none)else some (.tup [],⟨c,s.h,s.r⟩)
   |none=>none
def R9(C:Ctx)(call:CJ)(ops:Array Oper)(anc:Nat->Nat->Bool):List Nat->St->Option St
 |[],s=>some s
 |i::d,s=>match Ho C call ops anc i s with
  |some (_,c)=>R9 C call ops anc d c
  |none=>none
def Ip(C:Ctx)(call:CJ)(ops:Array Oper)(fr:Fr)(h:H):Option (Fr×H):=
 match R9 C call ops (Ea ops).a (Ea ops).ord ⟨fr,h,[]⟩with
 |some s=>some (s.f,s.h)
 |none=>none
def S7(C:Ctx)(call:CJ)(ops:Array Oper)(fr:Fr)(h:H):Option (Fr×H):=
 bif Hp ops (Ea ops)then Ip C call ops fr h else none
def Di:Code->Bool
 | .region _ ops dr=>bif dr then Hp ops (Ea ops)else true
 | .seq a b=>Di a&&Di b
 | .cond _ a b=>Di a&&Di b
 | .block _ b=>Di b
 | .loop b=>Di b
 | .scope b=>Di b
 |_=>true
section
variable {C:Ctx}{P:Program}{call:CJ}{ops:Array Oper}{p:Pl}{h:H}{w:World}{fr:Fr}{a:Act}
theorem Kr{f c:Fr}{d:Option Nat}{v:V}(h:f.put d v=some c):c.n=f.n/\(∀t,c.get t=if d=some t then v else f.get t)/\∀t,d=some t->t<f.n:=by
 unfold Fr.put at h;cases d with
 |none=>grind
 |some s=>
  simp only[FL]at h;by_cases e:s<f.n
  ·grind [Fr.get,PM.Cs]
  grind
theorem Dv{anc:Nat->Nat->Bool}{i:Nat}{s d:St}{v:V}(c:Ho C call ops anc i s=some (v,d)):∃o,ops[i]?=some o/\d.f.n=s.f.n/\(∀t,d.f.get t=if o.dst=some t then v else s.f.get t)/\(∀t,o.dst=some t->t<s.f.n)/\
  ((A3 s.f ops o=false/\v=.tup []/\d.h=s.h)\/
   (A3 s.f ops o=true/\
   ((DZ o=true/\FN C s.f s.h o=some (.val v s.h)/\d.h=s.h)\/
    (Cr o=true/\∃ob f,fW C s.f o=some (ob,f)/\v=f s.h.nx/\d.h=s.h.push ob)\/
    (Cx o=true/\Dx C call s.f s.h o=some (v,d.h)))))/\
  (∀r∈s.r,r∈d.r)/\(DZ o=true->OX o=true->A3 s.f ops o=true->⟨i,o,s.f,v⟩∈d.r)/\
  (Cx o=true->∀r∈s.r,still C anc i d.h r=true):=by
 unfold Ho at c;split at c
 case h_1=>cases c
 rename_i o E;refine⟨o,E,?_⟩;cases y:A3 s.f ops o with
 |false=>
  simp only[y,wg]at c;split at c
  case h_2=>cases c
  rename_i x g;obtain⟨m,l,q⟩:=Kr g;grind
 |true=>
  simp only[y,we]at c;cases e:DZ o with
  |true=>
   simp only[e,we]at c;split at c
   case h_2=>cases c
   rename_i v1 A u;split at c
   case h_2=>cases c
   rename_i x g;obtain⟨rfl,rfl⟩:=c;obtain⟨m,l,q⟩:=Kr g;obtain⟨v2,hv2⟩:=rd_val e u;refine⟨m,l,q,ah,fun r z=>?_,fun _ G _=>?_,(by grind [Ry])⟩
   ·grind
   grind
  |false=>
   simp only[e,wg]at c;cases j:Cr o with
   |true=>
    simp only[j,we]at c;split at c
    case h_2=>cases c
    split at c
    case h_2=>cases c
    rename_i x g;obtain⟨rfl,rfl⟩:=c;obtain⟨m,l,q⟩:=Kr g;exact⟨m,l,q,ah,fun r z=>z,(by simp),(by grind [Ry])⟩
   |false=>
    simp only[j,wg]at c;split at c
    case h_2=>cases c
    rename_i v1 A D;split at c
    case h_2=>cases c
    rename_i x g;obtain⟨m,l,q⟩:=Kr g;cases B:s.r.all (still C anc i A)with
    |false=>grind
    |true=>
     simp only[B,we,zf,zq]at c;obtain⟨rfl,rfl⟩:=c;simp_all [Cx]
theorem LK{anc:Nat->Nat->Bool}:∀(L:List Nat) (s d:St),R9 C call ops anc L s=some d->
  ∃(c:Nat->St) (e:Nat->V),c 0=s/\c L.length=d/\∀(q i:Nat),L[q]?=some i->Ho C call ops anc i (c q)=some (e q,c<|q+1)
 |[],s,d,h=>by
  cases h;exact⟨fun _=>s,fun _=>.nilp,rfl,rfl,(by simp)⟩
 |i::L,s,d,h=>by
  unfold R9 at h;split at h
  case h_2=>cases h
  rename_i v s1 f;obtain⟨c,e,h0,g,l⟩:=LK L s1 d h;refine⟨fun q=>match q with|0=>s|q+1=>c q,fun q=>match q with|0=>v|q+1=>e q,rfl,by omega,fun q j m=>?_⟩;grind
theorem Zr{pl:LZ}(T:Hp ops pl=true){O:St}(hd:R9 C call ops pl.a pl.ord ⟨fr,h,[]⟩=some O):
  ∃(v:Nat->V) (Hh:Nat->H) (F:Nat->Fr),Canon C call ops pl.a (idx pl.ord) (idx pl.pos) fr h v Hh F/\Hh ops.size=O.h/\F ops.size=O.f:=by
 have st:=We T;have hl:=jV T;obtain⟨u,S,h0,hn,hq⟩:=LK pl.ord _ _ hd;have Dx:∀q,q<ops.size->Ho C call ops pl.a (idx pl.ord q) (u q)=some (S q,u<|q+1):=by
  grind [idx]
 have J:∀q,q<=ops.size->(u q).f.n=fr.n:=by
  intro q;induction q with
  |zero=>grind
  |succ q U=>
   intro d;obtain⟨o,_,Z,_⟩:=Dv (Dx q ae);omega
 have A:∀q l,q<=l->l<=ops.size->∀r∈(u q).r,r∈(u l).r:=by
  intro q l X;induction l with
  |zero=>
   grind
  |succ l U=>
   intro d r hr;by_cases e:q=l+1
   ·grind
   ·obtain⟨o,_,_,_,_,_,g,_⟩:=Dv (Dx l ae);exact g r (U ae ae r hr)
 refine⟨fun i=>S<|idx pl.pos i,fun q=>(u q).h,fun q=>(u q).f,⟨by simp[h0],by simp[h0],J,fun q d o z t=>?_,fun i o t z ht=>?_,fun i o z=>?_,fun i j o oj z W M D K Y hlt G=>?_⟩,by grind,by grind⟩
 ·obtain⟨o',m,_,Z,_⟩:=Dv<|Dx q d;simp only[(st.ordp q d).2];grind
 ·have c:=(zh.1 z).1;have R:=st.posp i c;obtain⟨o',m,_,_,g2,_⟩:=Dv<|Dx _ R.1;grind
 ·have c:=(zh.1 z).1;have R:=st.posp i c;obtain⟨o',m,_,_,_,g3,_⟩:=Dv<|Dx _ R.1;simp_all
 ·have c:=(zh.1 z).1;have L:=(zh.1 W).1;have s:=st.posp i c;have B:=st.posp j L;obtain⟨o',m,_,_,_,_,_,g4,_⟩:=Dv<|Dx _ B.1;rw[B.2,W]at m;cases m;have I:=A _ (idx pl.pos i) ae ae _<|g4 D K Y;obtain⟨o'',m,_,_,_,_,_,_,g5⟩:=Dv<|Dx _ s.1;rw[s.2,z]at m;cases m;have E:=g5 M _ I;unfold still at E;rw[B.2]at E;rw[s.2,G]at E;split at E
  case h_2=>cases E
  rename_i x hx N;obtain⟨y,hy⟩:=rd_val D N;grind [V.beq_eq]
theorem OG(g:Hp ops (Ea ops)=true)(j:C.Ok P)(c:call.Ok C P)(i:P.follows .mixedOrders=true)(o:R p h w)(r:Gl C p)(l:Cd p fr a){fr':Fr}{h':H}(f:Ip C call ops fr h=some (fr',h')){id:Nat}{ro:Option Nat}{u:Nat}{Q:Exit->Act->World->Prop}
  (q:∀p' e w',Cd p' fr' e->Ext p h w p' h' w'->e.defers=a.defers->Q .normal e w'):(Code.region id ops true).wpIn (FW ro) u P Q a w:=by
 unfold Ip at f;split at f
 case h_2=>cases f
 rename_i s d;obtain⟨v,Hh,F,t,z,y⟩:=Zr g d;refine aQ j c i (We g) t o r l fun p' e w' A x m=>q p' e w' ?_ ?_ m
 ·grind
 grind
theorem Yp(j:C.Ok P)(d:call.Ok C P)(i:P.follows .mixedOrders=true)(m:R p h w)(q:Gl C p)(l:Cd p fr a){fr':Fr}{h':H}(e:S7 C call ops fr h=some (fr',h')){id:Nat}{ro:Option Nat}{f:Nat}{Q:Exit->Act->World->Prop}
  (o:∀p' c w',Cd p' fr' c->Ext p h w p' h' w'->c.defers=a.defers->Q .normal c w'):(Code.region id ops true).wpIn (FW ro) f P Q a w:=by
 unfold S7 at e;cases g:Hp ops (Ea ops)with
 |false=>grind
 |true=>
  grind [OG]
end
section
variable {P:Program}{F:Fence}{n:Nat}{b:Frame}{a:Act}{k:List Item}{cs:List Frame}{w:World}{Q:Exit->Act->World->Prop}
theorem Dz{c:Code}:step P (lone (b.atR a (.code (.scope c)::k)) cs w)=.next (lone (b.atR a (.code c:: .inScope c::k)) cs w):=
 (by rfl)
theorem O6{c:Code}:step P (lone (b.atR a (.inScope c::k)) cs w)=.next (lone (b.atR a k) cs w):=
 (by rfl)
theorem I6{c:Code}(h:c.wpIn F n P (Exit.noGoto Q) a w):(Code.scope c).wpIn F n P Q a w:=by
 intro b k cs o q m;have h0:(lone (b.atR a (.code (.scope c)::k)) cs w).fenced P F:=fenced_calm q m rfl;obtain⟨e,f,g,i,d⟩:=h b (.inScope c::k) cs o q m;cases e with
 |normal=>exact⟨.normal,f,g,i,.head h0 Dz<|StepsIn.trans d<|.one (fenced_calm q m rfl) O6⟩
 |exit id=>
  have t:exitTo id (.inScope c::k)=exitTo id k:=by rfl
  exact⟨.exit id,f,g,i,fun r s=>.head h0 Dz (d.1 r ah),
   fun j s=>let ⟨k₁,h1,h2⟩:=d.2 j ah;⟨k₁,h1,.head h0 Dz h2⟩⟩
 |goto l=>exact i.elim
 |ret=>exact⟨_,f,g,i,.of_steps (.one h0 Dz) d⟩
 |panic u=>exact⟨_,f,g,i,.of_steps (.one h0 Dz) d⟩
 |outgrown=>exact⟨_,f,g,i,.of_steps (.one h0 Dz) d⟩
end
structure X where
 e:DX
 fr:Fr
 h:H
 ds:List Nat
def Q3(ro:Option Nat)(fr:Fr)(h:H)(ps:Array Tmp)(asg body:Code)(ds:List Nat):Option (Nat×H×List Nat):=
 match ro with
 |none=>some (h.nx+1,(h.push<|.defd true).push<|.loop ⟨.ready,none,fr,ps,asg,body,h.nx⟩,h.nx::ds)
 |some b=>match h.get b with
  |some (.loop l)=>some (h.nx,h.push<|.loop ⟨.ready,none,fr,ps,asg,body,l.db⟩,ds)
  |_=>none
def Be(C:Ctx)(call:CJ)(ro:Option Nat)(ct:Bool):Nat->Code->Fr->H->List Nat->Option (List X)
 |0,_,_,_,_=>none
 |m+1,c,fr,h,ds=>
  match c with
  | .skip| .label _=>some [⟨.normal,fr,h,ds⟩]
  | .region _ ops dr=>bif dr then(match (bif ct then Ip C call ops fr h else S7 C call ops fr h)with
    |some (fr',h')=>some [⟨.normal,fr',h',ds⟩]
    |none=>none)
   else(match Rr C call ops ops.toList fr h with
    |some l=>some<|l.map fun x=>⟨.normal,x.1,x.2,ds⟩
    |none=>none)
  | .seq a b=>match Be C call ro ct m a fr h ds with
   |some l=>bl l fun x=>match x.e with
    | .normal=>Be C call ro ct m b x.fr x.h x.ds
    |_=>some [x]
   |none=>none
  | .cond x a b=>match ev C fr x with
   |some (.bool true)=>Be C call ro ct m a fr h ds
   |some (.bool false)=>Be C call ro ct m b fr h ds
   |_=>none
  | .block id b=>match Be C call ro ct m b fr h ds with
   |some l=>some<|l.map fun x=>match x.e with
    | .exit i=>bif zc i id then { x with e:=.normal }else x
    |_=>x
   |none=>none
  | .loop b=>match Be C call ro ct m b fr h ds with
   |some l=>bl l fun x=>match x.e with
    | .normal=>Be C call ro ct m (.loop b) x.fr x.h x.ds
    |_=>some [x]
   |none=>none
  | .exit i=>some [⟨.exit i,fr,h,ds⟩]
  | .ret=>some [⟨.ret,fr,h,ds⟩]
  | .scope b=>Be C call ro ct m b fr h ds
  | .rangeFunc g ps asg body=>match Q3 ro fr h ps asg body ds,ev C fr g with
   |some (b,j,d),some o=>match Hq C j o [.yld b]with
    |some (.enter f args)=>match call (.fn f args) j with
     |some l=>bl l fun x=>match x.2.get b with
      |some (.loop ls)=>match ls.st,ls.pend with
       | .busy,_=>none
       |_,none=>some [⟨.normal,fr,x.2.put b<|.loop { ls with st:=.exhausted },d⟩]
       |_,some c=>Be C call ro false m c fr (x.2.put b<|.loop { ls with st:=.exhausted }) d
      |_=>none
     |none=>none
    |_=>none
   |_,_=>none
  |_=>none
def GQ(p:Pl):List Nat->List Deferred->Prop
 |[],l=>l=[]
 |b::c,l=>∃r n l',p[b]?=some (r,n)/\l={ target:=.collected r,args:= #[] }::l'/\GQ p c l'
theorem GQ.mono{p:Pl}(q:Pl):∀ {ds:List Nat} {l:List Deferred},GQ p ds l->GQ (p++q) ds l
 |[],_,h=>h
 |_b::_bs,_l,⟨r,n,l',e,c,d⟩=>⟨r,n,l',ah,c,d.mono q⟩
theorem GQ.ext{p p':Pl}{h h':H}{w w':World}(e:Ext p h w p' h' w'){ds:List Nat}{l:List Deferred}(c:GQ p ds l):GQ p' ds l:=by
 obtain⟨q,rfl⟩:=e.pre;exact c.mono q
def Nl(p:Pl):Option Nat->Option Nat->Prop
 |none,none=>True
 |some b,some r=>∃n,p[b]?=some (r,n)
 |_,_=>False
theorem Nl.ext{p p':Pl}{h h':H}{w w':World}(e:Ext p h w p' h' w'){ro k:Option Nat}(c:Nl p ro k):Nl p' ro k:=by
 obtain⟨q,rfl⟩:=e.pre;cases ro with
 |none=>grind [Nl]
 |some b=>
  cases k with
  |none=>exact c
  |some r=>obtain⟨n,d⟩:=c;exact⟨n,ah⟩
theorem Ext.at{p p':Pl}{h h':H}{w w':World}(e:Ext p h w p' h' w'){b:Nat}{x:Nat×Nat}(c:p[b]?=some x):p'[b]?=some x:=by
 obtain⟨q,rfl⟩:=e.pre;grind
section
variable {C:Ctx}{P:Program}{call:CJ}{ops:Array Oper}{p:Pl}{h:H}{w:World}{fr:Fr}{a:Act}
theorem IJ(d:R p h w)(y:Cd p fr a){ro k:Option Nat}(c:Nl p ro k){ps:Array Tmp}{asg body:Code}{ds g:List Nat}(f:GQ p ds a.defers){b:Nat}{i:H}
  (e:Q3 ro fr h ps asg body ds=some (b,i,g)) (fn:FuncId):∃l mark v j n,(Instr.enterLoop fn a.tmps ps asg body k).run P w=.ok (l,mark) v/\Ext p h w j i v/\j[b]?=some (l,n)/\GQ j g (mark++a.defers):=by
 unfold Q3 at e;cases ro with
 |none=>
  cases k with
  |some k=>exact c.elim
  |none=>
   obtain⟨rfl,rfl,rfl⟩:=e;have z:=Ext.push (n:=0) d (o:=.defd true) (x:=.deferred<|some []) (by rfl);have u:(p++[(w.heap.size,0)])[h.nx]?=some (w.heap.size,0):=by rw[<-d.len];simp
   have t:D2 (p++[(w.heap.size,0)]) fr a.tmps:=D2.mono _ y;have q:=Ext.push (n:=0) z.rel (o:=.loop ⟨.ready,none,fr,ps,asg,body,h.nx⟩) (x:=.loop { state:=.ready,pending:=none,fn,tmps:=a.tmps,params:=ps,assign:=asg,body,defers:=w.heap.size })
    ⟨fn,a.tmps,_,_,t,u,rfl⟩
   refine⟨_,_,_,_,0,run_enterLoop_outer fn a.tmps ps asg body,z.trans q,?_,?_⟩
   ·have:h.nx+1=(p++[(w.heap.size,0)]).length:=by simp[d.len]
    grind
   ·exact⟨w.heap.size,0,a.defers,ah,rfl,GQ.mono _<|GQ.mono _ f⟩
 |some B=>
  cases k with
  |none=>exact c.elim
  |some k=>
   simp only at e;split at e
   case h_2=>cases e
   rename_i A s;obtain⟨rfl,rfl,rfl⟩:=e;obtain⟨n0,hn0⟩:=c;obtain⟨r',n',x,i,h2,f0,tmps,r,m,h3,h4,rfl⟩:=d.obj _ _ s;rw[hn0]at i;cases i;have q:=Ext.push (n:=0) d (o:=.loop ⟨.ready,none,fr,ps,asg,body,A.db⟩) (x:=.loop { state:=.ready,pending:=none,fn,tmps:=a.tmps,params:=ps,assign:=asg,body,defers:=r })
    ⟨fn,a.tmps,_,_,y,h4,rfl⟩
   refine⟨w.heap.size,[],_,_,0,?_,q,?_,?_⟩
   ·unfold Instr.enterLoop;simp only[zk,run_getLoop h2,run_newObj_alloc,zj,Sem.run_pure,World.alloc]
   ·rw[<-d.len];simp
   ·exact GQ.mono _ f
theorem Result.Uf{α d:Type}{r:Result α}{f:α->World->Result d}{b:d}{w':World}(h:r.andThen f=.ok b w'):∃a c,r=.ok a c/\f a c=.ok b w':=by
 cases r with
 |ok a c=>exact⟨a,c,rfl,h⟩
 |halt x c=>simp_all
theorem JU(hC:C.Ok P)(E:call.Ok C P)(hm:P.follows .mixedOrders=true){ro k:Option Nat}{n:Nat}:∀(m:Nat) (ct:Bool) (c:Code) {fr:Fr} {h:H} {ds:List Nat} {L:List X},(ct=true->Di c=true)->Be C call ro ct m c fr h ds=some L->
  ∀(p:Pl) (a:Act) (w:World) (Q:Exit->Act->World->Prop),R p h w->Gl C p->Cd p fr a->GQ p ds a.defers->Nl p ro k->
   (∀x∈L,∀p' V w',Cd p' x.fr V->Ext p h w p' x.h w'->GQ p' x.ds V.defers->Q x.e.Qx V w')->
   c.wpIn (FW k) n P Q a w/\∀b,c=.loop b->Code.roundsIn (FW k) n P b Q m a w
 |0,ct,c,fr,h,ds,L,K,o=>by cases o
 |m+1,ct,c,fr,h,ds,L,K,o=>by
  intro p a w Q T M I B D G;have ih:∀ {ct:Bool} (c:Code) {fr:Fr} {h:H} {ds:List Nat} {L:List X},(ct=true->Di c=true)->Be C call ro ct m c fr h ds=some L->∀ {p:Pl} {a:Act} {w:World},R p h w->Gl C p->Cd p fr a->GQ p ds a.defers->Nl p ro k->
    ∀ {Q:Exit->Act->World->Prop},(∀x∈L,∀p' V w',Cd p' x.fr V->Ext p h w p' x.h w'->GQ p' x.ds V.defers->Q x.e.Qx V w')->
   c.wpIn (FW k) n P Q a w/\∀b,c=.loop b->Code.roundsIn (FW k) n P b Q m a w:=fun {ct} c {fr h ds L} K o {p a w} T M I B D {Q} G=>JU hC E hm m ct c K o p a w Q T M I B D G
  cases c with
  |skip=>cases o;exact⟨wpIn_skip<|G _ (zg.2 rfl) p a w I (zo T) B,(by simp)⟩
  |label l=>cases o;exact⟨wpIn_label<|G _ (zg.2 rfl) p a w I (zo T) B,(by simp)⟩
  |region id ops dr=>
   refine⟨?_,(by simp)⟩;simp only[Be]at o;cases dr with
   |true=>
    simp only[we]at o;split at o
    case h_2=>cases o
    rename_i fr1 h1 Z;cases o;refine(show ∀ {Q':Exit->Act->World->Prop},(∀p' V w',Cd p' fr1 V->Ext p h w p' h1 w'->V.defers=a.defers->Q' .normal V w')->(Code.region id ops true).wpIn (FW k) n P Q' a w from fun {Q'} Y=>?_) fun N a1 J q j A=>G _ (zg.2 rfl) N a1 J q j<|A▸B.ext j
    cases ct with
    |false=>grind [Yp]
    |true=>exact OG (by simpa [Di]using K rfl) hC E hm T M I Z Y
   |false=>
    simp only[wg]at o;split at o
    case h_2=>cases o
    rename_i l Z;cases o;exact Vn hC E T M I Z fun x hx N a1 J q j A=>G _ (zu.2 ⟨x,hx,rfl⟩) N a1 J q j<|A▸B.ext j
  |seq x y=>
   refine⟨wpIn_seq ?_,(by simp)⟩;simp only[Be]at o;split at o
   case h_2=>cases o
   rename_i l Z;refine(ih x (by grind [Di]) Z T M I B D fun z hz N a1 J q j A=>?_).1;obtain⟨L1,O,g2⟩:=EH o z hz;cases t:z.e with
   |normal=>
    simp only[t]at O;exact(ih y (by grind [Di]) O j.rel (M.ext j) q A (D.ext j) fun u hu p2 a2 w2 S he2 U=>G u (g2 u hu) p2 a2 w2 S (j.trans he2) U).1
   |exit i=>
    simp only[t,zf]at O;subst O;have:=G z ah N a1 J q j A;rw[t]at this;exact this
   |ret=>
    simp only[t,zf]at O;subst O;have:=G z ah N a1 J q j A;rw[t]at this;exact this
  |cond x b1 b2=>
   refine⟨?_,(by simp)⟩;simp only[Be]at o;split at o
   case h_1=>
    rename_i hx;have hv:=AY M I hx;grind [Ab,wpIn_cond_true,Di]
   case h_2=>
    rename_i hx;have hv:=AY M I hx;grind [Ab,wpIn_cond_false,Di]
   grind
  |block id b=>
   refine⟨wpIn_block ?_,(by simp)⟩;simp only[Be]at o;split at o
   case h_2=>cases o
   rename_i l Z;cases o;refine(ih b (fun e=>by have:=K e;simpa [Di]using this) Z T M I B D fun z hz N a1 J q j A=>?_).1;have Y:=G _ (zu.2 ⟨z,hz,rfl⟩) N a1 J;cases t:z.e with
   |normal=>
    simp only[t]at Y;exact Y q j A
   |ret=>
    simp only[t]at Y;exact Y q j A
   |exit i=>
    simp only[t,Bj]at Y;by_cases ei:i=id
    ·simp only[ei,decide_true,we]at Y;simp only[DX.Qx,Exit.inBlock,ei,wm];exact Y q j A
    ·simp only[ei,decide_false,wg,t]at Y;simp only[DX.Qx,Exit.inBlock,ei,vf];exact Y q j A
  |loop b=>
   have key:Code.roundsIn (FW k) n P b Q (m+1) a w:=by
    rw[roundsIn_succ];simp only[Be]at o;split at o
    case h_2=>cases o
    rename_i l Z;refine(ih b (fun e=>by have:=K e;simpa [Di]using this) Z T M I B D fun z hz N a1 J q j A=>?_).1;obtain⟨L1,O,g2⟩:=EH o z hz;cases t:z.e with
    |normal=>
     simp only[t]at O;exact(ih (.loop b) K O j.rel (M.ext j) q A (D.ext j) fun u hu p2 a2 w2 S he2 U=>G u (g2 u hu) p2 a2 w2 S (j.trans he2) U).2 b rfl
    |exit i=>
     simp only[t,zf]at O;subst O;have:=G z ah N a1 J q j A;rw[t]at this;exact this
    |ret=>
     simp only[t,zf]at O;subst O;have:=G z ah N a1 J q j A;rw[t]at this;exact this
   grind [wpIn_loop_rounds]
  |exit i=>cases o;exact⟨wpIn_exit<|G _ (zg.2 rfl) p a w I (zo T) B,(by simp)⟩
  |ret=>cases o;exact⟨wpIn_ret<|G _ (zg.2 rfl) p a w I (zo T) B,(by simp)⟩
  |scope b=>
   refine⟨I6 ?_,(by simp)⟩;simp only[Be]at o;refine(ih b (fun e=>by have:=K e;simpa [Di]using this) o T M I B D fun z hz N a1 J q j A=>?_).1;have h1:=G z hz N a1 J q j A;cases t:z.e<;>rw[t]at h1<;>exact h1
  |rangeFunc g ps asg body=>
   refine⟨wpIn_rangeFunc fun fn _=>?_,(by simp)⟩;simp only[Be]at o;split at o
   case h_2=>cases o
   rename_i b h1 ds1 g' hen hgv;split at o
   case h_2=>cases o
   rename_i f args hdc;split at o
   case h_2=>cases o
   rename_i l hcl;obtain⟨r,mark,J,N,nb,q1,q2,q3,q4⟩:=IJ (P:=P) T I D B hen fn;have hyld:An N [.yld b] (#[Value.func (.yield r) #[] #[]]).toList:=by
    simp only[A4,IL,ve];simp only[Ab];grind
   obtain⟨args',s1,s2⟩:=Lv hC q2.rel (M.ext q2) (q2.cH<|AY M I hgv) hyld hdc;rw[zk]at s1;obtain⟨d,w1',s3,s4⟩:=Result.Uf s1;refine⟨r,mark,J,d,w1',f,args',J,q1,?_,fun _ _=>trivial,s4,(by grind [FW,zp]),Vc.2<|(E.fn f args h1 l hcl N J args' q2.rel (M.ext q2) s2).mono ?_⟩
   ·grind [resolve,Act.eval]
   ·rintro e w2 ⟨v,h2,v',p2,hmem,rfl,k1,k2⟩;obtain⟨L1,t1,t2⟩:=EH o (v,h2) hmem;split at t1
    case h_2=>cases t1
    rename_i ls hls;obtain⟨r',n',x,u1,u2,f0,tmps,rd,md,u3,u4,rfl⟩:=k2.rel.obj _ _ hls;have hpb:=k2.at q3;rw[hpb]at u1;cases u1;have hbusy:ls.st≠ .busy:=by
     grind
    obtain⟨W,hW,hput⟩:∃W,(Instr.endLoop r).run P w2=.ok ls.pend W/\Ext p2 h2 w2 p2 (h2.put b<|.loop { ls with st:=.exhausted }) W:=
     ⟨_,run_endLoop u2 hbusy,Ext.put k2.rel hls hpb (o':=.loop { ls with st:=.exhausted }) (x':=.loop { state:=.exhausted,pending:=ls.pend,fn:=f0,tmps,params:=ls.ps,assign:=ls.asg,body:=ls.body,defers:=rd }) ⟨f0,tmps,rd,md,u3,u4,rfl⟩ rfl rfl rfl rfl⟩
    have hex:=q2.trans<|k2.trans hput;refine⟨ls.pend,W,hW,?_⟩;have S:Cd p2 fr { a with defers:=mark++a.defers }:=Cd.ext (a:={ a with defers:=mark++a.defers }) I<|q2.trans k2;have U:GQ p2 ds1 (mark++a.defers):=GQ.ext k2 q4;split at t1
    case h_1=>cases t1
    case h_2=>
     rename_i hpe _;cases t1;simp only[hpe];exact G _ (t2 _<|zg.2 rfl) p2 _ _ S hex U
    case h_3=>
     rename_i c hpe _;simp only[hpe];exact(ih c (by simp) t1 hput.rel (M.ext hex) S U (D.ext hex) fun u hu p3 a3 w3 hf3 he3 hd3=>G u (t2 u hu) p3 a3 w3 hf3 (hex.trans he3) hd3).1
  |goto l=>simp[Be]at o
  |refuse s=>simp[Be]at o
end
section
variable {C:Ctx}{P:Program}{p:Pl}{h:H}{w:World}{fr:Fr}{a:Act}
def WZ(C:Ctx)(fr:Fr)(h:H):ResultVar->Option V
 | .tmp t=>some<|fr.get t
 | .cell a t=>Eu C.T h t<|fr.get a
def MK(C:Ctx)(fr:Fr)(h:H):List ResultVar->Option (List V)
 |[]=>some []
 |r::c=>match WZ C fr h r,MK C fr h c with
  |some v,some vs=>some (v::vs)
  |_,_=>none
def M9(C:Ctx)(fr:Fr)(h:H)(c:List ResultVar):Option V:=
 match MK C fr h c with
 |some [v]=>some v
 |some vs=>some<|.tup vs
 |none=>none
def hO(a:Act):ResultVar->Sem Value
 | .tmp t=>pure<|a.tmps.getD t undef
 | .cell x t=>do loadVar t (<-asAddr (a.tmps.getD x undef))
theorem UR(fn:Func)(a:Act):results fn a.tmps=(do let vs<-fn.results.mapM (hO a);pure (if h:vs.size=1 then vs[0]else .tuple vs)):=by
 rfl
theorem Y6(o:C.T.Ok P)(m:R p h w)(f:Cd p fr a){r:ResultVar}{v:V}(d:WZ C fr h r=some v):
  ∃v',(hO a r).run P w=.ok v' w/\Ab p v v':=by
 cases r with
 |tmp t=>cases d;exact⟨_,rfl,f.2 t⟩
 |cell x t=>
  simp only[WZ]at d;obtain⟨v',g,j⟩:=SV (P:=P) o m (f.2 x) d;refine⟨v',?_,j⟩;have l:∃b i,fr.get x=.ptr b i:=by
   unfold Eu at d;grind
  obtain⟨b,i,e⟩:=l;have c:=f.2 x;rw[e]at c;obtain⟨r,n,_,c⟩:=c;rw[c]at g;simp only[hO,c];exact g
theorem Sz(i:C.T.Ok P)(g:R p h w)(f:Cd p fr a):∀ {e:List ResultVar} {vs:List V},MK C fr h e=some vs->
  ∃c:List Value,(e.mapM<|hO a).run P w=.ok c w/\An p vs c
 |[],vs,d=>by cases d;simp
 |r::e,vs,d=>by
  unfold MK at d;split at d
  case h_2=>cases d
  rename_i v l m j;cases d;obtain⟨v',q,o⟩:=Y6 (P:=P) i g f m;obtain⟨c,g3,g4⟩:=Sz i g f j;simp_all
theorem kG(m:C.T.Ok P)(l:R p h w)(j:Cd p fr a){fn:Func}{v:V}(e:M9 C fr h fn.results.toList=some v):∃v',(results fn a.tmps).run P w=.ok v' w/\Ab p v v':=by
 unfold M9 at e;cases g:MK C fr h fn.results.toList with
 |none=>grind
 |some vs=>
  obtain⟨c,s,i⟩:=Sz (P:=P) m l j g;have o:=i.length;have d:(results fn a.tmps).run P w=.ok (if h:c.toArray.size=1 then c.toArray[0]else .tuple c.toArray) w:=by
   grind [UR,zk,Array.mapM_eq_mapM_toList,Sem.run_map,zj,Sem.run_pure]
  refine⟨_,d,?_⟩;simp only[g]at e;cases vs with
  |nil=>
   grind [Ab]
  |cons x f=>
   cases f with
   |nil=>
    obtain⟨y,rfl,r⟩:=i.one;grind
   |cons q f=>
    cases e;rw[dif_neg ah];simp_all [Ab]
def SA:List V->Nat->PM V->PM V
 |[],_,m=>m
 |v::vs,i,m=>SA vs (i+1)<|m.set i<|some v
def Jf(n:Nat)(args:List V):Fr:=⟨args.length+(n-args.length),SA args 0 .leaf⟩
theorem KS:∀(vs:List V) (i:Nat) (m:PM V) (t:Nat),(SA vs i m).get t=if i<=t/\t<i+vs.length then vs[t-i]? else m.get t
 |[],i,m,t=>by simp[SA];omega
 |v::vs,i,m,t=>by
  unfold SA;rw[KS vs (i+1) _ t];by_cases e:t=i
  ·subst e;rw[wc ae,wd<|by simp];simp
  ·by_cases c:i+1<=t/\t<i+1+vs.length
   ·grind
   ·rw[wc c,wc ah];simp[e]
theorem dF{args:List V}{args':Array Value}(g:An p args args'.toList)(n:Nat):Cd p (Jf n args) { tmps:=args'++Array.replicate (n-args'.size) undef,defers:=[] }:=by
 have f:=g.length;simp at f;refine⟨by simp[Jf,f],fun t=>?_⟩;unfold Jf Fr.get;rw[KS];by_cases e:t<args.length
 ·rw[wd ae];obtain⟨u,l,j⟩:=g.get (i:=t) (d:=args[t]) (by simp[e]);have c:args'[t]?=some u:=ah
  simp only[Nat.sub_zero,List.getElem?_eq_getElem e,Option.getD_some];rw[zl,Array.getElem?_append_left ae,c];exact j
 ·have:(args'++Array.replicate (n-args'.size) undef).getD t undef=undef:=by
   rw[zl,Array.getElem?_append_right ae];grind
  simp_all [Ab,undef]
def Fe:List Nat->H->Option H
 |[],h=>some h
 |b::c,h=>match h.get b with
  |some (.defd true)=>Fe c<|h.put b<|.defd false
  |_=>none
theorem Pt{fn:Func}{tmps:Array Value}{n:Nat}:∀ {ds:List Nat} {l:List Deferred} {p:Pl} {h:H} {w:World} {i:H},GQ p ds l->R p h w->Fe ds h=some i->
  ∃d,Ext p h w p i d/\∀f:Ending->World->Prop,(∃v,(results fn tmps).run P d=.ok v d/\f (.returned v) d)->LeavesInM zp n P fn tmps f l .returning w
 |[],l,p,h,w,i,o,g,e=>by
  cases e;cases (show l=[]from o);exact⟨w,zo g,fun f hR=>hR⟩
 |b::t,l,p,h,w,i,o,g,e=>by
  unfold Fe at e;split at e
  case h_2=>cases e
  rename_i s;obtain⟨r,m,l',q,rfl,j⟩:=o;obtain⟨r',m',x,k1,k2,k3⟩:=g.obj _ _ s;rw[q]at k1;cases k1;subst k3;have c:=Ext.put g s q (o':=.defd false) (x':=.deferred none) (by rfl) (w':=w.putObj r<|.deferred none) rfl rfl rfl rfl;obtain⟨d,g1,g2⟩:=Pt (fn:=fn) (tmps:=tmps) (n:=n) j c.rel e;exact⟨d,c.trans g1,fun f hR=>⟨by simp,.inl ⟨r,_,rfl,run_takeDeferred k2,g2 f hR⟩⟩⟩
def QH(C:Ctx)(m:Nat)(call:CJ)(b:Nat)(ls:LS)(fr:Fr)(h:H):Option (List<|V×H):=
 match Be C call (some b) false m ls.asg fr h []with
 |some l=>bl l fun x=>match x.e,x.h.get b with
  | .normal,some (.loop d)=>match d.st with
   | .ready=>match Be C call (some b) false m ls.body x.fr (x.h.put b<|.loop { d with st:=.busy }) x.ds with
    |some f=>bl f fun y=>match y.h.get b with
     |some (.loop c)=>match y.e with
      | .normal=>some [(.bool true,y.h.put b<|.loop { c with st:=.ready,pend:=none })]
      | .ret=>some [(.bool false,y.h.put b<|.loop { c with st:=.done,pend:=some .ret })]
      | .exit i=>some [(.bool false,y.h.put b<|.loop { c with st:=.done,pend:=some (.exit i) })]
     |_=>none
    |none=>none
   |_=>none
  |_,_=>none
 |none=>none
mutual
def Kx:V->List Nat
 | .ptr b _| .sl b _ _ _ _| .map b| .yld b=>[b]
 | .fn _ a b=>HK a++HK b
 | .iface _ v=>Kx v
 | .agg l| .tup l=>HK l
 |_=>[]
def HK:List V->List Nat
 |[]=>[]
 |v::vs=>Kx v++HK vs
end
def mZ:O->List Nat
 | .cells cs _ _=>HK cs
 | .map es _=>es.flatMap fun e=>Kx e.1++Kx e.2.1
 |_=>[]
def reach(h:H)(n0:Nat):Nat->List Nat->List Nat->List Nat
 |0,_,acc=>acc
 |_+1,[],acc=>acc
 |f+1,b::c,acc=>bif zw b n0||acc.any (zc b)then reach h n0 f c acc
  else match h.get b with
   |some o=>reach h n0 f (mZ o++c) (b::acc)
   |none=>reach h n0 f c acc
def Mt(Oj:List Nat):Nat->Nat->H->H
 |0,_,h=>h
 |f+1,b,h=>Mt Oj f (b+1)<|bif Oj.any (zc b)then h else h.kill b
def sO:O->Bool
 | .loop l=>match l.st with| .exhausted=>true|_=>false
 |_=>false
def Te:Option O->Option O
 |some o=>bif sO o then none else some o
 |none=>none
def QD:PM O->PM O
 | .leaf=>.leaf
 | .node l v r=>.node (QD l) (Te v)<|QD r
theorem JI:∀(q:F9) (m:PM O),q.get (QD m)=Te (q.get m)
 |F9.here,PM.leaf=>rfl
 |F9.l _,PM.leaf=>rfl
 |F9.r _,PM.leaf=>rfl
 |F9.here,PM.node _ _ _=>rfl
 |F9.l q,PM.node l _ _=>JI q l
 |F9.r q,PM.node _ _ r=>JI q r
def H.sift(h:H):H:=⟨QD h.m,h.nx⟩
theorem Sa{p:Pl}{h:H}{w:World}(d:R p h w):Ext p h w p h.sift w:=by
 have sub:∀b o,h.sift.get b=some o->h.get b=some o:=by
  intro b o c;have:h.sift.get b=Te (h.get b):=JI _ _;rw[this]at c;cases j:h.get b with
  |none=>rw[j]at c;cases c
  |some x=>
   grind [Te]
 refine⟨(by simp),⟨d.len,fun b o c=>d.obj b o<|sub b o c,fun b b' o o' r n n' c g=>d.inj b b' o o' r n n' (sub b o c) ah⟩,Nat.le_refl _,(by simp),fun r q=>?_,rfl,rfl,rfl,fun r i f=>⟨rfl,?_⟩,Nat.le_refl _⟩
 ·grind [Im]
 ·obtain⟨b,n,cs,t,fz,m,e,l⟩:=f;refine .inl ⟨b,n,cs,t,fz,?_,e,l⟩;rw[show h.sift.get b=Te (h.get b)from JI _ _,m];rfl
def uK(n0:Nat)(x:V×H):V×H:=(x.1,Mt (reach x.2 n0 1000 (Kx x.1) []) (x.2.nx-n0) n0 x.2.sift)
def Xn:List (V×V×Nat)->List (V×V×Nat)->Bool
 |[],[]=>true
 |(a,b,c)::l,(d,b',e)::l'=>V.beq a d&&V.beq b b'&&zc c e&&Xn l l'
 |_,_=>false
def MU:List Nat->List Nat->Bool
 |[],[]=>true
 |a::l,b::l'=>zc a b&&MU l l'
 |_,_=>false
def tA:O->O->Bool
 | .cells cs t fz,.cells cs' i fz'=>V.I5 cs cs'&&zc t i&&zc fz.1 fz'.1&&zc fz.2 fz'.2
 | .map es c,.map e j=>Xn es e&&zc c j
 | .siter s n,.siter f n'=>s==f&&zc n n'
 | .miter none a l b,.miter none d l' b'=>zc a d&&MU l l'&&zc b b'
 | .miter (some m) a l b,.miter (some g) d l' b'=>zc m g&&zc a d&&MU l l'&&zc b b'
 | .defd a,.defd b=>a==b
 |_,_=>false
def Ka:Option O->Option O->Bool
 |none,none=>true
 |some a,some b=>tA a b
 |_,_=>false
def N6:PM O->PM O->Bool
 | .leaf,.leaf=>true
 | .node l v r,.node l' v' c=>Ka v v'&&N6 l l'&&N6 r c
 |_,_=>false
def Wq(x y:V×H):Bool:=V.beq x.1 y.1&&zc x.2.nx y.2.nx&&N6 x.2.m y.2.m
def dedup:List (V×H)->List (V×H)
 |[]=>[]
 |x::l=>let r:=dedup l;bif r.any (Wq x)then r else x::r
def Lm(n0:Nat):List (V×H)->List (V×H)
 |[]=>[]
 |[x]=>[x]
 |l=>dedup<|l.map<|uK n0
theorem Ww:∀ {a b:List (V×V×Nat)},Xn a b=true->a=b
 |[],[],_=>rfl
 |[],_::_,h=>by simp[Xn]at h
 |_::_,[],h=>by simp[Xn]at h
 |(a,b,c)::l,(d,b',e)::l',h=>by
  simp only[Xn,zd]at h;rw[V.beq_eq h.1.1.1,V.beq_eq h.1.1.2,ze h.1.2,Ww h.2]
theorem OM:∀ {a b:List Nat},MU a b=true->a=b
 |[],[],_=>rfl
 |[],_::_,h=>by simp[MU]at h
 |_::_,[],h=>by simp[MU]at h
 |a::l,b::l',h=>by
  simp only[MU,zd]at h;rw[ze h.1,OM h.2]
theorem QP{a b:O}(h:tA a b=true):a=b:=by
 unfold tA at h;split at h
 ·grind [V.Fu,ze]
 ·grind [Ww,ze]
 ·simp_all
 ·grind [ze,OM]
 ·grind [ze,OM]
 ·grind
 grind
theorem OE:∀ {a b:PM O},N6 a b=true->a=b
 | .leaf,.leaf,_=>rfl
 | .leaf,.node _ _ _,h=>by simp[N6]at h
 | .node _ _ _,.leaf,h=>by simp[N6]at h
 | .node l v r,.node l' v' c,h=>by
  simp only[N6,zd]at h;rw[OE h.1.2,OE h.2];congr 1;cases v<;>cases v'<;>first|rfl|exact wi some (QP h.1.1)|(simp[Ka]at h)
theorem aK{x y:V×H}(h:Wq x y=true):x=y:=by
 simp only[Wq,zd]at h;obtain⟨v,m,n⟩:=x;obtain⟨v',m',n'⟩:=y;grind [V.beq_eq,ze,OE]
theorem KT:∀ {l:List (V×H)} {x:V×H},x∈l->x∈dedup l
 |a::l,x,h=>by
  unfold dedup;simp only;cases c:(dedup l).any (Wq a)with
  |true=>
   rcases zr.1 h with rfl|h
   ·grind [aK]
   ·exact KT h
  |false=>
   rcases zr.1 h with rfl|h
   ·simp
   ·exact List.mem_cons_of_mem _<|KT h
theorem HE(Oj:List Nat):∀(f b:Nat) {p:Pl} {h:H} {w:World},R p h w->Ext p h w p (Mt Oj f b h) w
 |0,_,_,_,_,c=>zo c
 |f+1,b,p,h,w,c=>by
  unfold Mt;cases Oj.any (zc b)with
  |true=>exact HE Oj f (b+1) c
  |false=>exact(Ext.kill c b).trans<|HE Oj f (b+1)<|c.kill b
theorem FU.merge{l:List (V×H)}{n0:Nat}{e:Ending}{w':World}(i:FU p h w l e w'):FU p h w (Lm n0 l) e w':=by
 obtain⟨v,h',v',p',d,f,g,c⟩:=i;unfold Lm;split
 ·cases d
 ·exact⟨v,h',v',p',d,f,g,c⟩
 ·exact⟨v,(uK n0 (v,h')).2,v',p',KT<|zu.2 ⟨_,d,rfl⟩,f,g,c.trans<|(Sa c.rel).trans<|HE _ _ _ (Sa c.rel).rel⟩
def A1(C:Ctx):Nat->CJ
 |0=>fun _ _=>none
 |n+1=>fun c h=>
  match c with
  | .rnd b ls fr=>QH C n (A1 C n) b ls fr h
  | .fn f args=>
   match C.spec f with
   |some q=>match q args h with
    |some x=>some [x]
    |none=>none
   |none=>
    match C.fn f with
    |none=>none
    |some i=>
     match Be C (A1 C n) none i.cert n i.body (Jf i.ntmps args) h []with
     |none=>none
     |some l=>match (bl l fun x=>match x.e with
      | .exit _=>none
      |_=>match Fe x.ds x.h with
       |some d=>match M9 C x.fr d i.results.toList with
        |some v=>some [(v,d)]
        |none=>none
       |none=>none)with
      |some r=>some<|bif C.mg then Lm h.nx r else r
      |none=>none
theorem LL(e:R p h w){b r n:Nat}{ls:LS}(f:h.get b=some (.loop ls))(d:p[b]?=some (r,n)):
  ∃rec:Loop,w.heap[r]?=some (.loop rec)/\rec.state=ls.st/\rec.pending=ls.pend/\∀(st:LoopState) (c:Option Code),Ext p h w p (h.put b<|.loop { ls with st:=st,pend:=c }) (w.putObj r<|.loop { rec with state:=st,pending:=c }):=by
 obtain⟨l,n',x,u1,u2,f0,tmps,rd,g,j,i,rfl⟩:=e.obj _ _ f;rw[d]at u1;cases u1;exact⟨_,u2,rfl,rfl,fun st c=>Ext.put e f d (o':=.loop { ls with st:=st,pend:=c }) ⟨f0,tmps,rd,g,j,i,rfl⟩ rfl rfl rfl rfl⟩
theorem KO(M:C.Ok P){call:CJ}(c:call.Ok C P)(K:P.follows .mixedOrders=true){b:Nat}{ls:LS}{l:List (V×H)}{k m D:Nat}(r:QH C D call b ls fr h=some l){f:FuncId}{tmps:Array Value}
  (hr:R p h w) (N:Gl C p) (q:p[b]?=some (k,m)) (T:D2 p fr tmps):RoundIn zp 0 P k f tmps ls.asg ls.body w (FU p h w l):=by
 unfold QH at r;split at r
 case h_2=>cases r
 rename_i L U;refine roundIn_of_wpIn trivial ?_;refine(JU (k:=some k) (n:=0) M c K D false ls.asg (by simp) U p { tmps:=tmps,defers:=[] } w _ hr N T rfl ⟨m,q⟩ fun x S z a1 J u d G=>?_).1;obtain⟨L1,j,g2⟩:=EH r x S;split at j
 case h_2=>cases j
 rename_i l1 t s;split at j
 case h_2=>cases j
 rename_i A;split at j
 case h_2=>cases j
 rename_i L2 v;rw[t];obtain⟨rec,q1,W,q3,q4⟩:=LL d.rel s<|d.at q;refine⟨_,run_beginRound q1<|W.trans A,?_⟩;have o:Ext z x.h J z (x.h.put b<|.loop { l1 with st:=.busy }) (J.putObj k<|.loop { rec with state:=.busy }):=by
  grind
 have ex:=d.trans o;refine(JU (k:=some k) (n:=0) M c K D false ls.body (by simp) v z a1 _ _ o.rel (N.ext ex) u G ⟨m,d.at q⟩ fun y X E a2 w2 Y g hd2=>?_).1;obtain⟨L3,I,t2⟩:=EH j y X;split at I
 case h_2=>cases I
 rename_i l3 B;obtain⟨O,s1,s2,s3,s4⟩:=LL g.rel B<|g.at (d.at q);cases Z:y.e with
 |normal=>
  exact⟨_,_,run_endRound none s1,.bool true,_,.bool true,E,ah,rfl,by rfl,ex.trans<|g.trans<|s4 .ready none⟩
 |ret=>
  exact⟨_,_,run_endRound (some .ret) s1,.bool false,_,.bool false,E,ah,rfl,by rfl,ex.trans<|g.trans<|s4 .done<|some .ret⟩
 |exit i=>
  exact⟨_,_,(by grind [run_endRound]),.bool false,_,.bool false,E,ah,rfl,by rfl,ex.trans<|g.trans<|s4 .done<|some<|.exit i⟩
def Df(C:Ctx):Prop:=∀f i,C.fn f=some i->i.cert=true->Di i.body=true
theorem Ew(s:C.Ok P)(r:Df C)(y:P.follows .mixedOrders=true):∀n,(A1 C n).Ok C P
 |0=>⟨fun f args h l c=>(by cases c),fun b ls fr h l c=>(by cases c)⟩
 |n+1=>by
  refine⟨fun f args h l c p w args' z A K=>?_,fun b ls fr h l c p w k m f tmps z A hb hp O=>KO s (Ew s r y n) y c z A hp O⟩;unfold A1 at c;simp only at c;split at c
  case h_1=>
   rename_i q hq;split at c
   case h_2=>cases c
   rename_i x D;cases c;refine(s.spec f q hq p h w args args' x.1 x.2 z A K D).mono ?_;rintro e w' ⟨v',p',rfl,o,J⟩;exact⟨x.1,x.2,v',p',(by simp),rfl,o,J⟩
  case h_2=>
   split at c
   case h_1=>cases c
   rename_i i M;split at c
   case h_1=>cases c
   rename_i L U;split at c
   case h_2=>cases c
   rename_i G B;cases c;refine Calls.mono ?_ (fun e w' N=>(show FU p h w (bif C.mg then Lm h.nx G else G) e w' from by cases C.mg with|true=>exact FU.merge N|false=>exact N));have c:=B;generalize G=l at c;obtain⟨fn,t,Z,X,h4,h5⟩:=s.fn f i M;have R:=r f i M;refine callsIn_wide.1<|callsIn_of_wp_marks (F:=zp) (n:=0) t X trivial ?_;rw[h4];refine(JU (k:=none) (n:=0) s (Ew s r y n) y n i.cert i.body R U p _ w _ z A (dF K i.ntmps) rfl trivial fun x D Y a1 w1 E u I=>?_).1;obtain⟨L1,o,J⟩:=EH c x D;have fin:∀ {t:H} {v:V},Fe x.ds x.h=some t->M9 C x.fr t i.results.toList=some v->L1=[(v,t)]->LeavesInM zp 0 P fn a1.tmps (FU p h w l) a1.defers .returning w1:=by
    intro t v g d hL1;obtain⟨w2,q1,W⟩:=Pt (P:=P) (fn:=fn) (tmps:=a1.tmps) (n:=0) I u.rel g;obtain⟨v',s1,s2⟩:=kG (P:=P) (fn:=fn) s.T q1.rel (E.ext q1) (by rw[h5];exact d);exact W _ ⟨v',s1,v,t,v',Y,ah,rfl,s2,u.trans q1⟩
   split at o
   case h_1=>cases o
   case h_2=>
    split at o
    case h_2=>cases o
    rename_i Z g;split at o
    case h_2=>cases o
    rename_i v d;cases o;cases S:x.e with
    |normal=>exact fin g d rfl
    |ret=>exact fin g d rfl
    |exit j=>grind
end
def cL(P:Program)(t:TypeId):Option TI:=
 match P.info? t with
 |some i=>match i.zero with
  |some z=>match cv z with
   |some v=>some ⟨i.size,i.bytes,v⟩
   |none=>none
  |none=>none
 |none=>none
theorem YE{P:Program}{t:TypeId}{i:TI}(h:cL P t=some i):∃j v,P.info? t=some j/\j.size=i.size/\j.bytes=i.bytes/\j.zero=some v/\∀p,Ab p i.zv v:=by
 unfold cL at h;split at h
 case h_2=>cases h
 split at h
 case h_2=>cases h
 split at h
 case h_2=>cases h
 cases h;simp_all [TC]
def iK(P:Program)(t:TypeId):Option FK:=
 match P.underlying t with
 |some (.int k)=>some<|.int k
 |some .string=>some .str
 |some .bool=>some .bool
 |_=>none
def MS(P:Program):List Field->Nat->Option (List FK)
 |[],_=>some []
 | f :: fs, i => if f.name = "_" \/ f.offset ≠ i then none else match iK P f.type, MS P fs (i + 1) with
  |some k,some ks=>some (k::ks)
  |_,_=>none
def U9(P:Program)(t:TypeId):Option (List FK):=
 match P.underlying t with
 |some (.struct fs)=>if P.stoodInHeld t=true\/P.eqGuardType P.depth t=true then none else MS P fs.toList 0
 |_=>none
def UI:TypeDesc->Bool
 | .pointer _=>false
 |_=>true
def YB(P:Program)(t:TypeId)(name:String):Option FuncId:=
 match P.info? t,P.underlying t with
 |some j,some d=>match j.methods.find? (·.name==name)with
  |some m=>match m.path,m.func with
   |⟨[]⟩,some (f,false)=>bif UI d then some f else none
   |_,_=>none
  |none=>none
 |_,_=>none
theorem Zh{P:Program}{t:TypeId}{name:String}{f:FuncId}(h:YB P t name=some f):∃j m d,P.info? t=some j/\j.methods.find? (·.name==name)=some m/\m.path= #[]/\m.func=some (f,false)/\P.underlying t=some d/\∀e,d≠ .pointer e:=by
 unfold YB at h;split at h
 case h_2=>cases h
 rename_i j d i c;split at h
 case h_2=>cases h
 split at h
 case h_2=>cases h
 cases g:UI d with
 |false=>grind
 |true=>
  grind [UI]
def nL(P:Program):BP:=⟨P.underlying,cL P,U9 P,YB P⟩
section
variable {P:Program}{p:Pl}
theorem OQ{t:TypeId}{k:FK}(h:iK P t=some k):∃d,P.underlying t=some d/\DP d=false/\(∀e,d≠ .interface e)/\match k with
  | .int k=>d=.int k
  | .str=>d=.string
  | .bool=>d=.bool:=by
 unfold iK at h;split at h
 case h_1=>rename_i c;cases h;exact⟨_,c,rfl,(by simp),rfl⟩
 case h_2=>rename_i c;cases h;exact⟨_,c,rfl,(by simp),rfl⟩
 case h_3=>rename_i c;cases h;exact⟨_,c,rfl,(by simp),rfl⟩
 grind
theorem Oe{t:TypeId}{d:TypeDesc}(f:P.underlying t=some d)(c:DP d=false){cs:Array Value}{i:Nat}{v:Value}(e:cs[i]?=some v)(w:World):(part t cs i).run P w=.ok v w:=by
 unfold part isAgg;have Ma:(underlying t).run P w=.ok d w:=by simp_all [underlying]
 simp only[zk,Ma,zj];cases d<;>first|(cases c;done)|simp[e]
theorem WY{t:TypeId}{k:FK}(h:iK P t=some k){a b:V}{f b':Value}(c:k.ok a=true)(e:k.ok b=true)(i:Ab p a f)(g:Ab p b b'){r:Bool}(j:DI a b=some r)(d:Nat)(w:World):
  (Op.equalIn (d+1) t f b').run P w=.ok r w:=by
 obtain⟨D,m,_,_,l⟩:=OQ h;cases k with
 |int k=>
  cases a<;>simp only[FK.ok]at c<;>try (cases c;done)
  cases b<;>simp only[FK.ok]at e<;>try (cases e;done)
  grind [Ab,DI,run_equalIn_int]
 |str=>
  cases a<;>simp only[FK.ok]at c<;>try (cases c;done)
  cases b<;>simp only[FK.ok]at e<;>try (cases e;done)
  grind [Ab,DI,run_equalIn_string,HO]
 |bool=>
  cases a<;>simp only[FK.ok]at c<;>try (cases c;done)
  cases b<;>simp only[FK.ok]at e<;>try (cases e;done)
  grind [Ab,DI,run_equalIn_bool']
theorem QU:∀ {ks:List FK} {x:List V},fit ks x=true->ks.length=x.length
 |[],[],_=>rfl
 |[],_::_,h=>by simp[fit]at h
 |_::_,[],h=>by simp[fit]at h
 |k::ks,v::vs,h=>by
  unfold fit at h;cases c:k.ok v with
  |false=>grind
  |true=>simp only[c,we]at h;simp[QU h]
theorem J5(d:Nat){w:World}{x' y':Array Value}:∀ {fs:List Field} {i:Nat} {ks:List FK},MS P fs i=some ks->∀ {x y:List V} {u v:List Value},fit ks x=true->fit ks y=true->An p x u->An p y v->
  (∀j a,u[j]?=some a->x'[i+j]?=some a)->(∀j a,v[j]?=some a->y'[i+j]?=some a)->∀ {r:Bool},BH x y=some r->(Op.eqFields (d+1) x' y' fs).run P w=.ok r w
 |[],i,ks,e,x,y,u,v,B,z,_,_,_,_,r,s=>by
  cases e;cases x with
  |cons _ _=>simp[fit]at B
  |nil=>cases y with
   |cons _ _=>simp[fit]at z
   |nil=>simp_all [BH,Op.eqFields]
 |f::fs,i,ks,e,x,y,u,v,B,z,T,S,K,L,r,s=>by
  unfold MS at e;split at e
  case isTrue=>cases e
  have m : f.name ≠ "_" := ah;have q:f.offset=i:=ae;split at e
  case h_2=>cases e
  rename_i k l A N;cases e;cases x with
  |nil=>simp[fit]at B
  |cons a x=>cases y with
   |nil=>simp[fit]at z
   |cons b y=>
    obtain⟨O,W,rfl,o,t⟩:=T;obtain⟨b',v',rfl,hv1,hv2⟩:=S;have G:k.ok a=true:=by grind [fit]
    have J:k.ok b=true:=by grind [fit]
    have R:fit l x=true:=by grind [fit]
    have M:fit l y=true:=by grind [fit]
    obtain⟨D,Ma,g,_,_⟩:=OQ A;have I:=Oe Ma g (K 0 O rfl) w;have pb:=Oe Ma g (L 0 b' rfl) w;simp only[Nat.add_zero]at I pb;simp only[Op.eqFields,m,vc,not_false_eq_true,wm,zk,q,I,pb,zj];unfold BH at s;split at s
    case h_1=>
     rename_i E;rw[WY A G J o hv1 E];exact J5 d N R M t hv2 (fun j c U=>by have:=K (j+1) c ah;grind) (fun j c U=>by have:=L (j+1) c ah;grind) s
    case h_2=>
     rename_i E;rw[WY A G J o hv1 E];simp_all
    grind
theorem Jb{b:Bool}{w:World}{x':Array Value}:∀ {fs:List Field} {i:Nat} {ks:List FK},MS P fs i=some ks->∀ {x:List V} {u:List Value},fit ks x=true->An p x u->
  (∀j a,u[j]?=some a->x'[i+j]?=some a)->
  (forIn (m := Sem) fs PUnit.unit fun f _ => if f.name ≠ "_" then do
    zm b 9999 f.type (<-part f.type x' f.offset)
    pure (ForInStep.yield zt)
   else do
    pure zt
    pure (ForInStep.yield zt)).run P w=.ok zt w
 |[],i,ks,d,x,u,r,_,_=>by simp
 |f::fs,i,ks,d,x,u,r,y,s=>by
  unfold MS at d;split at d
  case isTrue=>cases d
  split at d
  case h_2=>cases d
  rename_i k o E v;cases d;cases x with
  |nil=>simp[fit]at r
  |cons a x=>
   obtain⟨q,G,rfl,A,l⟩:=y;have t:fit o x=true:=by grind [fit]
   obtain⟨D,Ma,g,z,_⟩:=OQ E;have I:=Oe Ma g (s 0 q rfl) w;have B:(zm b 9999 f.type q).run P w=.ok () w:=by
    unfold zm;have e:(underlying f.type).run P w=.ok D w:=by simp_all [underlying]
    simp only[zk,e,zj];cases D<;>first|rfl|grind|grind
   have J:=Jb (b:=b) (w:=w) (x':=x') v t l (fun j c K=>by have:=s (j+1) c ah;grind);simp_all
theorem qE(P:Program):(nL P).Ok P:=by
 have key:∀t ks,U9 P t=some ks->∃fs,P.underlying t=some (.struct fs)/\P.stoodInHeld t=false/\P.eqGuardType P.depth t=false/\MS P fs.toList 0=some ks:=by
  grind [U9]
 refine⟨fun t d h=>h,fun t i h=>YE h,?_,?_,?_,?_,fun t name f h=>Zh h⟩
 ·intro t ks h p x y x' y' r w m q l u s;obtain⟨fs,c,o,e,j⟩:=key t ks h;grind [Program.fieldsOf,Op.equal,Op.maxDepth,run_equalIn_struct,J5]
 ·intro t ks h;obtain⟨fs,c,o,e,j⟩:=key t ks h;exact e
 ·intro t ks h p x x' b w m l;obtain⟨fs,c,o,e,j⟩:=key t ks h;unfold zm;have g:(underlying t).run P w=.ok (.struct fs) w:=by simp_all [underlying]
  have:=Jb (b:=b) (w:=w) (x':=x') j m l (by simp);simp_all
 ·intro t ks h;obtain⟨fs,c,_⟩:=key t ks h;exact⟨fs,c⟩
end
def OZ(P:Program)(ct:FuncId->Bool)(f:FuncId):Option Fn:=
 match P.funcs[f]? with
 |some fn=>match fn.body with
  | some b => if fn.name = "runtime.NumGoroutine" then none else some ⟨fn.ntmps, fn.results, b, ct f⟩
  |none=>none
 |none=>none
theorem iO {P : Program} {ct : FuncId -> Bool} {f : FuncId} {i : Fn} (h : OZ P ct f = some i) : ∃ fn, P.funcs[f]? = some fn /\ fn.name ≠ "runtime.NumGoroutine" /\ fn.body = some i.body /\ fn.ntmps = i.ntmps /\ fn.results = i.results := by
 unfold OZ at h;grind
inductive PK where
 |indexByte
 |add64
 |sub64
 |count
 |noEsc
def NA:Array Value->Sem Value:=fun args=>do
 let (x, y, b) <- Extern.MathBitsCarry.three "Sub64" args
 pure (zn ((x+zi-y-b) % zi) (if x<y+b then 1 else 0))
def PK.entry:PK->Array Value->Sem Value
 | .indexByte=>Extern.BytealgIndexByte.indexByte
 | .add64=>add64Entry
 | .sub64=>NA
 | .count=>Extern.BytealgCount.count
 | .noEsc=>Extern.AbiNoEscape.same
def RV:Option Nat->V
 |some i=>i64 i
 |none=>.int .i64<| -1
def fI:Nat:=18446744073709551616
def PK.run:PK->List V->H->Option (V×H)
 | .indexByte,[.str s,.int .u8 c],h=>some (RV<|s.findIdx? fun x=>x==c.toNat.toUInt8,h)
 | .add64,[.int .u64<|.ofNat x,.int .u64<|.ofNat y,.int .u64<|.ofNat c],h=>
  bif Nat.ble c 1 then some (.tup [.int .u64<|.ofNat<|(x+y+c) % fI,.int .u64<|.ofNat<|(x+y+c)/fI],h)else none
 | .sub64,[.int .u64<|.ofNat x,.int .u64<|.ofNat y,.int .u64<|.ofNat c],h=>
  bif Nat.ble c 1 then some (.tup [.int .u64<|.ofNat<|(x+fI-y-c) % fI,.int .u64<|.ofNat<|bif zw x (y+c)then 1 else 0],h)else none
 | .count,[.str s,.int .u8 c],h=>some (.int .i64 (s.foldl (fun n x=>bif x==c.toNat.toUInt8 then Nat.add n 1 else n) 0:Nat),h)
 | .noEsc,[.ptr b o],h=>some (.ptr b o,h)
 |_,_,_=>none
theorem O4(s:Rd)(c:UInt8):((List.range (bytesOf s).size).find? fun i=>(bytesOf s)[i]! ==c)=s.findIdx? fun x=>x==c:=by
 have key:∀(l pre:Rd),pre++l=s->((List.range' pre.length l.length).find? fun i=>(bytesOf s)[i]! ==c)=(l.findIdx? fun x=>x==c).map (· +pre.length):=by
  intro l;induction l with
  |nil=>simp
  |cons a l f=>
   intro pre g;have d:(bytesOf s)[pre.length]! =a:=by
    grind [BL,bytesOf,ByteArray.getElem_eq_getElem_data]
   rw[List.length_cons,List.range'_succ,List.find?_cons,d,List.findIdx?_cons];cases e:a==c with
   |true=>simp
   |false=>
    have:=f (pre++[a]) ah;simp only[List.length_append,List.length_singleton]at this;simp only[this,Bool.false_eq_true,vf,Option.map_map];congr 1;grind
 have:=key s [] rfl;simp_all [List.range_eq_range',BL]
theorem An.three{p:Pl}{a b c:V}{l:List Value}(h:An p [a,b,c] l):∃x y z,l=[x,y,z]/\Ab p a x/\Ab p b y/\Ab p c z:=by
 simp only[An]at h;grind
theorem PK.sim{P:Program}{k:PK}{p:Pl}{h:H}{w:World}{args:List V}{args':Array Value}{v:V}{h':H}(g:An p args args'.toList)(d:k.run args h=some (v,h')):
  h'=h/\∃v',(k.entry args').run P w=.ok v' w/\Ab p v v':=by
 unfold PK.run at d;split at d
 case h_6=>cases d
 case h_5=>
  cases d;obtain⟨x,i,e⟩:=g.one;have:args'= #[x]:=ah;subst this;exact⟨rfl,x,(by rfl),e⟩
 case h_1=>
  rename_i s c;cases d;obtain⟨x,y,i,e,f⟩:=g.two;have:args'= #[x,y]:=ah;subst this;subst e f;refine⟨rfl,_,run_indexByte_string (bytesOf s) c w,?_⟩;unfold firstIdx;rw[O4];grind [RV,i64,Ab]
 case h_2=>
  rename_i x y c;rw[show Nat.ble c 1=decide (c<=1)from by rw[Bool.eq_iff_iff];simp]at d;by_cases j:c<=1
  ·simp only[j,decide_true,we,zf,zq]at d;obtain⟨rfl,rfl⟩:=d;obtain⟨x',y',z',i,e,f,h3⟩:=g.three;have:args'= #[x',y',z']:=ah;subst this;subst e f h3;refine⟨rfl,_,run_add64 x y c ae ae ae ae w,?_⟩;simp_all [Ab,fI]
  grind
 case h_3=>
  rename_i x y c;rw[show Nat.ble c 1=decide (c<=1)from by rw[Bool.eq_iff_iff];simp]at d;by_cases j:c<=1
  ·simp only[j,decide_true,we,zf,zq]at d;obtain⟨rfl,rfl⟩:=d;obtain⟨x',y',z',i,e,f,h3⟩:=g.three;have:args'= #[x',y',z']:=ah;subst this;subst e f h3;have key:(NA #[.int .u64 x,.int .u64 y,.int .u64 c]).run P w=
     .ok (zn ((x+zi-y-c) % zi)<|if x<y+c then 1 else 0) w:=by
    have:c=0\/c=1:=ae
    rcases this with rfl|rfl<;>rfl
   refine⟨rfl,_,key,?_⟩;refine⟨_,rfl,?_⟩;simp only[A4,IL,ve,Ab];refine⟨rfl,?_⟩;grind [FL]
  grind
 case h_4=>
  rename_i s c;cases d;obtain⟨x,y,i,e,f⟩:=g.two;have:args'= #[x,y]:=ah;subst this;subst e f;refine⟨rfl,_,Lib.run_countString (bytesOf s) c w,?_⟩;have key:∀(l:Rd) (n:Nat),l.foldl (fun n x=>bif x==c.toNat.toUInt8 then Nat.add n 1 else n) n=n+Lib.countByte l c.toNat.toUInt8:=by
   intro l;induction l with
   |nil=>grind [Lib.countByte]
   |cons x l m=>
    intro n;rw[List.foldl_cons,m];unfold Lib.countByte;grind
  simp_all [Ab,bytesOf]
def Ql(L:List (FuncId×PK))(f:FuncId):Option (List V->H->Option (V×H)):=
 match L with
 |[]=>none
 |(g,k)::L=>bif zc g f then some k.run else Ql L f
structure Ju(P:Program)(x:FuncId×PK):Prop where
 ok : ∃ fn, P.funcs[x.1]? = some fn /\ (fn.name == "runtime.NumGoroutine") = false /\ fn.body.isNone = true /\ Extern.findNext fn = none /\ Extern.find fn = some x.2.entry
theorem WV{P:Program}:∀ {L:List (FuncId×PK)},(∀x∈L,Ju P x)->∀f q,Ql L f=some q->∀(p:Pl) (h:H) (w:World) (args:List V) (args':Array Value) v h',R p h w->An p args args'.toList->q args h=some (v,h')->
  ∃v' p' w',(callFunc f args').run P w=.ok (.value v') w'/\Ab p' v v'/\Ext p h w p' h' w'
 |[],_,f,q,c,_,_,_,_,_,_,_,_,_,_=>by cases c
 |(g,k)::L,l,f,q,c,p,h,w,args,args',v,h',i,d,j=>by
  unfold Ql at c;rw[Bj]at c;by_cases e:g=f
  ·subst e;simp only[decide_true,we,zf]at c;subst c;obtain⟨fn,t,o,m,s,r⟩:=(l (g,k)<|by simp).ok;obtain⟨rfl,v',g1,g2⟩:=PK.sim (P:=P) (w:=w) d j;refine⟨v',p,w,?_,g2,zo i⟩;simp_all [run_callFunc_extern]
  ·simp only[e,decide_false,wg]at c;exact WV ah f q c p h w args args' v h' i d j
def xM:Option (List<|V×H)->Option V
 |some [(v,_)]=>some v
 |_=>none
def WN(C:Ctx)(n:Nat)(f:FuncId)(args:List V)(v:V):Bool:=match xM (A1 C n (.fn f args) hG)with
 |some x=>V.beq x v
 |none=>false
theorem U4{C C':Ctx}{P:Program}(J:C.Ok P)(s:Df C)(G:P.follows .mixedOrders=true){n:Nat}{f:FuncId}{args:List V}{v:V}
  (q:WN C n f args v=true) (I:V.EK args=true) (z:v.flat=true) {p:Pl} {h:H} {w:World} {args':Array Value} (g:R p h w) (A:Gl C' p) (B:Gh h) (c:An p args args'.toList):
  Calls P f args' w fun e w'=>∃v' p',e=.returned v'/\Ab p' v v'/\Ext p h w p' h w':=by
 unfold WN at q;split at q
 case h_2=>cases q
 rename_i x j;have t:x=v:=V.beq_eq q;subst t;unfold xM at j;split at j
 case h_2=>cases j
 rename_i l N L;cases j;refine((Ew J s G n).fn f args hG _ L _ w args' (tK g A B) A.take<|V.Ga I c).mono ?_;rintro e w' ⟨u,h',v',p',i,rfl,D,d⟩;cases zg.1 i;have E:∀r,r<w.heap.size->w'.heap[r]?=w.heap[r]?:=fun r g=>d.C8 A.take r g
 refine⟨v',p,rfl,V.Cu z D,⟨(by simp),⟨g.len,fun b o K=>?_,g.inj⟩,d.size,ah,ah,d.os,d.out,d.tape,ah,d.dr⟩⟩;obtain⟨r,m,y,O,M,S⟩:=g.obj b o K;grind
def Sg(h:H):List (Nat×O)->Bool
 |[]=>true
 |(i,o)::l=>Ka (h.get i) (some o)&&Sg h l
theorem GK{h:H}:∀ {l:List (Nat×O)},Sg h l=true->∀x∈l,h.get x.1=some x.2
 |[],_,x,c=>by cases c
 |(i,o)::l,d,x,c=>by
  simp only[Sg,zd]at d;rcases zr.1 c with rfl|c
  ·cases e:h.get i with
   |none=>grind [Ka]
   |some q=>grind [QP,Ka]
  ·exact GK d.2 x c
def yY:List (Nat×O)->Bool
 |[]=>true
 |(_,o)::l=>Ka (some o) (some o)&&yY l
theorem XD:yY C8=true:=by rfl
theorem tP{h:H}(c:Gh h):Sg h C8=true:=by
 have key:∀l:List (Nat×O),(∀x∈l,h.get x.1=some x.2)->yY l=true->Sg h l=true:=by
  intro l;induction l with
  |nil=>exact fun _ _=>rfl
  |cons x l e=>
   intro f d;simp_all [yY,Sg]
 exact key C8 c XD
abbrev Cw:=List<|FuncId×List V×V
def HG:Cw->FuncId->List V->Option V
 |[],_,_=>none
 |(g,a,v)::l,f,args=>bif zc g f&&V.I5 a args then some v else HG l f args
def Rw:Cw->FuncId->Bool
 |[],_=>false
 |(g,_,_)::l,f=>bif zc g f then true else Rw l f
def Hj(L:Cw)(f:FuncId):Option (List V->H->Option (V×H)):=
 bif Rw L f then some (fun args h=>bif Sg h C8 then(match HG L f args with|some v=>some (v,h)|none=>none)else none)else none
def AU(C:Ctx)(n:Nat):Cw->Bool
 |[]=>true
 |(f,a,v)::l=>WN C n f a v&&V.EK a&&v.flat&&AU C n l
theorem Xy{L:Cw}{f:FuncId}{args:List V}{v:V}(h:HG L f args=some v){C:Ctx}{n:Nat}(c:AU C n L=true):WN C n f args v=true/\V.EK args=true/\v.flat=true:=by
 induction L with
 |nil=>cases h
 |cons x l d=>
  obtain⟨g,a,u⟩:=x;simp only[AU,zd]at c;unfold HG at h;cases e:(zc g f&&V.I5 a args)with
  |false=>grind
  |true=>
   grind [ze,V.Fu]
theorem mD{C C':Ctx}{P:Program}(s:C.Ok P)(i:Df C)(o:P.follows .mixedOrders=true){n:Nat}{L:Cw}(r:AU C n L=true):
  ∀f q,Hj L f=some q->∀(p:Pl) (h:H) (w:World) (args:List V) (args':Array Value) v h',R p h w->Gl C' p->An p args args'.toList->q args h=some (v,h')->
  Calls P f args' w fun e w'=>∃v' p',e=.returned v'/\Ab p' v v'/\Ext p h w p' h' w':=by
 intro f q j p h w args args' v h' z A d c;unfold Hj at j;cases l:Rw L f with
 |false=>grind
 |true=>
  rw[l]at j;cases j;simp only at c;cases g:Sg h C8 with
  |false=>grind
  |true=>
  rw[g]at c;split at c
  case h_2=>cases c
  rename_i u t;cases c;obtain⟨x,m,y⟩:=Xy t r;exact U4 (C':=C') s i o x m y z A (GK g) d
section
def NG(P:Program):Nat->Nat->Bool
 |0,_=>true
 |n+1,a=>(match OZ P (fun _=>true) a with|some i=>Di i.body|none=>true)&&NG P n (a+1)
variable {P:Program}
theorem PI{ct:FuncId->Bool}{f:FuncId}{i:Fn}(c:OZ P ct f=some i):OZ P (fun _=>true) f=some { i with cert:=true }/\i.cert=ct f:=by
 unfold OZ at c ⊢;cases d:P.funcs[f]? with
 |none=>grind
 |some fn=>
  grind
theorem Il{f:Nat}{i:Fn}{ct:FuncId->Bool}(c:OZ P ct f=some i):∀ {n a:Nat},NG P n a=true->a<=f->f<a+n->Di i.body=true
 |0,a,_,g,d=>by omega
 |n+1,a,h,g,d=>by
  simp only[NG,zd]at h;by_cases e:a=f
  ·subst e;rw[(PI c).1]at h;exact h.1
  ·exact Il c h.2 ae ae
def zK(P:Program)(N:Nat)(L:List (FuncId×PK)):Ctx:=⟨nL P,0,OZ P<|fun f=>zw f N,Ql L,fun _=>none,true⟩
theorem Xk{N:Nat}{L:List (FuncId×PK)}(h:∀f i,f<N->OZ P (fun f=>zw f N) f=some i->Di i.body=true):Df (zK P N L):=by
 intro f i c d;have c:OZ P (fun f=>zw f N) f=some i:=c;rw[(PI c).2]at d;exact h f i (Nat.le_of_ble_eq_true d) c
theorem rT{N:Nat}{L:List (FuncId×PK)}(i:∀x∈L,Ju P x):(zK P N L).Ok P where
 T:=qE P
 fn:=fun _ _ h=>iO (P:=P) (ct:=fun f=>zw f N) h
 prim:=fun f q c p h w args args' v h' e _ d g=>WV i f q c p h w args args' v h' e d g
 spec:=fun f q c=>by cases c
end
end Go.Det
