import Derived.Test.YtipkapecgjpnlaaGreatDoorX02
import Derived.Laws.StructEq
import Derived.Lib.Bytealg
import Derived.Laws.Externs
/- A part of a proof; no law is stated here. -/
noncomputable section
open Nat renaming beq -> zc, eq_of_beq_eq_true -> ze, blt -> zw
open Bool renaming and_eq_true -> zd
open Option.some renaming injEq -> zf
open List renaming mem_singleton -> zg, mem_cons -> zr, mem_map -> zu
open Array renaming getElem?_eq_some_iff -> zh, getD_eq_getD_getElem? -> zl
open Go.Extern.MathBitsCarry renaming m64 -> zi, pair -> zn
open Go.Result renaming andThen_ok -> zj
open Go.Sem renaming run_bind -> zk
open Go.Instr renaming checkKey -> zm
open Go.Det.Ext renaming refl -> zo
open Go.Fence renaming wide -> zp
open Prod.mk renaming injEq -> zq
open PUnit renaming unit -> zt
namespace Go.Det
mutual
def V.beq:V->V->Bool
 | .bool a,.bool b=>a==b
 | .int k a,.int l b=>k==l&&a==b
 | .str a,.str b=>a==b
 | .nilp,.nilp=>true
 | .ptr a i,.ptr b j=>zc a b&&zc i j
 | .nils,.nils=>true
 | .sl a b c d e,.sl q b' r m o=>zc a q&&zc b b'&&zc c r&&zc d m&&zc e o
 | .esl,.esl=>true
 | .es0,.es0=>true
 | .junk,.junk=>true
 | .nilm,.nilm=>true
 | .map a,.map b=>zc a b
 | .yld a,.yld b=>zc a b
 | .nilf,.nilf=>true
 | .nili,.nili=>true
 | .fn f a b,.fn g c d=>f==g&&V.JI a c&&V.JI b d
 | .iface t x,.iface u y=>zc t u&&V.beq x y
 | .agg a,.agg b=>V.JI a b
 | .tup a,.tup b=>V.JI a b
 |_,_=>false
def V.JI:List V->List V->Bool
 |[],[]=>true
 |a::c,b::d=>V.beq a b&&V.JI c d
 |_,_=>false
end
mutual
theorem V.beq_eq:∀ {a b:V},V.beq a b=true->a=b:=by
 intro a b h;cases a<;>cases b<;>simp only[V.beq]at h<;>first
  |(cases h;done)
  |rfl
  |(simp only[zd,wk,Bo,w5]at h;first|(rfl)|(rfl)|(obtain⟨⟨⟨⟨rfl,rfl⟩,rfl⟩,rfl⟩,rfl⟩:=h;rfl))
  |skip
 case fn.fn f a b g c d=>
  simp only[zd,wk]at h;rw[h.1.1,V.Gk h.1.2,V.Gk h.2]
 case iface.iface t x u y=>
  simp only[zd,Bo,w5]at h;rw[h.1,V.beq_eq h.2]
 case agg.agg a b=>rw[V.Gk h]
 case tup.tup a b=>rw[V.Gk h]
theorem V.Gk:∀ {a b:List V},V.JI a b=true->a=b
 |[],[],_=>rfl
 |[],_::_,h=>by simp[V.JI]at h
 |_::_,[],h=>by simp[V.JI]at h
 |a::c,b::d,h=>by
  simp only[V.JI,zd]at h;rw[V.beq_eq h.1,V.Gk h.2]
end
structure Rc where
 i:Nat
 o:Oper
 f:Fr
 v:V
structure St where
 f:Fr
 h:H
 r:List Rc
def still(C:Ctx)(anc:Nat->Nat->Bool)(i:Nat)(h:H)(r:Rc):Bool:=
 anc i r.i||(match GL C r.f h r.o with
  |some (.val x _)=>V.beq x r.v
  |_=>false)
def HX(C:Ctx)(call:CX)(ops:Array Oper)(anc:Nat->Nat->Bool)(i:Nat)(s:St):Option (V×St):=
 match ops[i]? with
 |none=>none
 |some o=>
  bif Ba s.f ops o then
   bif Ed o then
    match GL C s.f s.h o with
    |some (.val v _)=>match s.f.put o.dst v with
     |some c=>some (v,⟨c,s.h,bif Qm o then⟨i,o,s.f,v⟩::s.r else s.r⟩)
     |none=>none
    |_=>none
   else bif Cy o then
    match mJ C s.f o with
    |some (ob,f)=>match s.f.put o.dst (f s.h.nx)with
     |some c=>some (f s.h.nx,⟨c,s.h.push ob,s.r⟩)
     |none=>none
    |none=>none
   else
    match DN C call s.f s.h o with
    |some (v,h')=>match s.f.put o.dst v with
     |some c=>bif s.r.all (still C anc i h')then some (v,⟨c,h',s.r⟩)else none
     |none=>none
    |none=>none
  else
   match s.f.put o.dst (.tup [])with
   |some c=>bif CG o then(bif s.r.all (still C anc i s.h)then some (.tup [],⟨c,s.h,s.r⟩)else none)else some (.tup [],⟨c,s.h,s.r⟩)
   |none=>none
def UA(C:Ctx)(call:CX)(ops:Array Oper)(anc:Nat->Nat->Bool):List Nat->St->Option St
 |[],s=>some s
 |i::c,s=>match HX C call ops anc i s with
  |some (_,d)=>UA C call ops anc c d
  |none=>none
def Is(C:Ctx)(call:CX)(ops:Array Oper)(fr:Fr)(h:H):Option (Fr×H):=
 match UA C call ops (Ek ops).a (Ek ops).ord ⟨fr,h,[]⟩with
 |some s=>some (s.f,s.h)
 |none=>none
def U3(C:Ctx)(call:CX)(ops:Array Oper)(fr:Fr)(h:H):Option (Fr×H):=
 bif HZ ops (Ek ops)then Is C call ops fr h else none
def Dz:Code->Bool
 | .region _ ops dr=>bif dr then HZ ops (Ek ops)else true
 | .seq a b=>Dz a&&Dz b
 | .cond _ a b=>Dz a&&Dz b
 | .block _ b=>Dz b
 | .loop b=>Dz b
 | .scope b=>Dz b
 |_=>true
section
variable {C:Ctx}{P:Program}{call:CX}{ops:Array Oper}{p:Pl}{h:H}{w:World}{fr:Fr}{a:Act}
theorem Lp{f c:Fr}{d:Option Nat}{v:V}(h:f.put d v=some c):c.n=f.n/\(∀t,c.get t=if d=some t then v else f.get t)/\∀t,d=some t->t<f.n:=by
 unfold Fr.put at h;cases d with
 |none=>grind
 |some s=>
  simp only[Gf]at h;by_cases e:s<f.n
  ·grind [Fr.get,PM.Cz]
  grind
theorem DI{anc:Nat->Nat->Bool}{i:Nat}{s d:St}{v:V}(c:HX C call ops anc i s=some (v,d)):∃o,ops[i]?=some o/\d.f.n=s.f.n/\(∀t,d.f.get t=if o.dst=some t then v else s.f.get t)/\(∀t,o.dst=some t->t<s.f.n)/\
  ((Ba s.f ops o=false/\v=.tup []/\d.h=s.h)\/
   (Ba s.f ops o=true/\
   ((Ed o=true/\GL C s.f s.h o=some (.val v s.h)/\d.h=s.h)\/
    (Cy o=true/\∃ob f,mJ C s.f o=some (ob,f)/\v=f s.h.nx/\d.h=s.h.push ob)\/
    (CG o=true/\DN C call s.f s.h o=some (v,d.h)))))/\
  (∀r∈s.r,r∈d.r)/\(Ed o=true->Qm o=true->Ba s.f ops o=true->⟨i,o,s.f,v⟩∈d.r)/\
  (CG o=true->∀r∈s.r,still C anc i d.h r=true):=by
 unfold HX at c;split at c
 case h_1=>cases c
 rename_i o D;refine⟨o,D,?_⟩;cases z:Ba s.f ops o with
 |false=>
  simp only[z,wg]at c;split at c
  case h_2=>cases c
  rename_i u e;obtain⟨l,m,j⟩:=Lp e;grind
 |true=>
  simp only[z,we]at c;cases g:Ed o with
  |true=>
   simp only[g,we]at c;split at c
   case h_2=>cases c
   rename_i v1 y x;split at c
   case h_2=>cases c
   rename_i u e;obtain⟨rfl,rfl⟩:=c;obtain⟨l,m,j⟩:=Lp e;obtain⟨v2,hv2⟩:=rd_val g x;refine⟨l,m,j,ah,fun r A=>?_,fun _ G _=>?_,(by grind [Sq])⟩
   ·grind
   grind
  |false=>
   simp only[g,wg]at c;cases q:Cy o with
   |true=>
    simp only[q,we]at c;split at c
    case h_2=>cases c
    split at c
    case h_2=>cases c
    rename_i u e;obtain⟨rfl,rfl⟩:=c;obtain⟨l,m,j⟩:=Lp e;exact⟨l,m,j,ah,fun r A=>A,(by simp),(by grind [Sq])⟩
   |false=>
    simp only[q,wg]at c;split at c
    case h_2=>cases c
    rename_i v1 y E;split at c
    case h_2=>cases c
    rename_i u e;obtain⟨l,m,j⟩:=Lp e;cases B:s.r.all (still C anc i y)with
    |false=>grind
    |true=>
     simp only[B,we,zf,zq]at c;obtain⟨rfl,rfl⟩:=c;simp_all [CG]
theorem Mv{anc:Nat->Nat->Bool}:∀(L:List Nat) (s d:St),UA C call ops anc L s=some d->
  ∃(c:Nat->St) (e:Nat->V),c 0=s/\c L.length=d/\∀(q i:Nat),L[q]?=some i->HX C call ops anc i (c q)=some (e q,c<|q+1)
 |[],s,d,h=>by
  cases h;exact⟨fun _=>s,fun _=>.nilp,rfl,rfl,(by simp)⟩
 |i::L,s,d,h=>by
  unfold UA at h;split at h
  case h_2=>cases h
  rename_i v s1 f;obtain⟨c,e,h0,g,l⟩:=Mv L s1 d h;refine⟨fun q=>match q with|0=>s|q+1=>c q,fun q=>match q with|0=>v|q+1=>e q,rfl,by omega,fun q j m=>?_⟩;grind
theorem bP{pl:MX}(U:HZ ops pl=true){L:St}(Z:UA C call ops pl.a pl.ord ⟨fr,h,[]⟩=some L):
  ∃(v:Nat->V) (Hh:Nat->H) (F:Nat->Fr),Canon C call ops pl.a (idx pl.ord) (idx pl.pos) fr h v Hh F/\Hh ops.size=L.h/\F ops.size=L.f:=by
 have st:=Xh U;have hl:=sE U;obtain⟨u,S,h0,hn,hq⟩:=Mv pl.ord _ _ Z;have DN:∀q,q<ops.size->HX C call ops pl.a (idx pl.ord q) (u q)=some (S q,u<|q+1):=by
  grind [idx]
 have M:∀q,q<=ops.size->(u q).f.n=fr.n:=by
  intro q;induction q with
  |zero=>grind
  |succ q W=>
   intro d;obtain⟨o,_,g1,_⟩:=DI (DN q ae);omega
 have s:∀q l,q<=l->l<=ops.size->∀r∈(u q).r,r∈(u l).r:=by
  intro q l hle;induction l with
  |zero=>
   grind
  |succ l W=>
   intro d r Y;by_cases e:q=l+1
   ·grind
   ·obtain⟨o,_,_,_,_,_,g,_⟩:=DI (DN l ae);exact g r (W ae ae r Y)
 refine⟨fun i=>S<|idx pl.pos i,fun q=>(u q).h,fun q=>(u q).f,⟨by simp[h0],by simp[h0],M,fun q d o B t=>?_,fun i o t B ht=>?_,fun i o B=>?_,fun i j o oj B T N I J hw hlt D=>?_⟩,by grind,by grind⟩
 ·obtain⟨o',m,_,g1,_⟩:=DI<|DN q d;simp only[(st.ordp q d).2];grind
 ·have c:=(zh.1 B).1;have O:=st.posp i c;obtain⟨o',m,_,_,g2,_⟩:=DI<|DN _ O.1;grind
 ·have c:=(zh.1 B).1;have O:=st.posp i c;obtain⟨o',m,_,_,_,g3,_⟩:=DI<|DN _ O.1;simp_all
 ·have c:=(zh.1 B).1;have K:=(zh.1 T).1;have z:=st.posp i c;have A:=st.posp j K;obtain⟨o',m,_,_,_,_,_,X,_⟩:=DI<|DN _ A.1;rw[A.2,T]at m;cases m;have E:=s _ (idx pl.pos i) ae ae _<|X I J hw;obtain⟨o'',m,_,_,_,_,_,_,g5⟩:=DI<|DN _ z.1;rw[z.2,B]at m;cases m;have G:=g5 N _ E;unfold still at G;rw[A.2]at G;rw[z.2,D]at G;split at G
  case h_2=>cases G
  rename_i x hx R;obtain⟨y,hy⟩:=rd_val I R;grind [V.beq_eq]
theorem OU(g:HZ ops (Ek ops)=true)(m:C.Ok P)(c:call.Ok C P)(j:P.follows .mixedOrders=true)(l:R p h w)(r:Gl C p)(t:Cg p fr a){fr':Fr}{h':H}(f:Is C call ops fr h=some (fr',h')){id:Nat}{ro:Option Nat}{o:Nat}{Q:Exit->Act->World->Prop}
  (q:∀p' d w',Cg p' fr' d->Ext p h w p' h' w'->d.defers=a.defers->Q .normal d w'):(Code.region id ops true).wpIn (FW ro) o P Q a w:=by
 unfold Is at f;split at f
 case h_2=>cases f
 rename_i s e;obtain⟨v,Hh,F,u,x,y⟩:=bP g e;refine lI m c j (Xh g) u l r t fun p' d w' A z i=>q p' d w' ?_ ?_ i
 ·grind
 grind
theorem Y9(l:C.Ok P)(d:call.Ok C P)(i:P.follows .mixedOrders=true)(j:R p h w)(o:Gl C p)(q:Cg p fr a){fr':Fr}{h':H}(f:U3 C call ops fr h=some (fr',h')){id:Nat}{ro:Option Nat}{e:Nat}{Q:Exit->Act->World->Prop}
  (m:∀p' c w',Cg p' fr' c->Ext p h w p' h' w'->c.defers=a.defers->Q .normal c w'):(Code.region id ops true).wpIn (FW ro) e P Q a w:=by
 unfold U3 at f;cases g:HZ ops (Ek ops)with
 |false=>grind
 |true=>
  grind [OU]
end
section
variable {P:Program}{F:Fence}{n:Nat}{b:Frame}{a:Act}{k:List Item}{cs:List Frame}{w:World}{Q:Exit->Act->World->Prop}
theorem DM{c:Code}:step P (lone (b.atR a (.code (.scope c)::k)) cs w)=.next (lone (b.atR a (.code c:: .inScope c::k)) cs w):=
 (by rfl)
theorem Qc{c:Code}:step P (lone (b.atR a (.inScope c::k)) cs w)=.next (lone (b.atR a k) cs w):=
 (by rfl)
theorem JE{c:Code}(h:c.wpIn F n P (Exit.noGoto Q) a w):(Code.scope c).wpIn F n P Q a w:=by
 intro b k cs q j o;have h0:(lone (b.atR a (.code (.scope c)::k)) cs w).fenced P F:=fenced_calm j o rfl;obtain⟨e,f,g,i,d⟩:=h b (.inScope c::k) cs q j o;cases e with
 |normal=>exact⟨.normal,f,g,i,.head h0 DM<|StepsIn.trans d<|.one (fenced_calm j o rfl) Qc⟩
 |exit id=>
  have u:exitTo id (.inScope c::k)=exitTo id k:=by rfl
  exact⟨.exit id,f,g,i,fun r s=>.head h0 DM (d.1 r ah),
   fun m s=>let ⟨k₁,h1,h2⟩:=d.2 m ah;⟨k₁,h1,.head h0 DM h2⟩⟩
 |goto l=>exact i.elim
 |ret=>exact⟨_,f,g,i,.of_steps (.one h0 DM) d⟩
 |panic t=>exact⟨_,f,g,i,.of_steps (.one h0 DM) d⟩
 |outgrown=>exact⟨_,f,g,i,.of_steps (.one h0 DM) d⟩
end
structure X where
 e:DX
 fr:Fr
 h:H
 ds:List Nat
def Ta(ro:Option Nat)(fr:Fr)(h:H)(ps:Array Tmp)(asg body:Code)(ds:List Nat):Option (Nat×H×List Nat):=
 match ro with
 |none=>some (h.nx+1,(h.push<|.defd true).push<|.loop ⟨.ready,none,fr,ps,asg,body,h.nx⟩,h.nx::ds)
 |some b=>match h.get b with
  |some (.loop l)=>some (h.nx,h.push<|.loop ⟨.ready,none,fr,ps,asg,body,l.db⟩,ds)
  |_=>none
def Bj(C:Ctx)(call:CX)(ro:Option Nat)(ct:Bool):Nat->Code->Fr->H->List Nat->Option (List X)
 |0,_,_,_,_=>none
 |m+1,c,fr,h,ds=>
  match c with
  | .skip| .label _=>some [⟨.normal,fr,h,ds⟩]
  | .region _ ops dr=>bif dr then(match (bif ct then Is C call ops fr h else U3 C call ops fr h)with
    |some (fr',h')=>some [⟨.normal,fr',h',ds⟩]
    |none=>none)
   else(match Sz C call ops ops.toList fr h with
    |some l=>some<|l.map fun x=>⟨.normal,x.1,x.2,ds⟩
    |none=>none)
  | .seq a b=>match Bj C call ro ct m a fr h ds with
   |some l=>bl l fun x=>match x.e with
    | .normal=>Bj C call ro ct m b x.fr x.h x.ds
    |_=>some [x]
   |none=>none
  | .cond x a b=>match ev C fr x with
   |some (.bool true)=>Bj C call ro ct m a fr h ds
   |some (.bool false)=>Bj C call ro ct m b fr h ds
   |_=>none
  | .block id b=>match Bj C call ro ct m b fr h ds with
   |some l=>some<|l.map fun x=>match x.e with
    | .exit i=>bif zc i id then { x with e:=.normal }else x
    |_=>x
   |none=>none
  | .loop b=>match Bj C call ro ct m b fr h ds with
   |some l=>bl l fun x=>match x.e with
    | .normal=>Bj C call ro ct m (.loop b) x.fr x.h x.ds
    |_=>some [x]
   |none=>none
  | .exit i=>some [⟨.exit i,fr,h,ds⟩]
  | .ret=>some [⟨.ret,fr,h,ds⟩]
  | .scope b=>Bj C call ro ct m b fr h ds
  | .rangeFunc g ps asg body=>match Ta ro fr h ps asg body ds,ev C fr g with
   |some (b,j,d),some o=>match H4 C j o [.yld b]with
    |some (.enter f args)=>match call (.fn f args) j with
     |some l=>bl l fun x=>match x.2.get b with
      |some (.loop ls)=>match ls.st,ls.pend with
       | .busy,_=>none
       |_,none=>some [⟨.normal,fr,x.2.put b<|.loop { ls with st:=.exhausted },d⟩]
       |_,some c=>Bj C call ro false m c fr (x.2.put b<|.loop { ls with st:=.exhausted }) d
      |_=>none
     |none=>none
    |_=>none
   |_,_=>none
  |_=>none
def HK(p:Pl):List Nat->List Deferred->Prop
 |[],l=>l=[]
 |b::c,l=>∃r n l',p[b]?=some (r,n)/\l={ target:=.collected r,args:= #[] }::l'/\HK p c l'
theorem HK.mono{p:Pl}(q:Pl):∀ {ds:List Nat} {l:List Deferred},HK p ds l->HK (p++q) ds l
 |[],_,h=>h
 |_b::_bs,_l,⟨r,n,l',e,c,d⟩=>⟨r,n,l',ah,c,d.mono q⟩
theorem HK.ext{p p':Pl}{h h':H}{w w':World}(e:Ext p h w p' h' w'){ds:List Nat}{l:List Deferred}(c:HK p ds l):HK p' ds l:=by
 obtain⟨q,rfl⟩:=e.pre;exact c.mono q
def OZ(p:Pl):Option Nat->Option Nat->Prop
 |none,none=>True
 |some b,some r=>∃n,p[b]?=some (r,n)
 |_,_=>False
theorem OZ.ext{p p':Pl}{h h':H}{w w':World}(e:Ext p h w p' h' w'){ro k:Option Nat}(c:OZ p ro k):OZ p' ro k:=by
 obtain⟨q,rfl⟩:=e.pre;cases ro with
 |none=>grind [OZ]
 |some b=>
  cases k with
  |none=>exact c
  |some r=>obtain⟨n,d⟩:=c;exact⟨n,ah⟩
theorem Ext.at{p p':Pl}{h h':H}{w w':World}(e:Ext p h w p' h' w'){b:Nat}{x:Nat×Nat}(c:p[b]?=some x):p'[b]?=some x:=by
 obtain⟨q,rfl⟩:=e.pre;grind
section
variable {C:Ctx}{P:Program}{call:CX}{ops:Array Oper}{p:Pl}{h:H}{w:World}{fr:Fr}{a:Act}
theorem Jv(d:R p h w)(y:Cg p fr a){ro k:Option Nat}(c:OZ p ro k){ps:Array Tmp}{asg body:Code}{ds i:List Nat}(g:HK p ds a.defers){b:Nat}{f:H}
  (e:Ta ro fr h ps asg body ds=some (b,f,i)) (fn:FuncId):∃l mark z u n,(Instr.enterLoop fn a.tmps ps asg body k).run P w=.ok (l,mark) z/\Ext p h w u f z/\u[b]?=some (l,n)/\HK u i (mark++a.defers):=by
 unfold Ta at e;cases ro with
 |none=>
  cases k with
  |some k=>exact c.elim
  |none=>
   obtain⟨rfl,rfl,rfl⟩:=e;have v:=Ext.push (n:=0) d (o:=.defd true) (x:=.deferred<|some []) (by rfl);have t:(p++[(w.heap.size,0)])[h.nx]?=some (w.heap.size,0):=by rw[<-d.len];simp
   have q:Ei (p++[(w.heap.size,0)]) fr a.tmps:=Ei.mono _ y;have j:=Ext.push (n:=0) v.rel (o:=.loop ⟨.ready,none,fr,ps,asg,body,h.nx⟩) (x:=.loop { state:=.ready,pending:=none,fn,tmps:=a.tmps,params:=ps,assign:=asg,body,defers:=w.heap.size })
    ⟨fn,a.tmps,_,_,q,t,rfl⟩
   refine⟨_,_,_,_,0,run_enterLoop_outer fn a.tmps ps asg body,v.trans j,?_,?_⟩
   ·have:h.nx+1=(p++[(w.heap.size,0)]).length:=by simp[d.len]
    grind
   ·exact⟨w.heap.size,0,a.defers,ah,rfl,HK.mono _<|HK.mono _ g⟩
 |some B=>
  cases k with
  |none=>exact c.elim
  |some k=>
   simp only at e;split at e
   case h_2=>cases e
   rename_i A s;obtain⟨rfl,rfl,rfl⟩:=e;obtain⟨n0,hn0⟩:=c;obtain⟨r',n',x,f,h2,f0,tmps,r,m,h3,h4,rfl⟩:=d.obj _ _ s;rw[hn0]at f;cases f;have j:=Ext.push (n:=0) d (o:=.loop ⟨.ready,none,fr,ps,asg,body,A.db⟩) (x:=.loop { state:=.ready,pending:=none,fn,tmps:=a.tmps,params:=ps,assign:=asg,body,defers:=r })
    ⟨fn,a.tmps,_,_,y,h4,rfl⟩
   refine⟨w.heap.size,[],_,_,0,?_,j,?_,?_⟩
   ·unfold Instr.enterLoop;simp only[zk,run_getLoop h2,run_newObj_alloc,zj,Sem.run_pure,World.alloc]
   ·rw[<-d.len];simp
   ·exact HK.mono _ g
theorem Result.Wr{α d:Type}{r:Result α}{f:α->World->Result d}{b:d}{w':World}(h:r.andThen f=.ok b w'):∃a c,r=.ok a c/\f a c=.ok b w':=by
 cases r with
 |ok a c=>exact⟨a,c,rfl,h⟩
 |halt x c=>simp_all
theorem K0(hC:C.Ok P)(E:call.Ok C P)(hm:P.follows .mixedOrders=true){ro k:Option Nat}{n:Nat}:∀(m:Nat) (ct:Bool) (c:Code) {fr:Fr} {h:H} {ds:List Nat} {L:List X},(ct=true->Dz c=true)->Bj C call ro ct m c fr h ds=some L->
  ∀(p:Pl) (a:Act) (w:World) (Q:Exit->Act->World->Prop),R p h w->Gl C p->Cg p fr a->HK p ds a.defers->OZ p ro k->
   (∀x∈L,∀p' Y w',Cg p' x.fr Y->Ext p h w p' x.h w'->HK p' x.ds Y.defers->Q x.e.RZ Y w')->
   c.wpIn (FW k) n P Q a w/\∀b,c=.loop b->Code.roundsIn (FW k) n P b Q m a w
 |0,ct,c,fr,h,ds,L,K,o=>by cases o
 |m+1,ct,c,fr,h,ds,L,K,o=>by
  intro p a w Q U M J B D G;have ih:∀ {ct:Bool} (c:Code) {fr:Fr} {h:H} {ds:List Nat} {L:List X},(ct=true->Dz c=true)->Bj C call ro ct m c fr h ds=some L->∀ {p:Pl} {a:Act} {w:World},R p h w->Gl C p->Cg p fr a->HK p ds a.defers->OZ p ro k->
    ∀ {Q:Exit->Act->World->Prop},(∀x∈L,∀p' Y w',Cg p' x.fr Y->Ext p h w p' x.h w'->HK p' x.ds Y.defers->Q x.e.RZ Y w')->
   c.wpIn (FW k) n P Q a w/\∀b,c=.loop b->Code.roundsIn (FW k) n P b Q m a w:=fun {ct} c {fr h ds L} K o {p a w} U M J B D {Q} G=>K0 hC E hm m ct c K o p a w Q U M J B D G
  cases c with
  |skip=>cases o;exact⟨wpIn_skip<|G _ (zg.2 rfl) p a w J (zo U) B,(by simp)⟩
  |label l=>cases o;exact⟨wpIn_label<|G _ (zg.2 rfl) p a w J (zo U) B,(by simp)⟩
  |region id ops dr=>
   refine⟨?_,(by simp)⟩;simp only[Bj]at o;cases dr with
   |true=>
    simp only[we]at o;split at o
    case h_2=>cases o
    rename_i fr1 h1 hs;cases o;refine(show ∀ {Q':Exit->Act->World->Prop},(∀p' Y w',Cg p' fr1 Y->Ext p h w p' h1 w'->Y.defers=a.defers->Q' .normal Y w')->(Code.region id ops true).wpIn (FW k) n P Q' a w from fun {Q'} V=>?_) fun N a1 I t j q=>G _ (zg.2 rfl) N a1 I t j<|q▸B.ext j
    cases ct with
    |false=>grind [Y9]
    |true=>exact OU (by simpa [Dz]using K rfl) hC E hm U M J hs V
   |false=>
    simp only[wg]at o;split at o
    case h_2=>cases o
    rename_i l hs;cases o;exact VS hC E U M J hs fun x hx N a1 I t j q=>G _ (zu.2 ⟨x,hx,rfl⟩) N a1 I t j<|q▸B.ext j
  |seq x y=>
   refine⟨wpIn_seq ?_,(by simp)⟩;simp only[Bj]at o;split at o
   case h_2=>cases o
   rename_i l hs;refine(ih x (by grind [Dz]) hs U M J B D fun z hz N a1 I t j q=>?_).1;obtain⟨L1,T,g2⟩:=EW o z hz;cases A:z.e with
   |normal=>
    simp only[A]at T;exact(ih y (by grind [Dz]) T j.rel (M.ext j) t q (D.ext j) fun u hu p2 a2 w2 O he2 S=>G u (g2 u hu) p2 a2 w2 O (j.trans he2) S).1
   |exit i=>
    simp only[A,zf]at T;subst T;have:=G z ah N a1 I t j q;rw[A]at this;exact this
   |ret=>
    simp only[A,zf]at T;subst T;have:=G z ah N a1 I t j q;rw[A]at this;exact this
  |cond x b1 b2=>
   refine⟨?_,(by simp)⟩;simp only[Bj]at o;split at o
   case h_1=>
    rename_i hx;have hv:=A4 M J hx;grind [Ac,wpIn_cond_true,Dz]
   case h_2=>
    rename_i hx;have hv:=A4 M J hx;grind [Ac,wpIn_cond_false,Dz]
   grind
  |block id b=>
   refine⟨wpIn_block ?_,(by simp)⟩;simp only[Bj]at o;split at o
   case h_2=>cases o
   rename_i l hs;cases o;refine(ih b (fun e=>by have:=K e;simpa [Dz]using this) hs U M J B D fun z hz N a1 I t j q=>?_).1;have V:=G _ (zu.2 ⟨z,hz,rfl⟩) N a1 I;cases A:z.e with
   |normal=>
    simp only[A]at V;exact V t j q
   |ret=>
    simp only[A]at V;exact V t j q
   |exit i=>
    simp only[A,Bo]at V;by_cases ei:i=id
    ·simp only[ei,decide_true,we]at V;simp only[DX.RZ,Exit.inBlock,ei,wm];exact V t j q
    ·simp only[ei,decide_false,wg,A]at V;simp only[DX.RZ,Exit.inBlock,ei,vf];exact V t j q
  |loop b=>
   have key:Code.roundsIn (FW k) n P b Q (m+1) a w:=by
    rw[roundsIn_succ];simp only[Bj]at o;split at o
    case h_2=>cases o
    rename_i l hs;refine(ih b (fun e=>by have:=K e;simpa [Dz]using this) hs U M J B D fun z hz N a1 I t j q=>?_).1;obtain⟨L1,T,g2⟩:=EW o z hz;cases A:z.e with
    |normal=>
     simp only[A]at T;exact(ih (.loop b) K T j.rel (M.ext j) t q (D.ext j) fun u hu p2 a2 w2 O he2 S=>G u (g2 u hu) p2 a2 w2 O (j.trans he2) S).2 b rfl
    |exit i=>
     simp only[A,zf]at T;subst T;have:=G z ah N a1 I t j q;rw[A]at this;exact this
    |ret=>
     simp only[A,zf]at T;subst T;have:=G z ah N a1 I t j q;rw[A]at this;exact this
   grind [wpIn_loop_rounds]
  |exit i=>cases o;exact⟨wpIn_exit<|G _ (zg.2 rfl) p a w J (zo U) B,(by simp)⟩
  |ret=>cases o;exact⟨wpIn_ret<|G _ (zg.2 rfl) p a w J (zo U) B,(by simp)⟩
  |scope b=>
   refine⟨JE ?_,(by simp)⟩;simp only[Bj]at o;refine(ih b (fun e=>by have:=K e;simpa [Dz]using this) o U M J B D fun z hz N a1 I t j q=>?_).1;have h1:=G z hz N a1 I t j q;cases A:z.e<;>rw[A]at h1<;>exact h1
  |rangeFunc g ps asg body=>
   refine⟨wpIn_rangeFunc fun fn _=>?_,(by simp)⟩;simp only[Bj]at o;split at o
   case h_2=>cases o
   rename_i b h1 ds1 g' hen hgv;split at o
   case h_2=>cases o
   rename_i f args hdc;split at o
   case h_2=>cases o
   rename_i l hcl;obtain⟨r,mark,I,N,nb,q1,q2,q3,q4⟩:=Jv (P:=P) U J D B hen fn;have hyld:Au N [.yld b] (#[Value.func (.yield r) #[] #[]]).toList:=by
    simp only[Bb,Jh,ve];simp only[Ac];grind
   obtain⟨args',s1,s2⟩:=Mk hC q2.rel (M.ext q2) (q2.jN<|A4 M J hgv) hyld hdc;rw[zk]at s1;obtain⟨d,w1',s3,s4⟩:=Result.Wr s1;refine⟨r,mark,I,d,w1',f,args',I,q1,?_,fun _ _=>trivial,s4,(by grind [FW,zp]),WS.2<|(E.fn f args h1 l hcl N I args' q2.rel (M.ext q2) s2).mono ?_⟩
   ·grind [resolve,Act.eval]
   ·rintro e w2 ⟨v,h2,v',p2,hmem,rfl,k1,k2⟩;obtain⟨L1,t1,t2⟩:=EW o (v,h2) hmem;split at t1
    case h_2=>cases t1
    rename_i ls hls;obtain⟨r',n',x,u1,u2,f0,tmps,rd,md,u3,u4,rfl⟩:=k2.rel.obj _ _ hls;have hpb:=k2.at q3;rw[hpb]at u1;cases u1;have hbusy:ls.st≠ .busy:=by
     grind
    obtain⟨W,hW,hput⟩:∃W,(Instr.endLoop r).run P w2=.ok ls.pend W/\Ext p2 h2 w2 p2 (h2.put b<|.loop { ls with st:=.exhausted }) W:=
     ⟨_,run_endLoop u2 hbusy,Ext.put k2.rel hls hpb (o':=.loop { ls with st:=.exhausted }) (x':=.loop { state:=.exhausted,pending:=ls.pend,fn:=f0,tmps,params:=ls.ps,assign:=ls.asg,body:=ls.body,defers:=rd }) ⟨f0,tmps,rd,md,u3,u4,rfl⟩ rfl rfl rfl rfl⟩
    have Z:=q2.trans<|k2.trans hput;refine⟨ls.pend,W,hW,?_⟩;have O:Cg p2 fr { a with defers:=mark++a.defers }:=Cg.ext (a:={ a with defers:=mark++a.defers }) J<|q2.trans k2;have S:HK p2 ds1 (mark++a.defers):=HK.ext k2 q4;split at t1
    case h_1=>cases t1
    case h_2=>
     rename_i hpe _;cases t1;simp only[hpe];exact G _ (t2 _<|zg.2 rfl) p2 _ _ O Z S
    case h_3=>
     rename_i c hpe _;simp only[hpe];exact(ih c (by simp) t1 hput.rel (M.ext Z) O S (D.ext Z) fun u hu p3 a3 w3 hf3 he3 hd3=>G u (t2 u hu) p3 a3 w3 hf3 (Z.trans he3) hd3).1
  |goto l=>simp[Bj]at o
  |refuse s=>simp[Bj]at o
end
section
variable {C:Ctx}{P:Program}{p:Pl}{h:H}{w:World}{fr:Fr}{a:Act}
def Ya(C:Ctx)(fr:Fr)(h:H):ResultVar->Option V
 | .tmp t=>some<|fr.get t
 | .cell a t=>EP C.T h t<|fr.get a
def P6(C:Ctx)(fr:Fr)(h:H):List ResultVar->Option (List V)
 |[]=>some []
 |r::c=>match Ya C fr h r,P6 C fr h c with
  |some v,some vs=>some (v::vs)
  |_,_=>none
def OC(C:Ctx)(fr:Fr)(h:H)(c:List ResultVar):Option V:=
 match P6 C fr h c with
 |some [v]=>some v
 |some vs=>some<|.tup vs
 |none=>none
def nC(a:Act):ResultVar->Sem Value
 | .tmp t=>pure<|a.tmps.getD t undef
 | .cell x t=>do loadVar t (<-asAddr (a.tmps.getD x undef))
theorem V4(fn:Func)(a:Act):results fn a.tmps=(do let vs<-fn.results.mapM (nC a);pure (if h:vs.size=1 then vs[0]else .tuple vs)):=by
 rfl
theorem kH(j:C.T.Ok P)(m:R p h w)(f:Cg p fr a){r:ResultVar}{v:V}(d:Ya C fr h r=some v):
  ∃v',(nC a r).run P w=.ok v' w/\Ac p v v':=by
 cases r with
 |tmp t=>cases d;exact⟨_,rfl,f.2 t⟩
 |cell x t=>
  simp only[Ya]at d;obtain⟨v',g,l⟩:=TY (P:=P) j m (f.2 x) d;refine⟨v',?_,l⟩;have o:∃b i,fr.get x=.ptr b i:=by
   unfold EP at d;grind
  obtain⟨b,i,e⟩:=o;have c:=f.2 x;rw[e]at c;obtain⟨r,n,_,c⟩:=c;rw[c]at g;simp only[nC,c];exact g
theorem T6(f:C.T.Ok P)(g:R p h w)(i:Cg p fr a):∀ {e:List ResultVar} {vs:List V},P6 C fr h e=some vs->
  ∃c:List Value,(e.mapM<|nC a).run P w=.ok c w/\Au p vs c
 |[],vs,d=>by cases d;simp
 |r::e,vs,d=>by
  unfold P6 at d;split at d
  case h_2=>cases d
  rename_i v m j l;cases d;obtain⟨v',q,o⟩:=kH (P:=P) f g i j;obtain⟨c,g3,g4⟩:=T6 f g i l;simp_all
theorem pM(j:C.T.Ok P)(l:R p h w)(m:Cg p fr a){fn:Func}{v:V}(e:OC C fr h fn.results.toList=some v):∃v',(results fn a.tmps).run P w=.ok v' w/\Ac p v v':=by
 unfold OC at e;cases f:P6 C fr h fn.results.toList with
 |none=>grind
 |some vs=>
  obtain⟨c,s,i⟩:=T6 (P:=P) j l m f;have o:=i.length;have d:(results fn a.tmps).run P w=.ok (if h:c.toArray.size=1 then c.toArray[0]else .tuple c.toArray) w:=by
   grind [V4,zk,Array.mapM_eq_mapM_toList,Sem.run_map,zj,Sem.run_pure]
  refine⟨_,d,?_⟩;simp only[f]at e;cases vs with
  |nil=>
   grind [Ac]
  |cons x g=>
   cases g with
   |nil=>
    obtain⟨y,rfl,q⟩:=i.one;grind
   |cons r g=>
    cases e;rw[dif_neg ah];simp_all [Ac]
def TZ:List V->Nat->PM V->PM V
 |[],_,m=>m
 |v::vs,i,m=>TZ vs (i+1)<|m.set i<|some v
def JP(n:Nat)(args:List V):Fr:=⟨args.length+(n-args.length),TZ args 0 .leaf⟩
theorem Ly:∀(vs:List V) (i:Nat) (m:PM V) (t:Nat),(TZ vs i m).get t=if i<=t/\t<i+vs.length then vs[t-i]? else m.get t
 |[],i,m,t=>by simp[TZ];omega
 |v::vs,i,m,t=>by
  unfold TZ;rw[Ly vs (i+1) _ t];by_cases e:t=i
  ·subst e;rw[wc ae,wd<|by simp];simp
  ·by_cases c:i+1<=t/\t<i+1+vs.length
   ·grind
   ·rw[wc c,wc ah];simp[e]
theorem kZ{args:List V}{args':Array Value}(g:Au p args args'.toList)(n:Nat):Cg p (JP n args) { tmps:=args'++Array.replicate (n-args'.size) undef,defers:=[] }:=by
 have e:=g.length;simp at e;refine⟨by simp[JP,e],fun t=>?_⟩;unfold JP Fr.get;rw[Ly];by_cases f:t<args.length
 ·rw[wd ae];obtain⟨u,l,j⟩:=g.get (i:=t) (d:=args[t]) (by simp[f]);have c:args'[t]?=some u:=ah
  simp only[Nat.sub_zero,List.getElem?_eq_getElem f,Option.getD_some];rw[zl,Array.getElem?_append_left ae,c];exact j
 ·have:(args'++Array.replicate (n-args'.size) undef).getD t undef=undef:=by
   rw[zl,Array.getElem?_append_right ae];grind
  simp_all [Ac,undef]
def FD:List Nat->H->Option H
 |[],h=>some h
 |b::c,h=>match h.get b with
  |some (.defd true)=>FD c<|h.put b<|.defd false
  |_=>none
theorem Ri{fn:Func}{tmps:Array Value}{n:Nat}:∀ {ds:List Nat} {l:List Deferred} {p:Pl} {h:H} {w:World} {g:H},HK p ds l->R p h w->FD ds h=some g->
  ∃e,Ext p h w p g e/\∀f:Ending->World->Prop,(∃v,(results fn tmps).run P e=.ok v e/\f (.returned v) e)->LeavesInM zp n P fn tmps f l .returning w
 |[],l,p,h,w,g,o,i,d=>by
  cases d;cases (show l=[]from o);exact⟨w,zo i,fun f hR=>hR⟩
 |b::t,l,p,h,w,g,o,i,d=>by
  unfold FD at d;split at d
  case h_2=>cases d
  rename_i q;obtain⟨r,m,l',s,rfl,j⟩:=o;obtain⟨r',m',x,k1,k2,k3⟩:=i.obj _ _ q;rw[s]at k1;cases k1;subst k3;have c:=Ext.put i q s (o':=.defd false) (x':=.deferred none) (by rfl) (w':=w.putObj r<|.deferred none) rfl rfl rfl rfl;obtain⟨e,g1,g2⟩:=Ri (fn:=fn) (tmps:=tmps) (n:=n) j c.rel d;exact⟨e,c.trans g1,fun f hR=>⟨by simp,.inl ⟨r,_,rfl,run_takeDeferred k2,g2 f hR⟩⟩⟩
def SD(C:Ctx)(m:Nat)(call:CX)(b:Nat)(ls:LS)(fr:Fr)(h:H):Option (List<|V×H):=
 match Bj C call (some b) false m ls.asg fr h []with
 |some l=>bl l fun x=>match x.e,x.h.get b with
  | .normal,some (.loop d)=>match d.st with
   | .ready=>match Bj C call (some b) false m ls.body x.fr (x.h.put b<|.loop { d with st:=.busy }) x.ds with
    |some f=>bl f fun y=>match y.h.get b with
     |some (.loop c)=>match y.e with
      | .normal=>some [(.bool true,y.h.put b<|.loop { c with st:=.ready,pend:=none })]
      | .ret=>some [(.bool false,y.h.put b<|.loop { c with st:=.done,pend:=some .ret })]
      | .exit i=>some [(.bool false,y.h.put b<|.loop { c with st:=.done,pend:=some (.exit i) })]
     |_=>none
    |none=>none
   |_=>none
  |_,_=>none
 |none=>none
mutual
def Kz:V->List Nat
 | .ptr b _| .sl b _ _ _ _| .map b| .yld b=>[b]
 | .fn _ a b=>Iv a++Iv b
 | .iface _ v=>Kz v
 | .agg l| .tup l=>Iv l
 |_=>[]
def Iv:List V->List Nat
 |[]=>[]
 |v::vs=>Kz v++Iv vs
end
def oZ:O->List Nat
 | .cells cs _ _=>Iv cs
 | .map es _=>es.flatMap fun e=>Kz e.1++Kz e.2.1
 |_=>[]
def reach(h:H)(n0:Nat):Nat->List Nat->List Nat->List Nat
 |0,_,acc=>acc
 |_+1,[],acc=>acc
 |f+1,b::c,acc=>bif zw b n0||acc.any (zc b)then reach h n0 f c acc
  else match h.get b with
   |some o=>reach h n0 f (oZ o++c) (b::acc)
   |none=>reach h n0 f c acc
def NJ(PH:List Nat):Nat->Nat->H->H
 |0,_,h=>h
 |f+1,b,h=>NJ PH f (b+1)<|bif PH.any (zc b)then h else h.kill b
def wF:O->Bool
 | .loop l=>match l.st with| .exhausted=>true|_=>false
 |_=>false
def Ty:Option O->Option O
 |some o=>bif wF o then none else some o
 |none=>none
def S3:PM O->PM O
 | .leaf=>.leaf
 | .node l v r=>.node (S3 l) (Ty v)<|S3 r
theorem K3:∀(q:G8) (m:PM O),q.get (S3 m)=Ty (q.get m)
 |G8.here,PM.leaf=>rfl
 |G8.l _,PM.leaf=>rfl
 |G8.r _,PM.leaf=>rfl
 |G8.here,PM.node _ _ _=>rfl
 |G8.l q,PM.node l _ _=>K3 q l
 |G8.r q,PM.node _ _ r=>K3 q r
def H.sift(h:H):H:=⟨S3 h.m,h.nx⟩
theorem UD{p:Pl}{h:H}{w:World}(d:R p h w):Ext p h w p h.sift w:=by
 have sub:∀b o,h.sift.get b=some o->h.get b=some o:=by
  intro b o c;have:h.sift.get b=Ty (h.get b):=K3 _ _;rw[this]at c;cases j:h.get b with
  |none=>rw[j]at c;cases c
  |some x=>
   grind [Ty]
 refine⟨(by simp),⟨d.len,fun b o c=>d.obj b o<|sub b o c,fun b b' o o' r n n' c i=>d.inj b b' o o' r n n' (sub b o c) ah⟩,Nat.le_refl _,(by simp),fun r q=>?_,rfl,rfl,rfl,fun r m e=>⟨rfl,?_⟩,Nat.le_refl _⟩
 ·grind [Im]
 ·obtain⟨b,n,cs,t,fz,f,g,l⟩:=e;refine .inl ⟨b,n,cs,t,fz,?_,g,l⟩;rw[show h.sift.get b=Ty (h.get b)from K3 _ _,f];rfl
def gcO(n0:Nat)(x:V×H):V×H:=(x.1,NJ (reach x.2 n0 1000 (Kz x.1) []) (x.2.nx-n0) n0 x.2.sift)
def aD:List (V×V×Nat)->List (V×V×Nat)->Bool
 |[],[]=>true
 |(a,b,c)::l,(e,b',d)::l'=>V.beq a e&&V.beq b b'&&zc c d&&aD l l'
 |_,_=>false
def O2:List Nat->List Nat->Bool
 |[],[]=>true
 |a::l,b::l'=>zc a b&&O2 l l'
 |_,_=>false
def zA:O->O->Bool
 | .cells cs t fz,.cells cs' j fz'=>V.JI cs cs'&&zc t j&&zc fz.1 fz'.1&&zc fz.2 fz'.2
 | .map es c,.map d i=>aD es d&&zc c i
 | .siter s n,.siter f n'=>s==f&&zc n n'
 | .miter none a l b,.miter none e l' b'=>zc a e&&O2 l l'&&zc b b'
 | .miter (some m) a l b,.miter (some g) e l' b'=>zc m g&&zc a e&&O2 l l'&&zc b b'
 | .defd a,.defd b=>a==b
 |_,_=>false
def La:Option O->Option O->Bool
 |none,none=>true
 |some a,some b=>zA a b
 |_,_=>false
def N3:PM O->PM O->Bool
 | .leaf,.leaf=>true
 | .node l v r,.node l' v' c=>La v v'&&N3 l l'&&N3 r c
 |_,_=>false
def XN(x y:V×H):Bool:=V.beq x.1 y.1&&zc x.2.nx y.2.nx&&N3 x.2.m y.2.m
def dedup:List (V×H)->List (V×H)
 |[]=>[]
 |x::l=>let r:=dedup l;bif r.any (XN x)then r else x::r
def LQ(n0:Nat):List (V×H)->List (V×H)
 |[]=>[]
 |[x]=>[x]
 |l=>dedup<|l.map<|gcO n0
theorem XK:∀ {a b:List (V×V×Nat)},aD a b=true->a=b
 |[],[],_=>rfl
 |[],_::_,h=>by simp[aD]at h
 |_::_,[],h=>by simp[aD]at h
 |(a,b,c)::l,(e,b',d)::l',h=>by
  simp only[aD,zd]at h;rw[V.beq_eq h.1.1.1,V.beq_eq h.1.1.2,ze h.1.2,XK h.2]
theorem Pc:∀ {a b:List Nat},O2 a b=true->a=b
 |[],[],_=>rfl
 |[],_::_,h=>by simp[O2]at h
 |_::_,[],h=>by simp[O2]at h
 |a::l,b::l',h=>by
  simp only[O2,zd]at h;rw[ze h.1,Pc h.2]
theorem R8{a b:O}(h:zA a b=true):a=b:=by
 unfold zA at h;split at h
 ·grind [V.Gk,ze]
 ·grind [XK,ze]
 ·simp_all
 ·grind [ze,Pc]
 ·grind [ze,Pc]
 ·grind
 grind
theorem PN:∀ {a b:PM O},N3 a b=true->a=b
 | .leaf,.leaf,_=>rfl
 | .leaf,.node _ _ _,h=>by simp[N3]at h
 | .node _ _ _,.leaf,h=>by simp[N3]at h
 | .node l v r,.node l' v' c,h=>by
  simp only[N3,zd]at h;rw[PN h.1.2,PN h.2];congr 1;cases v<;>cases v'<;>first|rfl|exact wi some (R8 h.1.1)|(simp[La]at h)
theorem iC{x y:V×H}(h:XN x y=true):x=y:=by
 simp only[XN,zd]at h;obtain⟨v,m,n⟩:=x;obtain⟨v',m',n'⟩:=y;grind [V.beq_eq,ze,PN]
theorem Mj:∀ {l:List (V×H)} {x:V×H},x∈l->x∈dedup l
 |a::l,x,h=>by
  unfold dedup;simp only;cases c:(dedup l).any (XN a)with
  |true=>
   rcases zr.1 h with rfl|h
   ·grind [iC]
   ·exact Mj h
  |false=>
   rcases zr.1 h with rfl|h
   ·simp
   ·exact List.mem_cons_of_mem _<|Mj h
theorem It(PH:List Nat):∀(f b:Nat) {p:Pl} {h:H} {w:World},R p h w->Ext p h w p (NJ PH f b h) w
 |0,_,_,_,_,c=>zo c
 |f+1,b,p,h,w,c=>by
  unfold NJ;cases PH.any (zc b)with
  |true=>exact It PH f (b+1) c
  |false=>exact(Ext.kill c b).trans<|It PH f (b+1)<|c.kill b
theorem GA.merge{l:List (V×H)}{n0:Nat}{e:Ending}{w':World}(i:GA p h w l e w'):GA p h w (LQ n0 l) e w':=by
 obtain⟨v,h',v',p',d,f,g,c⟩:=i;unfold LQ;split
 ·cases d
 ·exact⟨v,h',v',p',d,f,g,c⟩
 ·exact⟨v,(gcO n0 (v,h')).2,v',p',Mj<|zu.2 ⟨_,d,rfl⟩,f,g,c.trans<|(UD c.rel).trans<|It _ _ _ (UD c.rel).rel⟩
def AZ(C:Ctx):Nat->CX
 |0=>fun _ _=>none
 |n+1=>fun c h=>
  match c with
  | .rnd b ls fr=>SD C n (AZ C n) b ls fr h
  | .fn f args=>
   match C.spec f with
   |some q=>match q args h with
    |some x=>some [x]
    |none=>none
   |none=>
    match C.fn f with
    |none=>none
    |some i=>
     match Bj C (AZ C n) none i.cert n i.body (JP i.ntmps args) h []with
     |none=>none
     |some l=>match (bl l fun x=>match x.e with
      | .exit _=>none
      |_=>match FD x.ds x.h with
       |some d=>match OC C x.fr d i.results.toList with
        |some v=>some [(v,d)]
        |none=>none
       |none=>none)with
      |some r=>some<|bif C.mg then LQ h.nx r else r
      |none=>none
theorem Mx(e:R p h w){b r n:Nat}{ls:LS}(d:h.get b=some (.loop ls))(f:p[b]?=some (r,n)):
  ∃rec:Loop,w.heap[r]?=some (.loop rec)/\rec.state=ls.st/\rec.pending=ls.pend/\∀(st:LoopState) (c:Option Code),Ext p h w p (h.put b<|.loop { ls with st:=st,pend:=c }) (w.putObj r<|.loop { rec with state:=st,pending:=c }):=by
 obtain⟨l,n',x,u1,u2,f0,tmps,rd,g,j,i,rfl⟩:=e.obj _ _ d;rw[f]at u1;cases u1;exact⟨_,u2,rfl,rfl,fun st c=>Ext.put e d f (o':=.loop { ls with st:=st,pend:=c }) ⟨f0,tmps,rd,g,j,i,rfl⟩ rfl rfl rfl rfl⟩
theorem LD(J:C.Ok P){call:CX}(g:call.Ok C P)(I:P.follows .mixedOrders=true){b:Nat}{ls:LS}{l:List (V×H)}{k m D:Nat}(q:SD C D call b ls fr h=some l){f:FuncId}{tmps:Array Value}
  (T:R p h w) (M:Gl C p) (r:p[b]?=some (k,m)) (hf:Ei p fr tmps):RoundIn zp 0 P k f tmps ls.asg ls.body w (GA p h w l):=by
 unfold SD at q;split at q
 case h_2=>cases q
 rename_i L S;refine roundIn_of_wpIn trivial ?_;refine(K0 (k:=some k) (n:=0) J g I D false ls.asg (by simp) S p { tmps:=tmps,defers:=[] } w _ T M hf rfl ⟨m,r⟩ fun x U A a1 N v c s=>?_).1;obtain⟨L1,j,g2⟩:=EW q x U;split at j
 case h_2=>cases j
 rename_i X t u;split at j
 case h_2=>cases j
 rename_i G;split at j
 case h_2=>cases j
 rename_i L2 z;rw[t];obtain⟨rec,q1,O,q3,q4⟩:=Mx c.rel u<|c.at r;refine⟨_,run_beginRound q1<|O.trans G,?_⟩;have o:Ext A x.h N A (x.h.put b<|.loop { X with st:=.busy }) (N.putObj k<|.loop { rec with state:=.busy }):=by
  grind
 have ex:=c.trans o;refine(K0 (k:=some k) (n:=0) J g I D false ls.body (by simp) z A a1 _ _ o.rel (M.ext ex) v s ⟨m,c.at r⟩ fun y Z B a2 w2 Y d hd2=>?_).1;obtain⟨L3,t1,t2⟩:=EW j y Z;split at t1
 case h_2=>cases t1
 rename_i l3 E;obtain⟨K,s1,s2,s3,s4⟩:=Mx d.rel E<|d.at (c.at r);cases W:y.e with
 |normal=>
  exact⟨_,_,run_endRound none s1,.bool true,_,.bool true,B,ah,rfl,by rfl,ex.trans<|d.trans<|s4 .ready none⟩
 |ret=>
  exact⟨_,_,run_endRound (some .ret) s1,.bool false,_,.bool false,B,ah,rfl,by rfl,ex.trans<|d.trans<|s4 .done<|some .ret⟩
 |exit i=>
  exact⟨_,_,(by grind [run_endRound]),.bool false,_,.bool false,B,ah,rfl,by rfl,ex.trans<|d.trans<|s4 .done<|some<|.exit i⟩
def Du(C:Ctx):Prop:=∀f i,C.fn f=some i->i.cert=true->Dz i.body=true
theorem EK(r:C.Ok P)(s:Du C)(y:P.follows .mixedOrders=true):∀n,(AZ C n).Ok C P
 |0=>⟨fun f args h l c=>(by cases c),fun b ls fr h l c=>(by cases c)⟩
 |n+1=>by
  refine⟨fun f args h l c p w args' z A K=>?_,fun b ls fr h l c p w k m f tmps z A hb hp hf=>LD r (EK r s y n) y c z A hp hf⟩;unfold AZ at c;simp only at c;split at c
  case h_1=>
   rename_i q R;split at c
   case h_2=>cases c
   rename_i x I;cases c;refine(r.spec f q R p h w args args' x.1 x.2 z A K I).mono ?_;rintro e w' ⟨v',p',rfl,o,J⟩;exact⟨x.1,x.2,v',p',(by simp),rfl,o,J⟩
  case h_2=>
   split at c
   case h_1=>cases c
   rename_i i M;split at c
   case h_1=>cases c
   rename_i L W;split at c
   case h_2=>cases c
   rename_i B E;cases c;refine Calls.mono ?_ (fun e w' N=>(show GA p h w (bif C.mg then LQ h.nx B else B) e w' from by cases C.mg with|true=>exact GA.merge N|false=>exact N));have c:=E;generalize B=l at c;obtain⟨fn,t,h2,Z,O,h5⟩:=r.fn f i M;have h6:=s f i M;refine callsIn_wide.1<|callsIn_of_wp_marks (F:=zp) (n:=0) t Z trivial ?_;rw[O];refine(K0 (k:=none) (n:=0) r (EK r s y n) y n i.cert i.body h6 W p _ w _ z A (kZ K i.ntmps) rfl trivial fun x I Y a1 X G u D=>?_).1;obtain⟨L1,o,J⟩:=EW c x I;have fin:∀ {t:H} {v:V},FD x.ds x.h=some t->OC C x.fr t i.results.toList=some v->L1=[(v,t)]->LeavesInM zp 0 P fn a1.tmps (GA p h w l) a1.defers .returning X:=by
    intro t v g d hL1;obtain⟨w2,q1,S⟩:=Ri (P:=P) (fn:=fn) (tmps:=a1.tmps) (n:=0) D u.rel g;obtain⟨v',s1,s2⟩:=pM (P:=P) (fn:=fn) r.T q1.rel (G.ext q1) (by rw[h5];exact d);exact S _ ⟨v',s1,v,t,v',Y,ah,rfl,s2,u.trans q1⟩
   split at o
   case h_1=>cases o
   case h_2=>
    split at o
    case h_2=>cases o
    rename_i h2 g;split at o
    case h_2=>cases o
    rename_i v d;cases o;cases U:x.e with
    |normal=>exact fin g d rfl
    |ret=>exact fin g d rfl
    |exit j=>grind
end
def gG(P:Program)(t:TypeId):Option TI:=
 match P.info? t with
 |some i=>match i.zero with
  |some z=>match cv z with
   |some v=>some ⟨i.size,i.bytes,v⟩
   |none=>none
  |none=>none
 |none=>none
theorem lE{P:Program}{t:TypeId}{i:TI}(h:gG P t=some i):∃j v,P.info? t=some j/\j.size=i.size/\j.bytes=i.bytes/\j.zero=some v/\∀p,Ac p i.zv v:=by
 unfold gG at h;split at h
 case h_2=>cases h
 split at h
 case h_2=>cases h
 split at h
 case h_2=>cases h
 cases h;simp_all [VH]
def mO(P:Program)(t:TypeId):Option FK:=
 match P.underlying t with
 |some (.int k)=>some<|.int k
 |some .string=>some .str
 |some .bool=>some .bool
 |_=>none
def O9(P:Program):List Field->Nat->Option (List FK)
 |[],_=>some []
 | f :: fs, i => if f.name = "_" \/ f.offset ≠ i then none else match mO P f.type, O9 P fs (i + 1) with
  |some k,some ks=>some (k::ks)
  |_,_=>none
def WJ(P:Program)(t:TypeId):Option (List FK):=
 match P.underlying t with
 |some (.struct fs)=>if P.stoodInHeld t=true\/P.eqGuardType P.depth t=true then none else O9 P fs.toList 0
 |_=>none
def VO:TypeDesc->Bool
 | .pointer _=>false
 |_=>true
def cI(P:Program)(t:TypeId)(name:String):Option FuncId:=
 match P.info? t,P.underlying t with
 |some j,some d=>match j.methods.find? (·.name==name)with
  |some m=>match m.path,m.func with
   |⟨[]⟩,some (f,false)=>bif VO d then some f else none
   |_,_=>none
  |none=>none
 |_,_=>none
theorem fZ{P:Program}{t:TypeId}{name:String}{f:FuncId}(h:cI P t name=some f):∃j m d,P.info? t=some j/\j.methods.find? (·.name==name)=some m/\m.path= #[]/\m.func=some (f,false)/\P.underlying t=some d/\∀e,d≠ .pointer e:=by
 unfold cI at h;split at h
 case h_2=>cases h
 rename_i j d g i;split at h
 case h_2=>cases h
 split at h
 case h_2=>cases h
 cases c:VO d with
 |false=>grind
 |true=>
  grind [VO]
def tY(P:Program):BV:=⟨P.underlying,gG P,WJ P,cI P⟩
section
variable {P:Program}{p:Pl}
theorem Oe{t:TypeId}{k:FK}(h:mO P t=some k):∃d,P.underlying t=some d/\DZ d=false/\(∀e,d≠ .interface e)/\match k with
  | .int k=>d=.int k
  | .str=>d=.string
  | .bool=>d=.bool:=by
 unfold mO at h;split at h
 case h_1=>rename_i c;cases h;exact⟨_,c,rfl,(by simp),rfl⟩
 case h_2=>rename_i c;cases h;exact⟨_,c,rfl,(by simp),rfl⟩
 case h_3=>rename_i c;cases h;exact⟨_,c,rfl,(by simp),rfl⟩
 grind
theorem P0{t:TypeId}{d:TypeDesc}(f:P.underlying t=some d)(e:DZ d=false){cs:Array Value}{i:Nat}{v:Value}(c:cs[i]?=some v)(w:World):(part t cs i).run P w=.ok v w:=by
 unfold part isAgg;have M8:(underlying t).run P w=.ok d w:=by simp_all [underlying]
 simp only[zk,M8,zj];cases d<;>first|(cases e;done)|simp[c]
theorem Xw{t:TypeId}{k:FK}(h:mO P t=some k){a b:V}{f b':Value}(e:k.ok a=true)(c:k.ok b=true)(i:Ac p a f)(g:Ac p b b'){r:Bool}(l:D2 a b=some r)(d:Nat)(w:World):
  (Op.equalIn (d+1) t f b').run P w=.ok r w:=by
 obtain⟨D,j,_,_,m⟩:=Oe h;cases k with
 |int k=>
  cases a<;>simp only[FK.ok]at e<;>try (cases e;done)
  cases b<;>simp only[FK.ok]at c<;>try (cases c;done)
  grind [Ac,D2,run_equalIn_int]
 |str=>
  cases a<;>simp only[FK.ok]at e<;>try (cases e;done)
  cases b<;>simp only[FK.ok]at c<;>try (cases c;done)
  grind [Ac,D2,run_equalIn_string,IN]
 |bool=>
  cases a<;>simp only[FK.ok]at e<;>try (cases e;done)
  cases b<;>simp only[FK.ok]at c<;>try (cases c;done)
  grind [Ac,D2,run_equalIn_bool']
theorem RW:∀ {ks:List FK} {x:List V},fit ks x=true->ks.length=x.length
 |[],[],_=>rfl
 |[],_::_,h=>by simp[fit]at h
 |_::_,[],h=>by simp[fit]at h
 |k::ks,v::vs,h=>by
  unfold fit at h;cases c:k.ok v with
  |false=>grind
  |true=>simp only[c,we]at h;simp[RW h]
theorem K4(d:Nat){w:World}{x' y':Array Value}:∀ {fs:List Field} {i:Nat} {ks:List FK},O9 P fs i=some ks->∀ {x y:List V} {u v:List Value},fit ks x=true->fit ks y=true->Au p x u->Au p y v->
  (∀j a,u[j]?=some a->x'[i+j]?=some a)->(∀j a,v[j]?=some a->y'[i+j]?=some a)->∀ {r:Bool},BO x y=some r->(Op.eqFields (d+1) x' y' fs).run P w=.ok r w
 |[],i,ks,g,x,y,u,v,A,z,_,_,_,_,r,s=>by
  cases g;cases x with
  |cons _ _=>simp[fit]at A
  |nil=>cases y with
   |cons _ _=>simp[fit]at z
   |nil=>simp_all [BO,Op.eqFields]
 |f::fs,i,ks,g,x,y,u,v,A,z,T,R,L,K,r,s=>by
  unfold O9 at g;split at g
  case isTrue=>cases g
  have m : f.name ≠ "_" := ah;have q:f.offset=i:=ae;split at g
  case h_2=>cases g
  rename_i k l B O;cases g;cases x with
  |nil=>simp[fit]at A
  |cons a x=>cases y with
   |nil=>simp[fit]at z
   |cons b y=>
    obtain⟨U,W,rfl,o,t⟩:=T;obtain⟨b',v',rfl,hv1,hv2⟩:=R;have I:k.ok a=true:=by grind [fit]
    have J:k.ok b=true:=by grind [fit]
    have S:fit l x=true:=by grind [fit]
    have N:fit l y=true:=by grind [fit]
    obtain⟨D,M8,e,_,_⟩:=Oe B;have G:=P0 M8 e (L 0 U rfl) w;have pb:=P0 M8 e (K 0 b' rfl) w;simp only[Nat.add_zero]at G pb;simp only[Op.eqFields,m,vc,not_false_eq_true,wm,zk,q,G,pb,zj];unfold BO at s;split at s
    case h_1=>
     rename_i E;rw[Xw B I J o hv1 E];exact K4 d O S N t hv2 (fun j c M=>by have:=L (j+1) c ah;grind) (fun j c M=>by have:=K (j+1) c ah;grind) s
    case h_2=>
     rename_i E;rw[Xw B I J o hv1 E];simp_all
    grind
theorem JT{b:Bool}{w:World}{x':Array Value}:∀ {fs:List Field} {i:Nat} {ks:List FK},O9 P fs i=some ks->∀ {x:List V} {u:List Value},fit ks x=true->Au p x u->
  (∀j a,u[j]?=some a->x'[i+j]?=some a)->
  (forIn (m := Sem) fs PUnit.unit fun f _ => if f.name ≠ "_" then do
    zm b 9999 f.type (<-part f.type x' f.offset)
    pure (ForInStep.yield zt)
   else do
    pure zt
    pure (ForInStep.yield zt)).run P w=.ok zt w
 |[],i,ks,e,x,u,q,_,_=>by simp
 |f::fs,i,ks,e,x,u,q,z,r=>by
  unfold O9 at e;split at e
  case isTrue=>cases e
  split at e
  case h_2=>cases e
  rename_i k l A B;cases e;cases x with
  |nil=>simp[fit]at q
  |cons a x=>
   obtain⟨s,J,rfl,E,o⟩:=z;have y:fit l x=true:=by grind [fit]
   obtain⟨D,M8,g,v,_⟩:=Oe A;have G:=P0 M8 g (r 0 s rfl) w;have t:(zm b 9999 f.type s).run P w=.ok () w:=by
    unfold zm;have d:(underlying f.type).run P w=.ok D w:=by simp_all [underlying]
    simp only[zk,d,zj];cases D<;>first|rfl|grind|grind
   have K:=JT (b:=b) (w:=w) (x':=x') B y o (fun j c I=>by have:=r (j+1) c ah;grind);simp_all
theorem wV(P:Program):(tY P).Ok P:=by
 have key:∀t ks,WJ P t=some ks->∃fs,P.underlying t=some (.struct fs)/\P.stoodInHeld t=false/\P.eqGuardType P.depth t=false/\O9 P fs.toList 0=some ks:=by
  grind [WJ]
 refine⟨fun t d h=>h,fun t i h=>lE h,?_,?_,?_,?_,fun t name f h=>fZ h⟩
 ·intro t ks h p x y x' y' r w o s m u q;obtain⟨fs,c,l,g,j⟩:=key t ks h;grind [Program.fieldsOf,Op.equal,Op.maxDepth,run_equalIn_struct,K4]
 ·intro t ks h;obtain⟨fs,c,l,g,j⟩:=key t ks h;exact g
 ·intro t ks h p x x' b w o m;obtain⟨fs,c,l,g,j⟩:=key t ks h;unfold zm;have e:(underlying t).run P w=.ok (.struct fs) w:=by simp_all [underlying]
  have:=JT (b:=b) (w:=w) (x':=x') j o m (by simp);simp_all
 ·intro t ks h;obtain⟨fs,c,_⟩:=key t ks h;exact⟨fs,c⟩
end
def Qj(P:Program)(ct:FuncId->Bool)(f:FuncId):Option Fn:=
 match P.funcs[f]? with
 |some fn=>match fn.body with
  | some b => if fn.name = "runtime.NumGoroutine" then none else some ⟨fn.ntmps, fn.results, b, ct f⟩
  |none=>none
 |none=>none
theorem oA {P : Program} {ct : FuncId -> Bool} {f : FuncId} {i : Fn} (h : Qj P ct f = some i) : ∃ fn, P.funcs[f]? = some fn /\ fn.name ≠ "runtime.NumGoroutine" /\ fn.body = some i.body /\ fn.ntmps = i.ntmps /\ fn.results = i.results := by
 unfold Qj at h;grind
inductive PK where
 |indexByte
 |add64
 |sub64
 |count
 |noEsc
def Pb:Array Value->Sem Value:=fun args=>do
 let (x, y, b) <- Extern.MathBitsCarry.three "Sub64" args
 pure (zn ((x+zi-y-b) % zi) (if x<y+b then 1 else 0))
def PK.entry:PK->Array Value->Sem Value
 | .indexByte=>Extern.BytealgIndexByte.indexByte
 | .add64=>add64Entry
 | .sub64=>Pb
 | .count=>Extern.BytealgCount.count
 | .noEsc=>Extern.AbiNoEscape.same
def U5:Option Nat->V
 |some i=>i64 i
 |none=>.int .i64<| -1
def lJ:Nat:=18446744073709551616
def PK.run:PK->List V->H->Option (V×H)
 | .indexByte,[.str s,.int .u8 c],h=>some (U5<|s.findIdx? fun x=>x==c.toNat.toUInt8,h)
 | .add64,[.int .u64<|.ofNat x,.int .u64<|.ofNat y,.int .u64<|.ofNat c],h=>
  bif Nat.ble c 1 then some (.tup [.int .u64<|.ofNat<|(x+y+c) % lJ,.int .u64<|.ofNat<|(x+y+c)/lJ],h)else none
 | .sub64,[.int .u64<|.ofNat x,.int .u64<|.ofNat y,.int .u64<|.ofNat c],h=>
  bif Nat.ble c 1 then some (.tup [.int .u64<|.ofNat<|(x+lJ-y-c) % lJ,.int .u64<|.ofNat<|bif zw x (y+c)then 1 else 0],h)else none
 | .count,[.str s,.int .u8 c],h=>some (.int .i64 (s.foldl (fun n x=>bif x==c.toNat.toUInt8 then Nat.add n 1 else n) 0:Nat),h)
 | .noEsc,[.ptr b o],h=>some (.ptr b o,h)
 |_,_,_=>none
theorem Qe(s:Z)(c:UInt8):((List.range (bytesOf s).size).find? fun i=>(bytesOf s)[i]! ==c)=s.findIdx? fun x=>x==c:=by
 have key:∀(l pre:Z),pre++l=s->((List.range' pre.length l.length).find? fun i=>(bytesOf s)[i]! ==c)=(l.findIdx? fun x=>x==c).map (· +pre.length):=by
  intro l;induction l with
  |nil=>simp
  |cons a l e=>
   intro pre g;have d:(bytesOf s)[pre.length]! =a:=by
    grind [BU,bytesOf,ByteArray.getElem_eq_getElem_data]
   rw[List.length_cons,List.range'_succ,List.find?_cons,d,List.findIdx?_cons];cases f:a==c with
   |true=>simp
   |false=>
    have:=e (pre++[a]) ah;simp only[List.length_append,List.length_singleton]at this;simp only[this,Bool.false_eq_true,vf,Option.map_map];congr 1;grind
 have:=key s [] rfl;simp_all [List.range_eq_range',BU]
theorem Au.three{p:Pl}{a b c:V}{l:List Value}(h:Au p [a,b,c] l):∃x y z,l=[x,y,z]/\Ac p a x/\Ac p b y/\Ac p c z:=by
 simp only[Au]at h;grind
theorem PK.sim{P:Program}{k:PK}{p:Pl}{h:H}{w:World}{args:List V}{args':Array Value}{v:V}{h':H}(g:Au p args args'.toList)(d:k.run args h=some (v,h')):
  h'=h/\∃v',(k.entry args').run P w=.ok v' w/\Ac p v v':=by
 unfold PK.run at d;split at d
 case h_6=>cases d
 case h_5=>
  cases d;obtain⟨x,i,e⟩:=g.one;have:args'= #[x]:=ah;subst this;exact⟨rfl,x,(by rfl),e⟩
 case h_1=>
  rename_i s c;cases d;obtain⟨x,y,i,e,f⟩:=g.two;have:args'= #[x,y]:=ah;subst this;subst e f;refine⟨rfl,_,run_indexByte_string (bytesOf s) c w,?_⟩;unfold firstIdx;rw[Qe];grind [U5,i64,Ac]
 case h_2=>
  rename_i x y c;rw[show Nat.ble c 1=decide (c<=1)from by rw[Bool.eq_iff_iff];simp]at d;by_cases j:c<=1
  ·simp only[j,decide_true,we,zf,zq]at d;obtain⟨rfl,rfl⟩:=d;obtain⟨x',y',z',i,e,f,h3⟩:=g.three;have:args'= #[x',y',z']:=ah;subst this;subst e f h3;refine⟨rfl,_,run_add64 x y c ae ae ae ae w,?_⟩;simp_all [Ac,lJ]
  grind
 case h_3=>
  rename_i x y c;rw[show Nat.ble c 1=decide (c<=1)from by rw[Bool.eq_iff_iff];simp]at d;by_cases j:c<=1
  ·simp only[j,decide_true,we,zf,zq]at d;obtain⟨rfl,rfl⟩:=d;obtain⟨x',y',z',i,e,f,h3⟩:=g.three;have:args'= #[x',y',z']:=ah;subst this;subst e f h3;have key:(Pb #[.int .u64 x,.int .u64 y,.int .u64 c]).run P w=
     .ok (zn ((x+zi-y-c) % zi)<|if x<y+c then 1 else 0) w:=by
    have:c=0\/c=1:=ae
    rcases this with rfl|rfl<;>rfl
   refine⟨rfl,_,key,?_⟩;refine⟨_,rfl,?_⟩;simp only[Bb,Jh,ve,Ac];refine⟨rfl,?_⟩;grind [Gf]
  grind
 case h_4=>
  rename_i s c;cases d;obtain⟨x,y,i,e,f⟩:=g.two;have:args'= #[x,y]:=ah;subst this;subst e f;refine⟨rfl,_,Lib.run_countString (bytesOf s) c w,?_⟩;have key:∀(l:Z) (n:Nat),l.foldl (fun n x=>bif x==c.toNat.toUInt8 then Nat.add n 1 else n) n=n+Lib.countByte l c.toNat.toUInt8:=by
   intro l;induction l with
   |nil=>grind [Lib.countByte]
   |cons x l m=>
    intro n;rw[List.foldl_cons,m];unfold Lib.countByte;grind
  simp_all [Ac,bytesOf]
def R0(L:List (FuncId×PK))(f:FuncId):Option (List V->H->Option (V×H)):=
 match L with
 |[]=>none
 |(g,k)::L=>bif zc g f then some k.run else R0 L f
structure J6(P:Program)(x:FuncId×PK):Prop where
 ok : ∃ fn, P.funcs[x.1]? = some fn /\ (fn.name == "runtime.NumGoroutine") = false /\ fn.body.isNone = true /\ Extern.findNext fn = none /\ Extern.find fn = some x.2.entry
theorem XR{P:Program}:∀ {L:List (FuncId×PK)},(∀x∈L,J6 P x)->∀f q,R0 L f=some q->∀(p:Pl) (h:H) (w:World) (args:List V) (args':Array Value) v h',R p h w->Au p args args'.toList->q args h=some (v,h')->
  ∃v' p' w',(callFunc f args').run P w=.ok (.value v') w'/\Ac p' v v'/\Ext p h w p' h' w'
 |[],_,f,q,c,_,_,_,_,_,_,_,_,_,_=>by cases c
 |(g,k)::L,l,f,q,c,p,h,w,args,args',v,h',d,j,i=>by
  unfold R0 at c;rw[Bo]at c;by_cases e:g=f
  ·subst e;simp only[decide_true,we,zf]at c;subst c;obtain⟨fn,r,s,o,m,t⟩:=(l (g,k)<|by simp).ok;obtain⟨rfl,v',g1,g2⟩:=PK.sim (P:=P) (w:=w) j i;refine⟨v',p,w,?_,g2,zo d⟩;simp_all [run_callFunc_extern]
  ·simp only[e,decide_false,wg]at c;exact XR ah f q c p h w args args' v h' d j i
def AbH:Option (List<|V×H)->Option V
 |some [(v,_)]=>some v
 |_=>none
def Xv(C:Ctx)(n:Nat)(f:FuncId)(args:List V)(v:V):Bool:=match AbH (AZ C n (.fn f args) hG)with
 |some x=>V.beq x v
 |none=>false
theorem W8{C C':Ctx}{P:Program}(E:C.Ok P)(t:Du C)(D:P.follows .mixedOrders=true){n:Nat}{f:FuncId}{args:List V}{v:V}
  (j:Xv C n f args v=true) (I:V.E9 args=true) (s:v.flat=true) {p:Pl} {h:H} {w:World} {args':Array Value} (d:R p h w) (z:Gl C' p) (G:Gh h) (c:Au p args args'.toList):
  Calls P f args' w fun e w'=>∃v' p',e=.returned v'/\Ac p' v v'/\Ext p h w p' h w':=by
 unfold Xv at j;split at j
 case h_2=>cases j
 rename_i x q;have A:x=v:=V.beq_eq j;subst A;unfold AbH at q;split at q
 case h_2=>cases q
 rename_i l O B;cases q;refine((EK E t D n).fn f args hG _ B _ w args' (wT d z G) z.take<|V.GS I c).mono ?_;rintro e w' ⟨u,h',v',p',i,rfl,K,g⟩;cases zg.1 i;have J:∀r,r<w.heap.size->w'.heap[r]?=w.heap[r]?:=fun r d=>g.C5 z.take r d
 refine⟨v',p,rfl,V.CB s K,⟨(by simp),⟨d.len,fun b o L=>?_,d.inj⟩,g.size,ah,ah,g.os,g.out,g.tape,ah,g.dr⟩⟩;obtain⟨r,m,y,S,N,M⟩:=d.obj b o L;grind
def Td(h:H):List (Nat×O)->Bool
 |[]=>true
 |(i,o)::l=>La (h.get i) (some o)&&Td h l
theorem Hx{h:H}:∀ {l:List (Nat×O)},Td h l=true->∀x∈l,h.get x.1=some x.2
 |[],_,x,c=>by cases c
 |(i,o)::l,d,x,c=>by
  simp only[Td,zd]at d;rcases zr.1 c with rfl|c
  ·cases e:h.get i with
   |none=>grind [La]
   |some q=>grind [R8,La]
  ·exact Hx d.2 x c
def goS:List (Nat×O)->Bool
 |[]=>true
 |(_,o)::l=>La (some o) (some o)&&goS l
theorem Zj:goS C5=true:=by rfl
theorem kB{h:H}(c:Gh h):Td h C5=true:=by
 have key:∀l:List (Nat×O),(∀x∈l,h.get x.1=some x.2)->goS l=true->Td h l=true:=by
  intro l;induction l with
  |nil=>exact fun _ _=>rfl
  |cons x l d=>
   intro e f;simp_all [goS,Td]
 exact key C5 c Zj
abbrev CH:=List<|FuncId×List V×V
def EN:CH->FuncId->List V->Option V
 |[],_,_=>none
 |(g,a,v)::l,f,args=>bif zc g f&&V.JI a args then some v else EN l f args
def RM:CH->FuncId->Bool
 |[],_=>false
 |(g,_,_)::l,f=>bif zc g f then true else RM l f
def Hj(L:CH)(f:FuncId):Option (List V->H->Option (V×H)):=
 bif RM L f then some (fun args h=>bif Td h C5 then(match EN L f args with|some v=>some (v,h)|none=>none)else none)else none
def AX(C:Ctx)(n:Nat):CH->Bool
 |[]=>true
 |(f,a,v)::l=>Xv C n f a v&&V.E9 a&&v.flat&&AX C n l
theorem ZL{L:CH}{f:FuncId}{args:List V}{v:V}(h:EN L f args=some v){C:Ctx}{n:Nat}(c:AX C n L=true):Xv C n f args v=true/\V.E9 args=true/\v.flat=true:=by
 induction L with
 |nil=>cases h
 |cons x l e=>
  obtain⟨g,a,u⟩:=x;simp only[AX,zd]at c;unfold EN at h;cases d:(zc g f&&V.JI a args)with
  |false=>grind
  |true=>
   grind [ze,V.Gk]
theorem mS{C C':Ctx}{P:Program}(r:C.Ok P)(j:Du C)(l:P.follows .mixedOrders=true){n:Nat}{L:CH}(y:AX C n L=true):
  ∀f q,Hj L f=some q->∀(p:Pl) (h:H) (w:World) (args:List V) (args':Array Value) v h',R p h w->Gl C' p->Au p args args'.toList->q args h=some (v,h')->
  Calls P f args' w fun e w'=>∃v' p',e=.returned v'/\Ac p' v v'/\Ext p h w p' h' w':=by
 intro f q i p h w args args' v h' o t d c;unfold Hj at i;cases s:RM L f with
 |false=>grind
 |true=>
  rw[s]at i;cases i;simp only at c;cases g:Td h C5 with
  |false=>grind
  |true=>
  rw[g]at c;split at c
  case h_2=>cases c
  rename_i u z;cases c;obtain⟨A,x,m⟩:=ZL z y;exact W8 (C':=C') r j l A x m o t (Hx g) d
section
def Ou(P:Program):Nat->Nat->Bool
 |0,_=>true
 |n+1,a=>(match Qj P (fun _=>true) a with|some i=>Dz i.body|none=>true)&&Ou P n (a+1)
variable {P:Program}
theorem Rj{ct:FuncId->Bool}{f:FuncId}{i:Fn}(c:Qj P ct f=some i):Qj P (fun _=>true) f=some { i with cert:=true }/\i.cert=ct f:=by
 unfold Qj at c ⊢;cases d:P.funcs[f]? with
 |none=>grind
 |some fn=>
  grind
theorem IK{f:Nat}{i:Fn}{ct:FuncId->Bool}(c:Qj P ct f=some i):∀ {n a:Nat},Ou P n a=true->a<=f->f<a+n->Dz i.body=true
 |0,a,_,d,g=>by omega
 |n+1,a,h,d,g=>by
  simp only[Ou,zd]at h;by_cases e:a=f
  ·subst e;rw[(Rj c).1]at h;exact h.1
  ·exact IK c h.2 ae ae
def mkC(P:Program)(N:Nat)(L:List (FuncId×PK)):Ctx:=⟨tY P,0,Qj P<|fun f=>zw f N,R0 L,fun _=>none,true⟩
theorem Zy{N:Nat}{L:List (FuncId×PK)}(h:∀f i,f<N->Qj P (fun f=>zw f N) f=some i->Dz i.body=true):Du (mkC P N L):=by
 intro f i c d;have c:Qj P (fun f=>zw f N) f=some i:=c;rw[(Rj c).2]at d;exact h f i (Nat.le_of_ble_eq_true d) c
theorem wK{N:Nat}{L:List (FuncId×PK)}(d:∀x∈L,J6 P x):(mkC P N L).Ok P where
 T:=wV P
 fn:=fun _ _ h=>oA (P:=P) (ct:=fun f=>zw f N) h
 prim:=fun f q c p h w args args' v h' e _ i g=>XR d f q c p h w args args' v h' e i g
 spec:=fun f q c=>by cases c
end
end Go.Det
