import Derived.Test.YtjbmodoofdpgcaaGreatDoorX02
import Derived.Laws.StructEq
import Derived.Lib.Bytealg
import Derived.Laws.Externs
/- A part of a proof; no law is stated here. -/
noncomputable section
open Nat renaming beq -> zc, eq_of_beq_eq_true -> ze, blt -> zw
open Bool renaming and_eq_true -> zd
open Option.some renaming injEq -> zf
open List renaming mem_singleton -> zg, mem_cons -> zr, mem_map -> zu
open Array renaming getElem?_eq_some_iff -> zh, getD_eq_getD_getElem? -> zl
open Go.Extern.MathBitsCarry renaming m64 -> zi, pair -> zn
open Go.Result renaming andThen_ok -> zj
open Go.Sem renaming run_bind -> zk
open Go.Instr renaming checkKey -> zm
open Go.Det.Ext renaming refl -> zo
open Go.Fence renaming wide -> zp
open Prod.mk renaming injEq -> zq
open PUnit renaming unit -> zt
namespace Go.Det
mutual
def V.beq:V->V->Bool
 | .bool a,.bool b=>a==b
 | .int k a,.int l b=>k==l&&a==b
 | .str a,.str b=>a==b
 | .nilp,.nilp=>true
 | .ptr a i,.ptr b j=>zc a b&&zc i j
 | .nils,.nils=>true
 | .sl a b c d e,.sl m b' r o q=>zc a m&&zc b b'&&zc c r&&zc d o&&zc e q
 | .esl,.esl=>true
 | .es0,.es0=>true
 | .junk,.junk=>true
 | .nilm,.nilm=>true
 | .map a,.map b=>zc a b
 | .yld a,.yld b=>zc a b
 | .nilf,.nilf=>true
 | .nili,.nili=>true
 | .fn f a b,.fn g c d=>f==g&&V.JF a c&&V.JF b d
 | .iface t x,.iface u y=>zc t u&&V.beq x y
 | .agg a,.agg b=>V.JF a b
 | .tup a,.tup b=>V.JF a b
 |_,_=>false
def V.JF:List V->List V->Bool
 |[],[]=>true
 |a::c,b::d=>V.beq a b&&V.JF c d
 |_,_=>false
end
mutual
theorem V.beq_eq:∀ {a b:V},V.beq a b=true->a=b:=by
 intro a b h;cases a<;>cases b<;>simp only[V.beq]at h<;>first
  |(cases h;done)
  |rfl
  |(simp only[zd,wk,Bm,w5]at h;first|(rfl)|(rfl)|(obtain⟨⟨⟨⟨rfl,rfl⟩,rfl⟩,rfl⟩,rfl⟩:=h;rfl))
  |skip
 case fn.fn f a b g c d=>
  simp only[zd,wk]at h;rw[h.1.1,V.FX h.1.2,V.FX h.2]
 case iface.iface t x u y=>
  simp only[zd,Bm,w5]at h;rw[h.1,V.beq_eq h.2]
 case agg.agg a b=>rw[V.FX h]
 case tup.tup a b=>rw[V.FX h]
theorem V.FX:∀ {a b:List V},V.JF a b=true->a=b
 |[],[],_=>rfl
 |[],_::_,h=>by simp[V.JF]at h
 |_::_,[],h=>by simp[V.JF]at h
 |a::c,b::d,h=>by
  simp only[V.JF,zd]at h;rw[V.beq_eq h.1,V.FX h.2]
end
structure Rc where
 i:Nat
 o:Oper
 f:Fr
 v:V
structure St where
 f:Fr
 h:H
 r:List Rc
def still(C:Ctx)(anc:Nat->Nat->Bool)(i:Nat)(h:H)(r:Rc):Bool:=
 anc i r.i||(match GA C r.f h r.o with
  |some (.val x _)=>V.beq x r.v
  |_=>false)
def HU(C:Ctx)(call:CX)(ops:Array Oper)(anc:Nat->Nat->Bool)(i:Nat)(s:St):Option (V×St):=
 match ops[i]? with
 |none=>none
 |some o=>
  bif A9 s.f ops o then
   bif Eh o then
    match GA C s.f s.h o with
    |some (.val v _)=>match s.f.put o.dst v with
     |some c=>some (v,⟨c,s.h,bif P9 o then⟨i,o,s.f,v⟩::s.r else s.r⟩)
     |none=>none
    |_=>none
   else bif CC o then
    match lV C s.f o with
    |some (ob,f)=>match s.f.put o.dst (f s.h.nx)with
     |some c=>some (f s.h.nx,⟨c,s.h.push ob,s.r⟩)
     |none=>none
    |none=>none
   else
    match DU C call s.f s.h o with
    |some (v,h')=>match s.f.put o.dst v with
     |some c=>bif s.r.all (still C anc i h')then some (v,⟨c,h',s.r⟩)else none
     |none=>none
    |none=>none
  else
   match s.f.put o.dst (.tup [])with
   |some c=>bif CI o then(bif s.r.all (still C anc i s.h)then some (.tup [],⟨c,s.h,s.r⟩)else none)else some (.tup [],⟨c,s.h,s.r⟩)
   |none=>none
def UZ(C:Ctx)(call:CX)(ops:Array Oper)(anc:Nat->Nat->Bool):List Nat->St->Option St
 |[],s=>some s
 |i::c,s=>match HU C call ops anc i s with
  |some (_,d)=>UZ C call ops anc c d
  |none=>none
def Ih(C:Ctx)(call:CX)(ops:Array Oper)(fr:Fr)(h:H):Option (Fr×H):=
 match UZ C call ops (En ops).a (En ops).ord ⟨fr,h,[]⟩with
 |some s=>some (s.f,s.h)
 |none=>none
def UO(C:Ctx)(call:CX)(ops:Array Oper)(fr:Fr)(h:H):Option (Fr×H):=
 bif HT ops (En ops)then Ih C call ops fr h else none
def DA:Code->Bool
 | .region _ ops dr=>bif dr then HT ops (En ops)else true
 | .seq a b=>DA a&&DA b
 | .cond _ a b=>DA a&&DA b
 | .block _ b=>DA b
 | .loop b=>DA b
 | .scope b=>DA b
 |_=>true
section
variable {C:Ctx}{P:Program}{call:CX}{ops:Array Oper}{p:Pl}{h:H}{w:World}{fr:Fr}{a:Act}
theorem KM{f c:Fr}{d:Option Nat}{v:V}(h:f.put d v=some c):c.n=f.n/\(∀t,c.get t=if d=some t then v else f.get t)/\∀t,d=some t->t<f.n:=by
 unfold Fr.put at h;cases d with
 |none=>grind
 |some s=>
  simp only[F4]at h;by_cases e:s<f.n
  ·grind [Fr.get,PM.CD]
  grind
theorem DJ{anc:Nat->Nat->Bool}{i:Nat}{s d:St}{v:V}(c:HU C call ops anc i s=some (v,d)):∃o,ops[i]?=some o/\d.f.n=s.f.n/\(∀t,d.f.get t=if o.dst=some t then v else s.f.get t)/\(∀t,o.dst=some t->t<s.f.n)/\
  ((A9 s.f ops o=false/\v=.tup []/\d.h=s.h)\/
   (A9 s.f ops o=true/\
   ((Eh o=true/\GA C s.f s.h o=some (.val v s.h)/\d.h=s.h)\/
    (CC o=true/\∃ob f,lV C s.f o=some (ob,f)/\v=f s.h.nx/\d.h=s.h.push ob)\/
    (CI o=true/\DU C call s.f s.h o=some (v,d.h)))))/\
  (∀r∈s.r,r∈d.r)/\(Eh o=true->P9 o=true->A9 s.f ops o=true->⟨i,o,s.f,v⟩∈d.r)/\
  (CI o=true->∀r∈s.r,still C anc i d.h r=true):=by
 unfold HU at c;split at c
 case h_1=>cases c
 rename_i o B;refine⟨o,B,?_⟩;cases y:A9 s.f ops o with
 |false=>
  simp only[y,wg]at c;split at c
  case h_2=>cases c
  rename_i x g;obtain⟨q,j,m⟩:=KM g;grind
 |true=>
  simp only[y,we]at c;cases e:Eh o with
  |true=>
   simp only[e,we]at c;split at c
   case h_2=>cases c
   rename_i v1 A u;split at c
   case h_2=>cases c
   rename_i x g;obtain⟨rfl,rfl⟩:=c;obtain⟨q,j,m⟩:=KM g;obtain⟨v2,hv2⟩:=rd_val e u;refine⟨q,j,m,ah,fun r z=>?_,fun _ G _=>?_,(by grind [Sv])⟩
   ·grind
   grind
  |false=>
   simp only[e,wg]at c;cases l:CC o with
   |true=>
    simp only[l,we]at c;split at c
    case h_2=>cases c
    split at c
    case h_2=>cases c
    rename_i x g;obtain⟨rfl,rfl⟩:=c;obtain⟨q,j,m⟩:=KM g;exact⟨q,j,m,ah,fun r z=>z,(by simp),(by grind [Sv])⟩
   |false=>
    simp only[l,wg]at c;split at c
    case h_2=>cases c
    rename_i v1 A D;split at c
    case h_2=>cases c
    rename_i x g;obtain⟨q,j,m⟩:=KM g;cases E:s.r.all (still C anc i A)with
    |false=>grind
    |true=>
     simp only[E,we,zf,zq]at c;obtain⟨rfl,rfl⟩:=c;simp_all [CI]
theorem MZ{anc:Nat->Nat->Bool}:∀(L:List Nat) (s d:St),UZ C call ops anc L s=some d->
  ∃(c:Nat->St) (e:Nat->V),c 0=s/\c L.length=d/\∀(q i:Nat),L[q]?=some i->HU C call ops anc i (c q)=some (e q,c<|q+1)
 |[],s,d,h=>by
  cases h;exact⟨fun _=>s,fun _=>.nilp,rfl,rfl,(by simp)⟩
 |i::L,s,d,h=>by
  unfold UZ at h;split at h
  case h_2=>cases h
  rename_i v s1 m;obtain⟨c,e,h0,l,f⟩:=MZ L s1 d h;refine⟨fun q=>match q with|0=>s|q+1=>c q,fun q=>match q with|0=>v|q+1=>e q,rfl,by omega,fun q j g=>?_⟩;grind
theorem jA{pl:M6}(U:HT ops pl=true){M:St}(hd:UZ C call ops pl.a pl.ord ⟨fr,h,[]⟩=some M):
  ∃(v:Nat->V) (Hh:Nat->H) (F:Nat->Fr),Canon C call ops pl.a (idx pl.ord) (idx pl.pos) fr h v Hh F/\Hh ops.size=M.h/\F ops.size=M.f:=by
 have st:=XR U;have hl:=oV U;obtain⟨u,T,h0,hn,hq⟩:=MZ pl.ord _ _ hd;have DU:∀q,q<ops.size->HU C call ops pl.a (idx pl.ord q) (u q)=some (T q,u<|q+1):=by
  grind [idx]
 have O:∀q,q<=ops.size->(u q).f.n=fr.n:=by
  intro q;induction q with
  |zero=>grind
  |succ q W=>
   intro d;obtain⟨o,_,Z,_⟩:=DJ (DU q ae);omega
 have s:∀q l,q<=l->l<=ops.size->∀r∈(u q).r,r∈(u l).r:=by
  intro q l hle;induction l with
  |zero=>
   grind
  |succ l W=>
   intro d r X;by_cases e:q=l+1
   ·grind
   ·obtain⟨o,_,_,_,_,_,g,_⟩:=DJ (DU l ae);exact g r (W ae ae r X)
 refine⟨fun i=>T<|idx pl.pos i,fun q=>(u q).h,fun q=>(u q).f,⟨by simp[h0],by simp[h0],O,fun q d o z t=>?_,fun i o t z ht=>?_,fun i o z=>?_,fun i j o oj z S R D N hw hlt E=>?_⟩,by grind,by grind⟩
 ·obtain⟨o',m,_,Z,_⟩:=DJ<|DU q d;simp only[(st.ordp q d).2];grind
 ·have c:=(zh.1 z).1;have L:=st.posp i c;obtain⟨o',m,_,_,g2,_⟩:=DJ<|DU _ L.1;grind
 ·have c:=(zh.1 z).1;have L:=st.posp i c;obtain⟨o',m,_,_,_,g3,_⟩:=DJ<|DU _ L.1;simp_all
 ·have c:=(zh.1 z).1;have K:=(zh.1 S).1;have A:=st.posp i c;have B:=st.posp j K;obtain⟨o',m,_,_,_,_,_,Y,_⟩:=DJ<|DU _ B.1;rw[B.2,S]at m;cases m;have I:=s _ (idx pl.pos i) ae ae _<|Y D N hw;obtain⟨o'',m,_,_,_,_,_,_,g5⟩:=DJ<|DU _ A.1;rw[A.2,z]at m;cases m;have G:=g5 R _ I;unfold still at G;rw[B.2]at G;rw[A.2,E]at G;split at G
  case h_2=>cases G
  rename_i x hx J;obtain⟨y,hy⟩:=rd_val D J;grind [V.beq_eq]
theorem Pf(g:HT ops (En ops)=true)(m:C.Ok P)(c:call.Ok C P)(o:P.follows .mixedOrders=true)(j:R p h w)(i:Gl C p)(l:Co p fr a){fr':Fr}{h':H}(f:Ih C call ops fr h=some (fr',h')){id:Nat}{ro:Option Nat}{u:Nat}{Q:Exit->Act->World->Prop}
  (q:∀p' d w',Co p' fr' d->Ext p h w p' h' w'->d.defers=a.defers->Q .normal d w'):(Code.region id ops true).wpIn (FW ro) u P Q a w:=by
 unfold Ih at f;split at f
 case h_2=>cases f
 rename_i s e;obtain⟨v,Hh,F,r,x,y⟩:=jA g e;refine aX m c o (XR g) r j i l fun p' d w' A z t=>q p' d w' ?_ ?_ t
 ·grind
 grind
theorem Zl(l:C.Ok P)(d:call.Ok C P)(m:P.follows .mixedOrders=true)(i:R p h w)(g:Gl C p)(j:Co p fr a){fr':Fr}{h':H}(e:UO C call ops fr h=some (fr',h')){id:Nat}{ro:Option Nat}{f:Nat}{Q:Exit->Act->World->Prop}
  (o:∀p' c w',Co p' fr' c->Ext p h w p' h' w'->c.defers=a.defers->Q .normal c w'):(Code.region id ops true).wpIn (FW ro) f P Q a w:=by
 unfold UO at e;cases q:HT ops (En ops)with
 |false=>grind
 |true=>
  grind [Pf]
end
section
variable {P:Program}{F:Fence}{n:Nat}{b:Frame}{a:Act}{k:List Item}{cs:List Frame}{w:World}{Q:Exit->Act->World->Prop}
theorem DS{c:Code}:step P (lone (b.atR a (.code (.scope c)::k)) cs w)=.next (lone (b.atR a (.code c:: .inScope c::k)) cs w):=
 (by rfl)
theorem P3{c:Code}:step P (lone (b.atR a (.inScope c::k)) cs w)=.next (lone (b.atR a k) cs w):=
 (by rfl)
theorem JA{c:Code}(h:c.wpIn F n P (Exit.noGoto Q) a w):(Code.scope c).wpIn F n P Q a w:=by
 intro b k cs q o j;have h0:(lone (b.atR a (.code (.scope c)::k)) cs w).fenced P F:=fenced_calm o j rfl;obtain⟨e,g,f,i,d⟩:=h b (.inScope c::k) cs q o j;cases e with
 |normal=>exact⟨.normal,g,f,i,.head h0 DS<|StepsIn.trans d<|.one (fenced_calm o j rfl) P3⟩
 |exit id=>
  have t:exitTo id (.inScope c::k)=exitTo id k:=by rfl
  exact⟨.exit id,g,f,i,fun r s=>.head h0 DS (d.1 r ah),
   fun m s=>let ⟨k₁,h1,h2⟩:=d.2 m ah;⟨k₁,h1,.head h0 DS h2⟩⟩
 |goto l=>exact i.elim
 |ret=>exact⟨_,g,f,i,.of_steps (.one h0 DS) d⟩
 |panic u=>exact⟨_,g,f,i,.of_steps (.one h0 DS) d⟩
 |outgrown=>exact⟨_,g,f,i,.of_steps (.one h0 DS) d⟩
end
structure X where
 e:DX
 fr:Fr
 h:H
 ds:List Nat
def Rl(ro:Option Nat)(fr:Fr)(h:H)(ps:Array Tmp)(asg body:Code)(ds:List Nat):Option (Nat×H×List Nat):=
 match ro with
 |none=>some (h.nx+1,(h.push<|.defd true).push<|.loop ⟨.ready,none,fr,ps,asg,body,h.nx⟩,h.nx::ds)
 |some b=>match h.get b with
  |some (.loop l)=>some (h.nx,h.push<|.loop ⟨.ready,none,fr,ps,asg,body,l.db⟩,ds)
  |_=>none
def Bj(C:Ctx)(call:CX)(ro:Option Nat)(ct:Bool):Nat->Code->Fr->H->List Nat->Option (List X)
 |0,_,_,_,_=>none
 |m+1,c,fr,h,ds=>
  match c with
  | .skip| .label _=>some [⟨.normal,fr,h,ds⟩]
  | .region _ ops dr=>bif dr then(match (bif ct then Ih C call ops fr h else UO C call ops fr h)with
    |some (fr',h')=>some [⟨.normal,fr',h',ds⟩]
    |none=>none)
   else(match Sj C call ops ops.toList fr h with
    |some l=>some<|l.map fun x=>⟨.normal,x.1,x.2,ds⟩
    |none=>none)
  | .seq a b=>match Bj C call ro ct m a fr h ds with
   |some l=>bl l fun x=>match x.e with
    | .normal=>Bj C call ro ct m b x.fr x.h x.ds
    |_=>some [x]
   |none=>none
  | .cond x a b=>match ev C fr x with
   |some (.bool true)=>Bj C call ro ct m a fr h ds
   |some (.bool false)=>Bj C call ro ct m b fr h ds
   |_=>none
  | .block id b=>match Bj C call ro ct m b fr h ds with
   |some l=>some<|l.map fun x=>match x.e with
    | .exit i=>bif zc i id then { x with e:=.normal }else x
    |_=>x
   |none=>none
  | .loop b=>match Bj C call ro ct m b fr h ds with
   |some l=>bl l fun x=>match x.e with
    | .normal=>Bj C call ro ct m (.loop b) x.fr x.h x.ds
    |_=>some [x]
   |none=>none
  | .exit i=>some [⟨.exit i,fr,h,ds⟩]
  | .ret=>some [⟨.ret,fr,h,ds⟩]
  | .scope b=>Bj C call ro ct m b fr h ds
  | .rangeFunc g ps asg body=>match Rl ro fr h ps asg body ds,ev C fr g with
   |some (b,j,d),some o=>match HW C j o [.yld b]with
    |some (.enter f args)=>match call (.fn f args) j with
     |some l=>bl l fun x=>match x.2.get b with
      |some (.loop ls)=>match ls.st,ls.pend with
       | .busy,_=>none
       |_,none=>some [⟨.normal,fr,x.2.put b<|.loop { ls with st:=.exhausted },d⟩]
       |_,some c=>Bj C call ro false m c fr (x.2.put b<|.loop { ls with st:=.exhausted }) d
      |_=>none
     |none=>none
    |_=>none
   |_,_=>none
  |_=>none
def Ho(p:Pl):List Nat->List Deferred->Prop
 |[],l=>l=[]
 |b::c,l=>∃r n l',p[b]?=some (r,n)/\l={ target:=.collected r,args:= #[] }::l'/\Ho p c l'
theorem Ho.mono{p:Pl}(q:Pl):∀ {ds:List Nat} {l:List Deferred},Ho p ds l->Ho (p++q) ds l
 |[],_,h=>h
 |_b::_bs,_l,⟨r,n,l',e,c,d⟩=>⟨r,n,l',ah,c,d.mono q⟩
theorem Ho.ext{p p':Pl}{h h':H}{w w':World}(e:Ext p h w p' h' w'){ds:List Nat}{l:List Deferred}(c:Ho p ds l):Ho p' ds l:=by
 obtain⟨q,rfl⟩:=e.pre;exact c.mono q
def N1(p:Pl):Option Nat->Option Nat->Prop
 |none,none=>True
 |some b,some r=>∃n,p[b]?=some (r,n)
 |_,_=>False
theorem N1.ext{p p':Pl}{h h':H}{w w':World}(e:Ext p h w p' h' w'){ro k:Option Nat}(c:N1 p ro k):N1 p' ro k:=by
 obtain⟨q,rfl⟩:=e.pre;cases ro with
 |none=>grind [N1]
 |some b=>
  cases k with
  |none=>exact c
  |some r=>obtain⟨n,d⟩:=c;exact⟨n,ah⟩
theorem Ext.at{p p':Pl}{h h':H}{w w':World}(e:Ext p h w p' h' w'){b:Nat}{x:Nat×Nat}(c:p[b]?=some x):p'[b]?=some x:=by
 obtain⟨q,rfl⟩:=e.pre;grind
section
variable {C:Ctx}{P:Program}{call:CX}{ops:Array Oper}{p:Pl}{h:H}{w:World}{fr:Fr}{a:Act}
theorem Jc(d:R p h w)(u:Co p fr a){ro k:Option Nat}(c:N1 p ro k){ps:Array Tmp}{asg body:Code}{ds i:List Nat}(f:Ho p ds a.defers){b:Nat}{g:H}
  (e:Rl ro fr h ps asg body ds=some (b,g,i)) (fn:FuncId):∃l mark v j n,(Instr.enterLoop fn a.tmps ps asg body k).run P w=.ok (l,mark) v/\Ext p h w j g v/\j[b]?=some (l,n)/\Ho j i (mark++a.defers):=by
 unfold Rl at e;cases ro with
 |none=>
  cases k with
  |some k=>exact c.elim
  |none=>
   obtain⟨rfl,rfl,rfl⟩:=e;have e1:=Ext.push (n:=0) d (o:=.defd true) (x:=.deferred<|some []) (by rfl);have t:(p++[(w.heap.size,0)])[h.nx]?=some (w.heap.size,0):=by rw[<-d.len];simp
   have q:Em (p++[(w.heap.size,0)]) fr a.tmps:=Em.mono _ u;have e2:=Ext.push (n:=0) e1.rel (o:=.loop ⟨.ready,none,fr,ps,asg,body,h.nx⟩) (x:=.loop { state:=.ready,pending:=none,fn,tmps:=a.tmps,params:=ps,assign:=asg,body,defers:=w.heap.size })
    ⟨fn,a.tmps,_,_,q,t,rfl⟩
   refine⟨_,_,_,_,0,run_enterLoop_outer fn a.tmps ps asg body,e1.trans e2,?_,?_⟩
   ·have:h.nx+1=(p++[(w.heap.size,0)]).length:=by simp[d.len]
    grind
   ·exact⟨w.heap.size,0,a.defers,ah,rfl,Ho.mono _<|Ho.mono _ f⟩
 |some z=>
  cases k with
  |none=>exact c.elim
  |some k=>
   simp only at e;split at e
   case h_2=>cases e
   rename_i y s;obtain⟨rfl,rfl,rfl⟩:=e;obtain⟨n0,hn0⟩:=c;obtain⟨r',n',x,g,h2,f0,tmps,r,m,h3,h4,rfl⟩:=d.obj _ _ s;rw[hn0]at g;cases g;have e2:=Ext.push (n:=0) d (o:=.loop ⟨.ready,none,fr,ps,asg,body,y.db⟩) (x:=.loop { state:=.ready,pending:=none,fn,tmps:=a.tmps,params:=ps,assign:=asg,body,defers:=r })
    ⟨fn,a.tmps,_,_,u,h4,rfl⟩
   refine⟨w.heap.size,[],_,_,0,?_,e2,?_,?_⟩
   ·unfold Instr.enterLoop;simp only[zk,run_getLoop h2,run_newObj_alloc,zj,Sem.run_pure,World.alloc]
   ·rw[<-d.len];simp
   ·exact Ho.mono _ f
theorem Result.VJ{α d:Type}{r:Result α}{f:α->World->Result d}{b:d}{w':World}(h:r.andThen f=.ok b w'):∃a c,r=.ok a c/\f a c=.ok b w':=by
 cases r with
 |ok a c=>exact⟨a,c,rfl,h⟩
 |halt x c=>simp_all
theorem Li(hC:C.Ok P)(E:call.Ok C P)(hm:P.follows .mixedOrders=true){ro k:Option Nat}{n:Nat}:∀(m:Nat) (ct:Bool) (c:Code) {fr:Fr} {h:H} {ds:List Nat} {L:List X},(ct=true->DA c=true)->Bj C call ro ct m c fr h ds=some L->
  ∀(p:Pl) (a:Act) (w:World) (Q:Exit->Act->World->Prop),R p h w->Gl C p->Co p fr a->Ho p ds a.defers->N1 p ro k->
   (∀x∈L,∀p' Y w',Co p' x.fr Y->Ext p h w p' x.h w'->Ho p' x.ds Y.defers->Q x.e.RH Y w')->
   c.wpIn (FW k) n P Q a w/\∀b,c=.loop b->Code.roundsIn (FW k) n P b Q m a w
 |0,ct,c,fr,h,ds,L,K,o=>by cases o
 |m+1,ct,c,fr,h,ds,L,K,o=>by
  intro p a w Q O M I B D G;have ih:∀ {ct:Bool} (c:Code) {fr:Fr} {h:H} {ds:List Nat} {L:List X},(ct=true->DA c=true)->Bj C call ro ct m c fr h ds=some L->∀ {p:Pl} {a:Act} {w:World},R p h w->Gl C p->Co p fr a->Ho p ds a.defers->N1 p ro k->
    ∀ {Q:Exit->Act->World->Prop},(∀x∈L,∀p' Y w',Co p' x.fr Y->Ext p h w p' x.h w'->Ho p' x.ds Y.defers->Q x.e.RH Y w')->
   c.wpIn (FW k) n P Q a w/\∀b,c=.loop b->Code.roundsIn (FW k) n P b Q m a w:=fun {ct} c {fr h ds L} K o {p a w} O M I B D {Q} G=>Li hC E hm m ct c K o p a w Q O M I B D G
  cases c with
  |skip=>cases o;exact⟨wpIn_skip<|G _ (zg.2 rfl) p a w I (zo O) B,(by simp)⟩
  |label l=>cases o;exact⟨wpIn_label<|G _ (zg.2 rfl) p a w I (zo O) B,(by simp)⟩
  |region id ops dr=>
   refine⟨?_,(by simp)⟩;simp only[Bj]at o;cases dr with
   |true=>
    simp only[we]at o;split at o
    case h_2=>cases o
    rename_i fr1 h1 hs;cases o;refine(show ∀ {Q':Exit->Act->World->Prop},(∀p' Y w',Co p' fr1 Y->Ext p h w p' h1 w'->Y.defers=a.defers->Q' .normal Y w')->(Code.region id ops true).wpIn (FW k) n P Q' a w from fun {Q'} V=>?_) fun N a1 J A j t=>G _ (zg.2 rfl) N a1 J A j<|t▸B.ext j
    cases ct with
    |false=>grind [Zl]
    |true=>exact Pf (by simpa [DA]using K rfl) hC E hm O M I hs V
   |false=>
    simp only[wg]at o;split at o
    case h_2=>cases o
    rename_i l hs;cases o;exact VM hC E O M I hs fun x hx N a1 J A j t=>G _ (zu.2 ⟨x,hx,rfl⟩) N a1 J A j<|t▸B.ext j
  |seq x y=>
   refine⟨wpIn_seq ?_,(by simp)⟩;simp only[Bj]at o;split at o
   case h_2=>cases o
   rename_i l hs;refine(ih x (by grind [DA]) hs O M I B D fun z hz N a1 J A j t=>?_).1;obtain⟨L1,S,g2⟩:=E8 o z hz;cases q:z.e with
   |normal=>
    simp only[q]at S;exact(ih y (by grind [DA]) S j.rel (M.ext j) A t (D.ext j) fun u hu p2 a2 w2 T he2 U=>G u (g2 u hu) p2 a2 w2 T (j.trans he2) U).1
   |exit i=>
    simp only[q,zf]at S;subst S;have:=G z ah N a1 J A j t;rw[q]at this;exact this
   |ret=>
    simp only[q,zf]at S;subst S;have:=G z ah N a1 J A j t;rw[q]at this;exact this
  |cond x b1 b2=>
   refine⟨?_,(by simp)⟩;simp only[Bj]at o;split at o
   case h_1=>
    rename_i hx;have hv:=A2 M I hx;grind [Ab,wpIn_cond_true,DA]
   case h_2=>
    rename_i hx;have hv:=A2 M I hx;grind [Ab,wpIn_cond_false,DA]
   grind
  |block id b=>
   refine⟨wpIn_block ?_,(by simp)⟩;simp only[Bj]at o;split at o
   case h_2=>cases o
   rename_i l hs;cases o;refine(ih b (fun e=>by have:=K e;simpa [DA]using this) hs O M I B D fun z hz N a1 J A j t=>?_).1;have V:=G _ (zu.2 ⟨z,hz,rfl⟩) N a1 J;cases q:z.e with
   |normal=>
    simp only[q]at V;exact V A j t
   |ret=>
    simp only[q]at V;exact V A j t
   |exit i=>
    simp only[q,Bm]at V;by_cases ei:i=id
    ·simp only[ei,decide_true,we]at V;simp only[DX.RH,Exit.inBlock,ei,wm];exact V A j t
    ·simp only[ei,decide_false,wg,q]at V;simp only[DX.RH,Exit.inBlock,ei,vf];exact V A j t
  |loop b=>
   have key:Code.roundsIn (FW k) n P b Q (m+1) a w:=by
    rw[roundsIn_succ];simp only[Bj]at o;split at o
    case h_2=>cases o
    rename_i l hs;refine(ih b (fun e=>by have:=K e;simpa [DA]using this) hs O M I B D fun z hz N a1 J A j t=>?_).1;obtain⟨L1,S,g2⟩:=E8 o z hz;cases q:z.e with
    |normal=>
     simp only[q]at S;exact(ih (.loop b) K S j.rel (M.ext j) A t (D.ext j) fun u hu p2 a2 w2 T he2 U=>G u (g2 u hu) p2 a2 w2 T (j.trans he2) U).2 b rfl
    |exit i=>
     simp only[q,zf]at S;subst S;have:=G z ah N a1 J A j t;rw[q]at this;exact this
    |ret=>
     simp only[q,zf]at S;subst S;have:=G z ah N a1 J A j t;rw[q]at this;exact this
   grind [wpIn_loop_rounds]
  |exit i=>cases o;exact⟨wpIn_exit<|G _ (zg.2 rfl) p a w I (zo O) B,(by simp)⟩
  |ret=>cases o;exact⟨wpIn_ret<|G _ (zg.2 rfl) p a w I (zo O) B,(by simp)⟩
  |scope b=>
   refine⟨JA ?_,(by simp)⟩;simp only[Bj]at o;refine(ih b (fun e=>by have:=K e;simpa [DA]using this) o O M I B D fun z hz N a1 J A j t=>?_).1;have h1:=G z hz N a1 J A j t;cases q:z.e<;>rw[q]at h1<;>exact h1
  |rangeFunc g ps asg body=>
   refine⟨wpIn_rangeFunc fun fn _=>?_,(by simp)⟩;simp only[Bj]at o;split at o
   case h_2=>cases o
   rename_i b h1 ds1 g' hen hgv;split at o
   case h_2=>cases o
   rename_i f args hdc;split at o
   case h_2=>cases o
   rename_i l hcl;obtain⟨r,mark,J,N,nb,q1,q2,q3,q4⟩:=Jc (P:=P) O I D B hen fn;have hyld:Ar N [.yld b] (#[Value.func (.yield r) #[] #[]]).toList:=by
    simp only[Ba,Jp,ve];simp only[Ab];grind
   obtain⟨args',s1,s2⟩:=Mq hC q2.rel (M.ext q2) (q2.eH<|A2 M I hgv) hyld hdc;rw[zk]at s1;obtain⟨d,w1',s3,s4⟩:=Result.VJ s1;refine⟨r,mark,J,d,w1',f,args',J,q1,?_,fun _ _=>trivial,s4,(by grind [FW,zp]),Vo.2<|(E.fn f args h1 l hcl N J args' q2.rel (M.ext q2) s2).mono ?_⟩
   ·grind [resolve,Act.eval]
   ·rintro e w2 ⟨v,h2,v',p2,hmem,rfl,k1,k2⟩;obtain⟨L1,t1,t2⟩:=E8 o (v,h2) hmem;split at t1
    case h_2=>cases t1
    rename_i ls hls;obtain⟨r',n',x,u1,u2,f0,tmps,rd,md,u3,u4,rfl⟩:=k2.rel.obj _ _ hls;have hpb:=k2.at q3;rw[hpb]at u1;cases u1;have hbusy:ls.st≠ .busy:=by
     grind
    obtain⟨W,hW,hput⟩:∃W,(Instr.endLoop r).run P w2=.ok ls.pend W/\Ext p2 h2 w2 p2 (h2.put b<|.loop { ls with st:=.exhausted }) W:=
     ⟨_,run_endLoop u2 hbusy,Ext.put k2.rel hls hpb (o':=.loop { ls with st:=.exhausted }) (x':=.loop { state:=.exhausted,pending:=ls.pend,fn:=f0,tmps,params:=ls.ps,assign:=ls.asg,body:=ls.body,defers:=rd }) ⟨f0,tmps,rd,md,u3,u4,rfl⟩ rfl rfl rfl rfl⟩
    have Z:=q2.trans<|k2.trans hput;refine⟨ls.pend,W,hW,?_⟩;have T:Co p2 fr { a with defers:=mark++a.defers }:=Co.ext (a:={ a with defers:=mark++a.defers }) I<|q2.trans k2;have U:Ho p2 ds1 (mark++a.defers):=Ho.ext k2 q4;split at t1
    case h_1=>cases t1
    case h_2=>
     rename_i hpe _;cases t1;simp only[hpe];exact G _ (t2 _<|zg.2 rfl) p2 _ _ T Z U
    case h_3=>
     rename_i c hpe _;simp only[hpe];exact(ih c (by simp) t1 hput.rel (M.ext Z) T U (D.ext Z) fun u hu p3 a3 w3 hf3 he3 hd3=>G u (t2 u hu) p3 a3 w3 hf3 (Z.trans he3) hd3).1
  |goto l=>simp[Bj]at o
  |refuse s=>simp[Bj]at o
end
section
variable {C:Ctx}{P:Program}{p:Pl}{h:H}{w:World}{fr:Fr}{a:Act}
def XB(C:Ctx)(fr:Fr)(h:H):ResultVar->Option V
 | .tmp t=>some<|fr.get t
 | .cell a t=>EH C.T h t<|fr.get a
def N6(C:Ctx)(fr:Fr)(h:H):List ResultVar->Option (List V)
 |[]=>some []
 |r::c=>match XB C fr h r,N6 C fr h c with
  |some v,some vs=>some (v::vs)
  |_,_=>none
def Oo(C:Ctx)(fr:Fr)(h:H)(c:List ResultVar):Option V:=
 match N6 C fr h c with
 |some [v]=>some v
 |some vs=>some<|.tup vs
 |none=>none
def pS(a:Act):ResultVar->Sem Value
 | .tmp t=>pure<|a.tmps.getD t undef
 | .cell x t=>do loadVar t (<-asAddr (a.tmps.getD x undef))
theorem Vl(fn:Func)(a:Act):results fn a.tmps=(do let vs<-fn.results.mapM (pS a);pure (if h:vs.size=1 then vs[0]else .tuple vs)):=by
 rfl
theorem bH(j:C.T.Ok P)(l:R p h w)(f:Co p fr a){r:ResultVar}{v:V}(d:XB C fr h r=some v):
  ∃v',(pS a r).run P w=.ok v' w/\Ab p v v':=by
 cases r with
 |tmp t=>cases d;exact⟨_,rfl,f.2 t⟩
 |cell x t=>
  simp only[XB]at d;obtain⟨v',g,m⟩:=Tl (P:=P) j l (f.2 x) d;refine⟨v',?_,m⟩;have o:∃b i,fr.get x=.ptr b i:=by
   unfold EH at d;grind
  obtain⟨b,i,e⟩:=o;have c:=f.2 x;rw[e]at c;obtain⟨r,n,_,c⟩:=c;rw[c]at g;simp only[pS,c];exact g
theorem UC(f:C.T.Ok P)(g:R p h w)(i:Co p fr a):∀ {e:List ResultVar} {vs:List V},N6 C fr h e=some vs->
  ∃c:List Value,(e.mapM<|pS a).run P w=.ok c w/\Ar p vs c
 |[],vs,d=>by cases d;simp
 |r::e,vs,d=>by
  unfold N6 at d;split at d
  case h_2=>cases d
  rename_i v m j l;cases d;obtain⟨v',q,o⟩:=bH (P:=P) f g i j;obtain⟨c,g3,g4⟩:=UC f g i l;simp_all
theorem rS(j:C.T.Ok P)(l:R p h w)(m:Co p fr a){fn:Func}{v:V}(e:Oo C fr h fn.results.toList=some v):∃v',(results fn a.tmps).run P w=.ok v' w/\Ab p v v':=by
 unfold Oo at e;cases i:N6 C fr h fn.results.toList with
 |none=>grind
 |some vs=>
  obtain⟨c,r,g⟩:=UC (P:=P) j l m i;have q:=g.length;have d:(results fn a.tmps).run P w=.ok (if h:c.toArray.size=1 then c.toArray[0]else .tuple c.toArray) w:=by
   grind [Vl,zk,Array.mapM_eq_mapM_toList,Sem.run_map,zj,Sem.run_pure]
  refine⟨_,d,?_⟩;simp only[i]at e;cases vs with
  |nil=>
   grind [Ab]
  |cons x f=>
   cases f with
   |nil=>
    obtain⟨y,rfl,s⟩:=g.one;grind
   |cons o f=>
    cases e;rw[dif_neg ah];simp_all [Ab]
def Us:List V->Nat->PM V->PM V
 |[],_,m=>m
 |v::vs,i,m=>Us vs (i+1)<|m.set i<|some v
def JV(n:Nat)(args:List V):Fr:=⟨args.length+(n-args.length),Us args 0 .leaf⟩
theorem LK:∀(vs:List V) (i:Nat) (m:PM V) (t:Nat),(Us vs i m).get t=if i<=t/\t<i+vs.length then vs[t-i]? else m.get t
 |[],i,m,t=>by simp[Us];omega
 |v::vs,i,m,t=>by
  unfold Us;rw[LK vs (i+1) _ t];by_cases e:t=i
  ·subst e;rw[wc ae,wd<|by simp];simp
  ·by_cases e2:i+1<=t/\t<i+1+vs.length
   ·grind
   ·rw[wc e2,wc ah];simp[e]
theorem kJ{args:List V}{args':Array Value}(e:Ar p args args'.toList)(n:Nat):Co p (JV n args) { tmps:=args'++Array.replicate (n-args'.size) undef,defers:=[] }:=by
 have g:=e.length;simp at g;refine⟨by simp[JV,g],fun t=>?_⟩;unfold JV Fr.get;rw[LK];by_cases f:t<args.length
 ·rw[wd ae];obtain⟨u,l,j⟩:=e.get (i:=t) (d:=args[t]) (by simp[f]);have c:args'[t]?=some u:=ah
  simp only[Nat.sub_zero,List.getElem?_eq_getElem f,Option.getD_some];rw[zl,Array.getElem?_append_left ae,c];exact j
 ·have:(args'++Array.replicate (n-args'.size) undef).getD t undef=undef:=by
   rw[zl,Array.getElem?_append_right ae];grind
  simp_all [Ab,undef]
def FF:List Nat->H->Option H
 |[],h=>some h
 |b::c,h=>match h.get b with
  |some (.defd true)=>FF c<|h.put b<|.defd false
  |_=>none
theorem QK{fn:Func}{tmps:Array Value}{n:Nat}:∀ {ds:List Nat} {l:List Deferred} {p:Pl} {h:H} {w:World} {i:H},Ho p ds l->R p h w->FF ds h=some i->
  ∃d,Ext p h w p i d/\∀f:Ending->World->Prop,(∃v,(results fn tmps).run P d=.ok v d/\f (.returned v) d)->LeavesInM zp n P fn tmps f l .returning w
 |[],l,p,h,w,i,o,g,e=>by
  cases e;cases (show l=[]from o);exact⟨w,zo g,fun f hR=>hR⟩
 |b::t,l,p,h,w,i,o,g,e=>by
  unfold FF at e;split at e
  case h_2=>cases e
  rename_i q;obtain⟨r,m,l',s,rfl,j⟩:=o;obtain⟨r',m',x,k1,k2,k3⟩:=g.obj _ _ q;rw[s]at k1;cases k1;subst k3;have c:=Ext.put g q s (o':=.defd false) (x':=.deferred none) (by rfl) (w':=w.putObj r<|.deferred none) rfl rfl rfl rfl;obtain⟨d,g1,g2⟩:=QK (fn:=fn) (tmps:=tmps) (n:=n) j c.rel e;exact⟨d,c.trans g1,fun f hR=>⟨by simp,.inl ⟨r,_,rfl,run_takeDeferred k2,g2 f hR⟩⟩⟩
def Q9(C:Ctx)(m:Nat)(call:CX)(b:Nat)(ls:LS)(fr:Fr)(h:H):Option (List<|V×H):=
 match Bj C call (some b) false m ls.asg fr h []with
 |some l=>bl l fun x=>match x.e,x.h.get b with
  | .normal,some (.loop l1)=>match l1.st with
   | .ready=>match Bj C call (some b) false m ls.body x.fr (x.h.put b<|.loop { l1 with st:=.busy }) x.ds with
    |some l2=>bl l2 fun y=>match y.h.get b with
     |some (.loop l3)=>match y.e with
      | .normal=>some [(.bool true,y.h.put b<|.loop { l3 with st:=.ready,pend:=none })]
      | .ret=>some [(.bool false,y.h.put b<|.loop { l3 with st:=.done,pend:=some .ret })]
      | .exit i=>some [(.bool false,y.h.put b<|.loop { l3 with st:=.done,pend:=some (.exit i) })]
     |_=>none
    |none=>none
   |_=>none
  |_,_=>none
 |none=>none
mutual
def Ks:V->List Nat
 | .ptr b _| .sl b _ _ _ _| .map b| .yld b=>[b]
 | .fn _ a b=>IA a++IA b
 | .iface _ v=>Ks v
 | .agg l| .tup l=>IA l
 |_=>[]
def IA:List V->List Nat
 |[]=>[]
 |v::vs=>Ks v++IA vs
end
def qO:O->List Nat
 | .cells cs _ _=>IA cs
 | .map es _=>es.flatMap fun e=>Ks e.1++Ks e.2.1
 |_=>[]
def reach(h:H)(n0:Nat):Nat->List Nat->List Nat->List Nat
 |0,_,acc=>acc
 |_+1,[],acc=>acc
 |f+1,b::c,acc=>bif zw b n0||acc.any (zc b)then reach h n0 f c acc
  else match h.get b with
   |some o=>reach h n0 f (qO o++c) (b::acc)
   |none=>reach h n0 f c acc
def NK(OP:List Nat):Nat->Nat->H->H
 |0,_,h=>h
 |f+1,b,h=>NK OP f (b+1)<|bif OP.any (zc b)then h else h.kill b
def vZ:O->Bool
 | .loop l=>match l.st with| .exhausted=>true|_=>false
 |_=>false
def Tp:Option O->Option O
 |some o=>bif vZ o then none else some o
 |none=>none
def SD:PM O->PM O
 | .leaf=>.leaf
 | .node l v r=>.node (SD l) (Tp v)<|SD r
theorem Lm:∀(q:GI) (m:PM O),q.get (SD m)=Tp (q.get m)
 |GI.here,PM.leaf=>rfl
 |GI.l _,PM.leaf=>rfl
 |GI.r _,PM.leaf=>rfl
 |GI.here,PM.node _ _ _=>rfl
 |GI.l q,PM.node l _ _=>Lm q l
 |GI.r q,PM.node _ _ r=>Lm q r
def H.sift(h:H):H:=⟨SD h.m,h.nx⟩
theorem TR{p:Pl}{h:H}{w:World}(d:R p h w):Ext p h w p h.sift w:=by
 have sub:∀b o,h.sift.get b=some o->h.get b=some o:=by
  intro b o c;have:h.sift.get b=Tp (h.get b):=Lm _ _;rw[this]at c;cases f:h.get b with
  |none=>rw[f]at c;cases c
  |some x=>
   grind [Tp]
 refine⟨(by simp),⟨d.len,fun b o c=>d.obj b o<|sub b o c,fun b b' o o' r n n' c j=>d.inj b b' o o' r n n' (sub b o c) ah⟩,Nat.le_refl _,(by simp),fun r q=>?_,rfl,rfl,rfl,fun r i l=>⟨rfl,?_⟩,Nat.le_refl _⟩
 ·grind [Im]
 ·obtain⟨b,n,cs,t,fz,e,g,m⟩:=l;refine .inl ⟨b,n,cs,t,fz,?_,g,m⟩;rw[show h.sift.get b=Tp (h.get b)from Lm _ _,e];rfl
def zS(n0:Nat)(x:V×H):V×H:=(x.1,NK (reach x.2 n0 1000 (Ks x.1) []) (x.2.nx-n0) n0 x.2.sift)
def Z2:List (V×V×Nat)->List (V×V×Nat)->Bool
 |[],[]=>true
 |(a,b,c)::l,(e,b',d)::l'=>V.beq a e&&V.beq b b'&&zc c d&&Z2 l l'
 |_,_=>false
def O4:List Nat->List Nat->Bool
 |[],[]=>true
 |a::l,b::l'=>zc a b&&O4 l l'
 |_,_=>false
def vP:O->O->Bool
 | .cells cs t fz,.cells cs' i fz'=>V.JF cs cs'&&zc t i&&zc fz.1 fz'.1&&zc fz.2 fz'.2
 | .map es c,.map e j=>Z2 es e&&zc c j
 | .siter s n,.siter f n'=>s==f&&zc n n'
 | .miter none a l b,.miter none d l' b'=>zc a d&&O4 l l'&&zc b b'
 | .miter (some m) a l b,.miter (some g) d l' b'=>zc m g&&zc a d&&O4 l l'&&zc b b'
 | .defd a,.defd b=>a==b
 |_,_=>false
def Lp:Option O->Option O->Bool
 |none,none=>true
 |some a,some b=>vP a b
 |_,_=>false
def Ot:PM O->PM O->Bool
 | .leaf,.leaf=>true
 | .node l v r,.node l' v' c=>Lp v v'&&Ot l l'&&Ot r c
 |_,_=>false
def YH(x y:V×H):Bool:=V.beq x.1 y.1&&zc x.2.nx y.2.nx&&Ot x.2.m y.2.m
def dedup:List (V×H)->List (V×H)
 |[]=>[]
 |x::l=>let r:=dedup l;bif r.any (YH x)then r else x::r
def Mu(n0:Nat):List (V×H)->List (V×H)
 |[]=>[]
 |[x]=>[x]
 |l=>dedup<|l.map<|zS n0
theorem Ya:∀ {a b:List (V×V×Nat)},Z2 a b=true->a=b
 |[],[],_=>rfl
 |[],_::_,h=>by simp[Z2]at h
 |_::_,[],h=>by simp[Z2]at h
 |(a,b,c)::l,(d,b',e)::l',h=>by
  simp only[Z2,zd]at h;rw[V.beq_eq h.1.1.1,V.beq_eq h.1.1.2,ze h.1.2,Ya h.2]
theorem Ps:∀ {a b:List Nat},O4 a b=true->a=b
 |[],[],_=>rfl
 |[],_::_,h=>by simp[O4]at h
 |_::_,[],h=>by simp[O4]at h
 |a::l,b::l',h=>by
  simp only[O4,zd]at h;rw[ze h.1,Ps h.2]
theorem S4{a b:O}(h:vP a b=true):a=b:=by
 unfold vP at h;split at h
 ·grind [V.FX,ze]
 ·grind [Ya,ze]
 ·simp_all
 ·grind [ze,Ps]
 ·grind [ze,Ps]
 ·grind
 grind
theorem Pj:∀ {a b:PM O},Ot a b=true->a=b
 | .leaf,.leaf,_=>rfl
 | .leaf,.node _ _ _,h=>by simp[Ot]at h
 | .node _ _ _,.leaf,h=>by simp[Ot]at h
 | .node l v r,.node l' v' c,h=>by
  simp only[Ot,zd]at h;rw[Pj h.1.2,Pj h.2];congr 1;cases v<;>cases v'<;>first|rfl|exact wi some (S4 h.1.1)|(simp[Lp]at h)
theorem eN{x y:V×H}(h:YH x y=true):x=y:=by
 simp only[YH,zd]at h;obtain⟨v,m,n⟩:=x;obtain⟨v',m',n'⟩:=y;grind [V.beq_eq,ze,Pj]
theorem Mm:∀ {l:List (V×H)} {x:V×H},x∈l->x∈dedup l
 |a::l,x,h=>by
  unfold dedup;simp only;cases c:(dedup l).any (YH a)with
  |true=>
   rcases zr.1 h with rfl|h
   ·grind [eN]
   ·exact Mm h
  |false=>
   rcases zr.1 h with rfl|h
   ·simp
   ·exact List.mem_cons_of_mem _<|Mm h
theorem IY(OP:List Nat):∀(f b:Nat) {p:Pl} {h:H} {w:World},R p h w->Ext p h w p (NK OP f b h) w
 |0,_,_,_,_,c=>zo c
 |f+1,b,p,h,w,c=>by
  unfold NK;cases OP.any (zc b)with
  |true=>exact IY OP f (b+1) c
  |false=>exact(Ext.kill c b).trans<|IY OP f (b+1)<|c.kill b
theorem Gz.merge{l:List (V×H)}{n0:Nat}{e:Ending}{w':World}(i:Gz p h w l e w'):Gz p h w (Mu n0 l) e w':=by
 obtain⟨v,h',v',p',d,f,g,c⟩:=i;unfold Mu;split
 ·cases d
 ·exact⟨v,h',v',p',d,f,g,c⟩
 ·exact⟨v,(zS n0 (v,h')).2,v',p',Mm<|zu.2 ⟨_,d,rfl⟩,f,g,c.trans<|(TR c.rel).trans<|IY _ _ _ (TR c.rel).rel⟩
def A5(C:Ctx):Nat->CX
 |0=>fun _ _=>none
 |n+1=>fun c h=>
  match c with
  | .rnd b ls fr=>Q9 C n (A5 C n) b ls fr h
  | .fn f args=>
   match C.spec f with
   |some q=>match q args h with
    |some x=>some [x]
    |none=>none
   |none=>
    match C.fn f with
    |none=>none
    |some i=>
     match Bj C (A5 C n) none i.cert n i.body (JV i.ntmps args) h []with
     |none=>none
     |some l=>match (bl l fun x=>match x.e with
      | .exit _=>none
      |_=>match FF x.ds x.h with
       |some d=>match Oo C x.fr d i.results.toList with
        |some v=>some [(v,d)]
        |none=>none
       |none=>none)with
      |some r=>some<|bif C.mg then Mu h.nx r else r
      |none=>none
theorem MO(d:R p h w){b r n:Nat}{ls:LS}(e:h.get b=some (.loop ls))(f:p[b]?=some (r,n)):
  ∃rec:Loop,w.heap[r]?=some (.loop rec)/\rec.state=ls.st/\rec.pending=ls.pend/\∀(st:LoopState) (c:Option Code),Ext p h w p (h.put b<|.loop { ls with st:=st,pend:=c }) (w.putObj r<|.loop { rec with state:=st,pending:=c }):=by
 obtain⟨j,n',x,u1,u2,f0,tmps,rd,md,g,i,rfl⟩:=d.obj _ _ e;rw[f]at u1;cases u1;exact⟨_,u2,rfl,rfl,fun st c=>Ext.put d e f (o':=.loop { ls with st:=st,pend:=c }) ⟨f0,tmps,rd,md,g,i,rfl⟩ rfl rfl rfl rfl⟩
theorem Mv(K:C.Ok P){call:CX}(c:call.Ok C P)(N:P.follows .mixedOrders=true){b:Nat}{ls:LS}{l:List (V×H)}{k m G:Nat}(r:Q9 C G call b ls fr h=some l){f:FuncId}{tmps:Array Value}
  (S:R p h w) (J:Gl C p) (q:p[b]?=some (k,m)) (X:Em p fr tmps):RoundIn zp 0 P k f tmps ls.asg ls.body w (Gz p h w l):=by
 unfold Q9 at r;split at r
 case h_2=>cases r
 rename_i L T;refine roundIn_of_wpIn trivial ?_;refine(Li (k:=some k) (n:=0) K c N G false ls.asg (by simp) T p { tmps:=tmps,defers:=[] } w _ S J X rfl ⟨m,q⟩ fun x W B a1 M t g z=>?_).1;obtain⟨L1,j,g2⟩:=E8 r x W;split at j
 case h_2=>cases j
 rename_i l1 v u;split at j
 case h_2=>cases j
 rename_i D;split at j
 case h_2=>cases j
 rename_i L2 E;rw[v];obtain⟨rec,q1,Z,q3,q4⟩:=MO g.rel u<|g.at q;refine⟨_,run_beginRound q1<|Z.trans D,?_⟩;have o:Ext B x.h M B (x.h.put b<|.loop { l1 with st:=.busy }) (M.putObj k<|.loop { rec with state:=.busy }):=by
  grind
 have ex:=g.trans o;refine(Li (k:=some k) (n:=0) K c N G false ls.body (by simp) E B a1 _ _ o.rel (J.ext ex) t z ⟨m,g.at q⟩ fun y hy A a2 w2 hf2 d U=>?_).1;obtain⟨L3,O,t2⟩:=E8 j y hy;split at O
 case h_2=>cases O
 rename_i l3 s;obtain⟨I,s1,s2,s3,s4⟩:=MO d.rel s<|d.at (g.at q);cases Y:y.e with
 |normal=>
  exact⟨_,_,run_endRound none s1,.bool true,_,.bool true,A,ah,rfl,by rfl,ex.trans<|d.trans<|s4 .ready none⟩
 |ret=>
  exact⟨_,_,run_endRound (some .ret) s1,.bool false,_,.bool false,A,ah,rfl,by rfl,ex.trans<|d.trans<|s4 .done<|some .ret⟩
 |exit i=>
  exact⟨_,_,(by grind [run_endRound]),.bool false,_,.bool false,A,ah,rfl,by rfl,ex.trans<|d.trans<|s4 .done<|some<|.exit i⟩
def DB(C:Ctx):Prop:=∀f i,C.fn f=some i->i.cert=true->DA i.body=true
theorem ES(s:C.Ok P)(t:DB C)(A:P.follows .mixedOrders=true):∀n,(A5 C n).Ok C P
 |0=>⟨fun f args h l c=>(by cases c),fun b ls fr h l c=>(by cases c)⟩
 |n+1=>by
  refine⟨fun f args h l c p w args' y z J=>?_,fun b ls fr h l c p w k m f tmps y z hb W Z=>Mv s (ES s t A n) A c y z W Z⟩;unfold A5 at c;simp only at c;split at c
  case h_1=>
   rename_i q O;split at c
   case h_2=>cases c
   rename_i x G;cases c;refine(s.spec f q O p h w args args' x.1 x.2 y z J G).mono ?_;rintro e w' ⟨v',p',rfl,g,K⟩;exact⟨x.1,x.2,v',p',(by simp),rfl,g,K⟩
  case h_2=>
   split at c
   case h_1=>cases c
   rename_i i N;split at c
   case h_1=>cases c
   rename_i L R;split at c
   case h_2=>cases c
   rename_i I D;cases c;refine Calls.mono ?_ (fun e w' M=>(show Gz p h w (bif C.mg then Mu h.nx I else I) e w' from by cases C.mg with|true=>exact Gz.merge M|false=>exact M));have c:=D;generalize I=l at c;obtain⟨fn,r,h2,h3,U,S⟩:=s.fn f i N;have h6:=t f i N;refine callsIn_wide.1<|callsIn_of_wp_marks (F:=zp) (n:=0) r h3 trivial ?_;rw[U];refine(Li (k:=none) (n:=0) s (ES s t A n) A n i.cert i.body h6 R p _ w _ y z (kJ J i.ntmps) rfl trivial fun x G p1 a1 w1 B u E=>?_).1;obtain⟨L1,g,K⟩:=E8 c x G;have fin:∀ {r:H} {v:V},FF x.ds x.h=some r->Oo C x.fr r i.results.toList=some v->L1=[(v,r)]->LeavesInM zp 0 P fn a1.tmps (Gz p h w l) a1.defers .returning w1:=by
    intro r v o d X;obtain⟨w2,q1,q2⟩:=QK (P:=P) (fn:=fn) (tmps:=a1.tmps) (n:=0) E u.rel o;obtain⟨v',s1,s2⟩:=rS (P:=P) (fn:=fn) s.T q1.rel (B.ext q1) (by rw[S];exact d);exact q2 _ ⟨v',s1,v,r,v',p1,ah,rfl,s2,u.trans q1⟩
   split at g
   case h_1=>cases g
   case h_2=>
    split at g
    case h_2=>cases g
    rename_i h2 o;split at g
    case h_2=>cases g
    rename_i v d;cases g;cases Y:x.e with
    |normal=>exact fin o d rfl
    |ret=>exact fin o d rfl
    |exit j=>grind
end
def aW(P:Program)(t:TypeId):Option TI:=
 match P.info? t with
 |some i=>match i.zero with
  |some z=>match cv z with
   |some v=>some ⟨i.size,i.bytes,v⟩
   |none=>none
  |none=>none
 |none=>none
theorem eP{P:Program}{t:TypeId}{i:TI}(h:aW P t=some i):∃j v,P.info? t=some j/\j.size=i.size/\j.bytes=i.bytes/\j.zero=some v/\∀p,Ab p i.zv v:=by
 unfold aW at h;split at h
 case h_2=>cases h
 split at h
 case h_2=>cases h
 split at h
 case h_2=>cases h
 cases h;simp_all [Wf]
def rT(P:Program)(t:TypeId):Option FK:=
 match P.underlying t with
 |some (.int k)=>some<|.int k
 |some .string=>some .str
 |some .bool=>some .bool
 |_=>none
def O3(P:Program):List Field->Nat->Option (List FK)
 |[],_=>some []
 | f :: fs, i => if f.name = "_" \/ f.offset ≠ i then none else match rT P f.type, O3 P fs (i + 1) with
  |some k,some ks=>some (k::ks)
  |_,_=>none
def Vc(P:Program)(t:TypeId):Option (List FK):=
 match P.underlying t with
 |some (.struct fs)=>if P.stoodInHeld t=true\/P.eqGuardType P.depth t=true then none else O3 P fs.toList 0
 |_=>none
def VB:TypeDesc->Bool
 | .pointer _=>false
 |_=>true
def gO(P:Program)(t:TypeId)(name:String):Option FuncId:=
 match P.info? t,P.underlying t with
 |some j,some d=>match j.methods.find? (·.name==name)with
  |some m=>match m.path,m.func with
   |⟨[]⟩,some (f,false)=>bif VB d then some f else none
   |_,_=>none
  |none=>none
 |_,_=>none
theorem iL{P:Program}{t:TypeId}{name:String}{f:FuncId}(h:gO P t name=some f):∃j m d,P.info? t=some j/\j.methods.find? (·.name==name)=some m/\m.path= #[]/\m.func=some (f,false)/\P.underlying t=some d/\∀e,d≠ .pointer e:=by
 unfold gO at h;split at h
 case h_2=>cases h
 rename_i j d i c;split at h
 case h_2=>cases h
 split at h
 case h_2=>cases h
 cases g:VB d with
 |false=>grind
 |true=>
  grind [VB]
def tB(P:Program):BX:=⟨P.underlying,aW P,Vc P,gO P⟩
section
variable {P:Program}{p:Pl}
theorem OW{t:TypeId}{k:FK}(h:rT P t=some k):∃d,P.underlying t=some d/\Ea d=false/\(∀e,d≠ .interface e)/\match k with
  | .int k=>d=.int k
  | .str=>d=.string
  | .bool=>d=.bool:=by
 unfold rT at h;split at h
 case h_1=>rename_i c;cases h;exact⟨_,c,rfl,(by simp),rfl⟩
 case h_2=>rename_i c;cases h;exact⟨_,c,rfl,(by simp),rfl⟩
 case h_3=>rename_i c;cases h;exact⟨_,c,rfl,(by simp),rfl⟩
 grind
theorem OZ{t:TypeId}{d:TypeDesc}(f:P.underlying t=some d)(c:Ea d=false){cs:Array Value}{i:Nat}{v:Value}(e:cs[i]?=some v)(w:World):(part t cs i).run P w=.ok v w:=by
 unfold part isAgg;have Oh:(underlying t).run P w=.ok d w:=by simp_all [underlying]
 simp only[zk,Oh,zj];cases d<;>first|(cases c;done)|simp[e]
theorem Xa{t:TypeId}{k:FK}(h:rT P t=some k){a b:V}{f b':Value}(c:k.ok a=true)(e:k.ok b=true)(g:Ab p a f)(i:Ab p b b'){r:Bool}(m:Eb a b=some r)(d:Nat)(w:World):
  (Op.equalIn (d+1) t f b').run P w=.ok r w:=by
 obtain⟨D,j,_,_,l⟩:=OW h;cases k with
 |int k=>
  cases a<;>simp only[FK.ok]at c<;>try (cases c;done)
  cases b<;>simp only[FK.ok]at e<;>try (cases e;done)
  grind [Ab,Eb,run_equalIn_int]
 |str=>
  cases a<;>simp only[FK.ok]at c<;>try (cases c;done)
  cases b<;>simp only[FK.ok]at e<;>try (cases e;done)
  grind [Ab,Eb,run_equalIn_string,Is]
 |bool=>
  cases a<;>simp only[FK.ok]at c<;>try (cases c;done)
  cases b<;>simp only[FK.ok]at e<;>try (cases e;done)
  grind [Ab,Eb,run_equalIn_bool']
theorem SL:∀ {ks:List FK} {x:List V},fit ks x=true->ks.length=x.length
 |[],[],_=>rfl
 |[],_::_,h=>by simp[fit]at h
 |_::_,[],h=>by simp[fit]at h
 |k::ks,v::vs,h=>by
  unfold fit at h;cases c:k.ok v with
  |false=>grind
  |true=>simp only[c,we]at h;simp[SL h]
theorem Ku(d:Nat){w:World}{x' y':Array Value}:∀ {fs:List Field} {i:Nat} {ks:List FK},O3 P fs i=some ks->∀ {x y:List V} {u v:List Value},fit ks x=true->fit ks y=true->Ar p x u->Ar p y v->
  (∀j a,u[j]?=some a->x'[i+j]?=some a)->(∀j a,v[j]?=some a->y'[i+j]?=some a)->∀ {r:Bool},BM x y=some r->(Op.eqFields (d+1) x' y' fs).run P w=.ok r w
 |[],i,ks,e,x,y,u,v,E,z,_,_,_,_,r,s=>by
  cases e;cases x with
  |cons _ _=>simp[fit]at E
  |nil=>cases y with
   |cons _ _=>simp[fit]at z
   |nil=>simp_all [BM,Op.eqFields]
 |f::fs,i,ks,e,x,y,u,v,E,z,O,R,G,L,r,s=>by
  unfold O3 at e;split at e
  case isTrue=>cases e
  have o : f.name ≠ "_" := ah;have m:f.offset=i:=ae;split at e
  case h_2=>cases e
  rename_i k q B S;cases e;cases x with
  |nil=>simp[fit]at E
  |cons a x=>cases y with
   |nil=>simp[fit]at z
   |cons b y=>
    obtain⟨T,U,rfl,l,A⟩:=O;obtain⟨b',v',rfl,hv1,hv2⟩:=R;have J:k.ok a=true:=by grind [fit]
    have K:k.ok b=true:=by grind [fit]
    have fx:fit q x=true:=by grind [fit]
    have N:fit q y=true:=by grind [fit]
    obtain⟨D,Oh,g,_,_⟩:=OW B;have I:=OZ Oh g (G 0 T rfl) w;have pb:=OZ Oh g (L 0 b' rfl) w;simp only[Nat.add_zero]at I pb;simp only[Op.eqFields,o,vc,not_false_eq_true,wm,zk,m,I,pb,zj];unfold BM at s;split at s
    case h_1=>
     rename_i t;rw[Xa B J K l hv1 t];exact Ku d S fx N A hv2 (fun j c M=>by have:=G (j+1) c ah;grind) (fun j c M=>by have:=L (j+1) c ah;grind) s
    case h_2=>
     rename_i t;rw[Xa B J K l hv1 t];simp_all
    grind
theorem JR{b:Bool}{w:World}{x':Array Value}:∀ {fs:List Field} {i:Nat} {ks:List FK},O3 P fs i=some ks->∀ {x:List V} {u:List Value},fit ks x=true->Ar p x u->
  (∀j a,u[j]?=some a->x'[i+j]?=some a)->
  (forIn (m := Sem) fs PUnit.unit fun f _ => if f.name ≠ "_" then do
    zm b 9999 f.type (<-part f.type x' f.offset)
    pure (ForInStep.yield zt)
   else do
    pure zt
    pure (ForInStep.yield zt)).run P w=.ok zt w
 |[],i,ks,d,x,u,r,_,_=>by simp
 |f::fs,i,ks,d,x,u,r,A,q=>by
  unfold O3 at d;split at d
  case isTrue=>cases d
  split at d
  case h_2=>cases d
  rename_i k o z B;cases d;cases x with
  |nil=>simp[fit]at r
  |cons a x=>
   obtain⟨s,I,rfl,v,l⟩:=A;have fx:fit o x=true:=by grind [fit]
   obtain⟨D,Oh,g,t,_⟩:=OW z;have G:=OZ Oh g (q 0 s rfl) w;have y:(zm b 9999 f.type s).run P w=.ok () w:=by
    unfold zm;have e:(underlying f.type).run P w=.ok D w:=by simp_all [underlying]
    simp only[zk,e,zj];cases D<;>first|rfl|grind|grind
   have J:=JR (b:=b) (w:=w) (x':=x') B fx l (fun j c E=>by have:=q (j+1) c ah;grind);simp_all
theorem vW(P:Program):(tB P).Ok P:=by
 have key:∀t ks,Vc P t=some ks->∃fs,P.underlying t=some (.struct fs)/\P.stoodInHeld t=false/\P.eqGuardType P.depth t=false/\O3 P fs.toList 0=some ks:=by
  grind [Vc]
 refine⟨fun t d h=>h,fun t i h=>eP h,?_,?_,?_,?_,fun t name f h=>iL h⟩
 ·intro t ks h p x y x' y' r w fx s l q o;obtain⟨fs,c,m,e,j⟩:=key t ks h;grind [Program.fieldsOf,Op.equal,Op.maxDepth,run_equalIn_struct,Ku]
 ·intro t ks h;obtain⟨fs,c,m,e,j⟩:=key t ks h;exact e
 ·intro t ks h p x x' b w fx l;obtain⟨fs,c,m,e,j⟩:=key t ks h;unfold zm;have g:(underlying t).run P w=.ok (.struct fs) w:=by simp_all [underlying]
  have:=JR (b:=b) (w:=w) (x':=x') j fx l (by simp);simp_all
 ·intro t ks h;obtain⟨fs,c,_⟩:=key t ks h;exact⟨fs,c⟩
end
def P2(P:Program)(ct:FuncId->Bool)(f:FuncId):Option Fn:=
 match P.funcs[f]? with
 |some fn=>match fn.body with
  | some b => if fn.name = "runtime.NumGoroutine" then none else some ⟨fn.ntmps, fn.results, b, ct f⟩
  |none=>none
 |none=>none
theorem oN {P : Program} {ct : FuncId -> Bool} {f : FuncId} {i : Fn} (h : P2 P ct f = some i) : ∃ fn, P.funcs[f]? = some fn /\ fn.name ≠ "runtime.NumGoroutine" /\ fn.body = some i.body /\ fn.ntmps = i.ntmps /\ fn.results = i.results := by
 unfold P2 at h;grind
inductive PK where
 |indexByte
 |add64
 |sub64
 |count
 |noEsc
def PN:Array Value->Sem Value:=fun args=>do
 let (x, y, b) <- Extern.MathBitsCarry.three "Sub64" args
 pure (zn ((x+zi-y-b) % zi) (if x<y+b then 1 else 0))
def PK.entry:PK->Array Value->Sem Value
 | .indexByte=>Extern.BytealgIndexByte.indexByte
 | .add64=>add64Entry
 | .sub64=>PN
 | .count=>Extern.BytealgCount.count
 | .noEsc=>Extern.AbiNoEscape.same
def TP:Option Nat->V
 |some i=>i64 i
 |none=>.int .i64<| -1
def kS:Nat:=18446744073709551616
def PK.run:PK->List V->H->Option (V×H)
 | .indexByte,[.str s,.int .u8 c],h=>some (TP<|s.findIdx? fun x=>x==c.toNat.toUInt8,h)
 | .add64,[.int .u64<|.ofNat x,.int .u64<|.ofNat y,.int .u64<|.ofNat c],h=>
  bif Nat.ble c 1 then some (.tup [.int .u64<|.ofNat<|(x+y+c) % kS,.int .u64<|.ofNat<|(x+y+c)/kS],h)else none
 | .sub64,[.int .u64<|.ofNat x,.int .u64<|.ofNat y,.int .u64<|.ofNat c],h=>
  bif Nat.ble c 1 then some (.tup [.int .u64<|.ofNat<|(x+kS-y-c) % kS,.int .u64<|.ofNat<|bif zw x (y+c)then 1 else 0],h)else none
 | .count,[.str s,.int .u8 c],h=>some (.int .i64 (s.foldl (fun n x=>bif x==c.toNat.toUInt8 then Nat.add n 1 else n) 0:Nat),h)
 | .noEsc,[.ptr b o],h=>some (.ptr b o,h)
 |_,_,_=>none
theorem Qb(s:Rd)(c:UInt8):((List.range (bytesOf s).size).find? fun i=>(bytesOf s)[i]! ==c)=s.findIdx? fun x=>x==c:=by
 have key:∀(l pre:Rd),pre++l=s->((List.range' pre.length l.length).find? fun i=>(bytesOf s)[i]! ==c)=(l.findIdx? fun x=>x==c).map (· +pre.length):=by
  intro l;induction l with
  |nil=>simp
  |cons a l f=>
   intro pre g;have d:(bytesOf s)[pre.length]! =a:=by
    grind [BP,bytesOf,ByteArray.getElem_eq_getElem_data]
   rw[List.length_cons,List.range'_succ,List.find?_cons,d,List.findIdx?_cons];cases e:a==c with
   |true=>simp
   |false=>
    have:=f (pre++[a]) ah;simp only[List.length_append,List.length_singleton]at this;simp only[this,Bool.false_eq_true,vf,Option.map_map];congr 1;grind
 have:=key s [] rfl;simp_all [List.range_eq_range',BP]
theorem Ar.three{p:Pl}{a b c:V}{l:List Value}(h:Ar p [a,b,c] l):∃x y z,l=[x,y,z]/\Ab p a x/\Ab p b y/\Ab p c z:=by
 simp only[Ar]at h;grind
theorem PK.sim{P:Program}{k:PK}{p:Pl}{h:H}{w:World}{args:List V}{args':Array Value}{v:V}{h':H}(g:Ar p args args'.toList)(d:k.run args h=some (v,h')):
  h'=h/\∃v',(k.entry args').run P w=.ok v' w/\Ab p v v':=by
 unfold PK.run at d;split at d
 case h_6=>cases d
 case h_5=>
  cases d;obtain⟨x,i,e⟩:=g.one;have:args'= #[x]:=ah;subst this;exact⟨rfl,x,(by rfl),e⟩
 case h_1=>
  rename_i s c;cases d;obtain⟨x,y,i,e,f⟩:=g.two;have:args'= #[x,y]:=ah;subst this;subst e f;refine⟨rfl,_,run_indexByte_string (bytesOf s) c w,?_⟩;unfold firstIdx;rw[Qb];grind [TP,i64,Ab]
 case h_2=>
  rename_i x y c;rw[show Nat.ble c 1=decide (c<=1)from by rw[Bool.eq_iff_iff];simp]at d;by_cases j:c<=1
  ·simp only[j,decide_true,we,zf,zq]at d;obtain⟨rfl,rfl⟩:=d;obtain⟨x',y',z',i,e,f,h3⟩:=g.three;have:args'= #[x',y',z']:=ah;subst this;subst e f h3;refine⟨rfl,_,run_add64 x y c ae ae ae ae w,?_⟩;simp_all [Ab,kS]
  grind
 case h_3=>
  rename_i x y c;rw[show Nat.ble c 1=decide (c<=1)from by rw[Bool.eq_iff_iff];simp]at d;by_cases j:c<=1
  ·simp only[j,decide_true,we,zf,zq]at d;obtain⟨rfl,rfl⟩:=d;obtain⟨x',y',z',i,e,f,h3⟩:=g.three;have:args'= #[x',y',z']:=ah;subst this;subst e f h3;have key:(PN #[.int .u64 x,.int .u64 y,.int .u64 c]).run P w=
     .ok (zn ((x+zi-y-c) % zi)<|if x<y+c then 1 else 0) w:=by
    have:c=0\/c=1:=ae
    rcases this with rfl|rfl<;>rfl
   refine⟨rfl,_,key,?_⟩;refine⟨_,rfl,?_⟩;simp only[Ba,Jp,ve,Ab];refine⟨rfl,?_⟩;grind [F4]
  grind
 case h_4=>
  rename_i s c;cases d;obtain⟨x,y,i,e,f⟩:=g.two;have:args'= #[x,y]:=ah;subst this;subst e f;refine⟨rfl,_,Lib.run_countString (bytesOf s) c w,?_⟩;have key:∀(l:Rd) (n:Nat),l.foldl (fun n x=>bif x==c.toNat.toUInt8 then Nat.add n 1 else n) n=n+Lib.countByte l c.toNat.toUInt8:=by
   intro l;induction l with
   |nil=>grind [Lib.countByte]
   |cons x l m=>
    intro n;rw[List.foldl_cons,m];unfold Lib.countByte;grind
  simp_all [Ab,bytesOf]
def SX(L:List (FuncId×PK))(f:FuncId):Option (List V->H->Option (V×H)):=
 match L with
 |[]=>none
 |(g,k)::L=>bif zc g f then some k.run else SX L f
structure J5(P:Program)(x:FuncId×PK):Prop where
 ok : ∃ fn, P.funcs[x.1]? = some fn /\ (fn.name == "runtime.NumGoroutine") = false /\ fn.body.isNone = true /\ Extern.findNext fn = none /\ Extern.find fn = some x.2.entry
theorem Yi{P:Program}:∀ {L:List (FuncId×PK)},(∀x∈L,J5 P x)->∀f q,SX L f=some q->∀(p:Pl) (h:H) (w:World) (args:List V) (args':Array Value) v h',R p h w->Ar p args args'.toList->q args h=some (v,h')->
  ∃v' p' w',(callFunc f args').run P w=.ok (.value v') w'/\Ab p' v v'/\Ext p h w p' h' w'
 |[],_,f,q,c,_,_,_,_,_,_,_,_,_,_=>by cases c
 |(g,k)::L,l,f,q,c,p,h,w,args,args',v,h',d,i,j=>by
  unfold SX at c;rw[Bm]at c;by_cases e:g=f
  ·subst e;simp only[decide_true,we,zf]at c;subst c;obtain⟨fn,r,s,t,o,m⟩:=(l (g,k)<|by simp).ok;obtain⟨rfl,v',g1,g2⟩:=PK.sim (P:=P) (w:=w) i j;refine⟨v',p,w,?_,g2,zo d⟩;simp_all [run_callFunc_extern]
  ·simp only[e,decide_false,wg]at c;exact Yi ah f q c p h w args args' v h' d i j
def AaK:Option (List<|V×H)->Option V
 |some [(v,_)]=>some v
 |_=>none
def Xn(C:Ctx)(n:Nat)(f:FuncId)(args:List V)(v:V):Bool:=match AaK (A5 C n (.fn f args) hG)with
 |some x=>V.beq x v
 |none=>false
theorem Vs{C C':Ctx}{P:Program}(J:C.Ok P)(A:DB C)(K:P.follows .mixedOrders=true){n:Nat}{f:FuncId}{args:List V}{v:V}
  (j:Xn C n f args v=true) (I:V.Fa args=true) (t:v.flat=true) {p:Pl} {h:H} {w:World} {args':Array Value} (d:R p h w) (s:Gl C' p) (E:Gh h) (c:Ar p args args'.toList):
  Calls P f args' w fun e w'=>∃v' p',e=.returned v'/\Ab p' v v'/\Ext p h w p' h w':=by
 unfold Xn at j;split at j
 case h_2=>cases j
 rename_i x q;have z:x=v:=V.beq_eq j;subst z;unfold AaK at q;split at q
 case h_2=>cases q
 rename_i l N B;cases q;refine((ES J A K n).fn f args hG _ B _ w args' (yU d s E) s.take<|V.GS I c).mono ?_;rintro e w' ⟨u,h',v',p',i,rfl,G,g⟩;cases zg.1 i;have L:∀r,r<w.heap.size->w'.heap[r]?=w.heap[r]?:=fun r d=>g.Dr s.take r d
 refine⟨v',p,rfl,V.CF t G,⟨(by simp),⟨d.len,fun b o D=>?_,d.inj⟩,g.size,ah,ah,g.os,g.out,g.tape,ah,g.dr⟩⟩;obtain⟨r,m,y,O,S,M⟩:=d.obj b o D;grind
def Up(h:H):List (Nat×O)->Bool
 |[]=>true
 |(i,o)::l=>Lp (h.get i) (some o)&&Up h l
theorem HK{h:H}:∀ {l:List (Nat×O)},Up h l=true->∀x∈l,h.get x.1=some x.2
 |[],_,x,c=>by cases c
 |(i,o)::l,d,x,c=>by
  simp only[Up,zd]at d;rcases zr.1 c with rfl|c
  ·cases e:h.get i with
   |none=>grind [Lp]
   |some q=>grind [S4,Lp]
  ·exact HK d.2 x c
def goS:List (Nat×O)->Bool
 |[]=>true
 |(_,o)::l=>Lp (some o) (some o)&&goS l
theorem ZZ:goS Dr=true:=by rfl
theorem wJ{h:H}(c:Gh h):Up h Dr=true:=by
 have key:∀l:List (Nat×O),(∀x∈l,h.get x.1=some x.2)->goS l=true->Up h l=true:=by
  intro l;induction l with
  |nil=>exact fun _ _=>rfl
  |cons x l d=>
   intro f e;simp_all [goS,Up]
 exact key Dr c ZZ
abbrev CJ:=List<|FuncId×List V×V
def IU:CJ->FuncId->List V->Option V
 |[],_,_=>none
 |(g,a,v)::l,f,args=>bif zc g f&&V.JF a args then some v else IU l f args
def RR:CJ->FuncId->Bool
 |[],_=>false
 |(g,_,_)::l,f=>bif zc g f then true else RR l f
def Hs(L:CJ)(f:FuncId):Option (List V->H->Option (V×H)):=
 bif RR L f then some (fun args h=>bif Up h Dr then(match IU L f args with|some v=>some (v,h)|none=>none)else none)else none
def AZ(C:Ctx)(n:Nat):CJ->Bool
 |[]=>true
 |(f,a,v)::l=>Xn C n f a v&&V.Fa a&&v.flat&&AZ C n l
theorem ZI{L:CJ}{f:FuncId}{args:List V}{v:V}(h:IU L f args=some v){C:Ctx}{n:Nat}(c:AZ C n L=true):Xn C n f args v=true/\V.Fa args=true/\v.flat=true:=by
 induction L with
 |nil=>cases h
 |cons x l e=>
  obtain⟨g,a,u⟩:=x;simp only[AZ,zd]at c;unfold IU at h;cases d:(zc g f&&V.JF a args)with
  |false=>grind
  |true=>
   grind [ze,V.FX]
theorem oI{C C':Ctx}{P:Program}(y:C.Ok P)(j:DB C)(z:P.follows .mixedOrders=true){n:Nat}{L:CJ}(t:AZ C n L=true):
  ∀f q,Hs L f=some q->∀(p:Pl) (h:H) (w:World) (args:List V) (args':Array Value) v h',R p h w->Gl C' p->Ar p args args'.toList->q args h=some (v,h')->
  Calls P f args' w fun e w'=>∃v' p',e=.returned v'/\Ab p' v v'/\Ext p h w p' h' w':=by
 intro f q i p h w args args' v h' l x d c;unfold Hs at i;cases m:RR L f with
 |false=>grind
 |true=>
  rw[m]at i;cases i;simp only at c;cases g:Up h Dr with
  |false=>grind
  |true=>
  rw[g]at c;split at c
  case h_2=>cases c
  rename_i u s;cases c;obtain⟨r,A,o⟩:=ZI s t;exact Vs (C':=C') y j z r A o l x (HK g) d
section
def OX(P:Program):Nat->Nat->Bool
 |0,_=>true
 |n+1,a=>(match P2 P (fun _=>true) a with|some i=>DA i.body|none=>true)&&OX P n (a+1)
variable {P:Program}
theorem Q3{ct:FuncId->Bool}{f:FuncId}{i:Fn}(c:P2 P ct f=some i):P2 P (fun _=>true) f=some { i with cert:=true }/\i.cert=ct f:=by
 unfold P2 at c ⊢;cases d:P.funcs[f]? with
 |none=>grind
 |some fn=>
  grind
theorem H9{f:Nat}{i:Fn}{ct:FuncId->Bool}(c:P2 P ct f=some i):∀ {n a:Nat},OX P n a=true->a<=f->f<a+n->DA i.body=true
 |0,a,_,g,d=>by omega
 |n+1,a,h,g,d=>by
  simp only[OX,zd]at h;by_cases e:a=f
  ·subst e;rw[(Q3 c).1]at h;exact h.1
  ·exact H9 c h.2 ae ae
def mkC(P:Program)(N:Nat)(L:List (FuncId×PK)):Ctx:=⟨tB P,0,P2 P<|fun f=>zw f N,SX L,fun _=>none,true⟩
theorem ZA{N:Nat}{L:List (FuncId×PK)}(h:∀f i,f<N->P2 P (fun f=>zw f N) f=some i->DA i.body=true):DB (mkC P N L):=by
 intro f i c d;have c:P2 P (fun f=>zw f N) f=some i:=c;rw[(Q3 c).2]at d;exact h f i (Nat.le_of_ble_eq_true d) c
theorem xJ{N:Nat}{L:List (FuncId×PK)}(g:∀x∈L,J5 P x):(mkC P N L).Ok P where
 T:=vW P
 fn:=fun _ _ h=>oN (P:=P) (ct:=fun f=>zw f N) h
 prim:=fun f q c p h w args args' v h' e _ d i=>Yi g f q c p h w args args' v h' e d i
 spec:=fun f q c=>by cases c
end
end Go.Det
