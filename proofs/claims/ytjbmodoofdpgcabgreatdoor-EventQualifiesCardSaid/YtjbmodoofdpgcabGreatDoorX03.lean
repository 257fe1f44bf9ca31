import Derived.Test.YtjbmodoofdpgcabGreatDoorX02
import Derived.Laws.StructEq
import Derived.Lib.Bytealg
import Derived.Laws.Externs
/- A part of a proof; no law is stated here. -/
noncomputable section
open Nat renaming beq -> Za, eq_of_beq_eq_true -> Zc, add -> Zg, blt -> Zl, ble -> Zn, mul -> Zz
open Bool renaming and_eq_true -> Zb
open Option.some renaming injEq -> Zd
open List renaming mem_singleton -> Ze, replicate -> Zu, mem_cons -> Zw, mem_map -> Zy
open Int renaming toNat -> Zf
open Array renaming getElem?_eq_some_iff -> Zh, getD_eq_getD_getElem? -> Zo
open Go.Extern.MathBitsCarry renaming m64 -> Zi, pair -> Zq
open BitVec renaming ofInt -> Zj
open Go.Result renaming andThen_ok -> Zk
open Go.Sem renaming run_bind -> Zm
open Go.Instr renaming checkKey -> Zp
open Go.Det.Ext renaming refl -> Zr
open Go.Fence renaming wide -> Zs
open Go.Op renaming bytesLess -> Zt
open Prod.mk renaming injEq -> Zv
open PUnit renaming unit -> Zx
namespace Go.Det
mutual
def V.beq:V->V->Bool
 | .bool a,.bool b=>a==b
 | .int k a,.int l b=>k==l&&a==b
 | .str a,.str b=>a==b
 | .nilp,.nilp=>true
 | .ptr a i,.ptr b j=>Za a b&&Za i j
 | .nils,.nils=>true
 | .sl a b c d e,.sl r b' m o q=>Za a r&&Za b b'&&Za c m&&Za d o&&Za e q
 | .esl,.esl=>true
 | .es0,.es0=>true
 | .junk,.junk=>true
 | .nilm,.nilm=>true
 | .map a,.map b=>Za a b
 | .yld a,.yld b=>Za a b
 | .nilf,.nilf=>true
 | .nili,.nili=>true
 | .fn f a b,.fn g c d=>f==g&&V.E7 a c&&V.E7 b d
 | .iface t x,.iface u y=>Za t u&&V.beq x y
 | .agg a,.agg b=>V.E7 a b
 | .tup a,.tup b=>V.E7 a b
 |_,_=>false
def V.E7:List V->List V->Bool
 |[],[]=>true
 |a::c,b::d=>V.beq a b&&V.E7 c d
 |_,_=>false
end
mutual
theorem V.beq_eq:∀ {a b:V},V.beq a b=true->a=b:=by
 intro a b h;cases a<;>cases b<;>simp only[V.beq]at h<;>first
  |(cases h;done)
  |rfl
  |(simp only[Zb,beq_iff_eq,Al,w5]at h;first|(rfl)|(rfl)|(obtain⟨⟨⟨⟨rfl,rfl⟩,rfl⟩,rfl⟩,rfl⟩:=h;rfl))
  |skip
 case fn.fn f a b g c d=>
  simp only[Zb,beq_iff_eq]at h;rw[h.1.1,V.Df h.1.2,V.Df h.2]
 case iface.iface t x u y=>
  simp only[Zb,Al,w5]at h;rw[h.1,V.beq_eq h.2]
 case agg.agg a b=>rw[V.Df h]
 case tup.tup a b=>rw[V.Df h]
theorem V.Df:∀ {a b:List V},V.E7 a b=true->a=b
 |[],[],_=>rfl
 |[],_::_,h=>by simp[V.E7]at h
 |_::_,[],h=>by simp[V.E7]at h
 |a::c,b::d,h=>by
  simp only[V.E7,Zb]at h;rw[V.beq_eq h.1,V.Df h.2]
end
structure Rc where
 i:Nat
 o:Oper
 f:Fr
 v:V
structure St where
 f:Fr
 h:H
 r:List Rc
def still(C:Ctx)(anc:Nat->Nat->Bool)(i:Nat)(h:H)(r:Rc):Bool:=
 anc i r.i||(match CM C r.f h r.o with
  |some (.val x _)=>V.beq x r.v
  |_=>false)
def Dl(C:Ctx)(call:Bi)(ops:Array Oper)(anc:Nat->Nat->Bool)(i:Nat)(s:St):Option (V×St):=
 match ops[i]? with
 |none=>none
 |some o=>
  bif Ai s.f ops o then
   bif BO o then
    match CM C s.f s.h o with
    |some (.val v _)=>match s.f.put o.dst v with
     |some c=>some (v,⟨c,s.h,bif H9 o then⟨i,o,s.f,v⟩::s.r else s.r⟩)
     |none=>none
    |_=>none
   else bif AZ o then
    match Qu C s.f o with
    |some (ob,f)=>match s.f.put o.dst (f s.h.nx)with
     |some c=>some (f s.h.nx,⟨c,s.h.push ob,s.r⟩)
     |none=>none
    |none=>none
   else
    match B2 C call s.f s.h o with
    |some (v,h')=>match s.f.put o.dst v with
     |some c=>bif s.r.all (still C anc i h')then some (v,⟨c,h',s.r⟩)else none
     |none=>none
    |none=>none
  else
   match s.f.put o.dst (.tup [])with
   |some c=>bif A1 o then(bif s.r.all (still C anc i s.h)then some (.tup [],⟨c,s.h,s.r⟩)else none)else some (.tup [],⟨c,s.h,s.r⟩)
   |none=>none
def Kw(C:Ctx)(call:Bi)(ops:Array Oper)(anc:Nat->Nat->Bool):List Nat->St->Option St
 |[],s=>some s
 |i::d,s=>match Dl C call ops anc i s with
  |some (_,c)=>Kw C call ops anc d c
  |none=>none
def DP(C:Ctx)(call:Bi)(ops:Array Oper)(fr:Fr)(h:H):Option (Fr×H):=
 match Kw C call ops (BS ops).a (BS ops).ord ⟨fr,h,[]⟩with
 |some s=>some (s.f,s.h)
 |none=>none
def KN(C:Ctx)(call:Bi)(ops:Array Oper)(fr:Fr)(h:H):Option (Fr×H):=
 bif Di ops (BS ops)then DP C call ops fr h else none
def Bm:Code->Bool
 | .region _ ops dr=>bif dr then Di ops (BS ops)else true
 | .seq a b=>Bm a&&Bm b
 | .cond _ a b=>Bm a&&Bm b
 | .block _ b=>Bm b
 | .loop b=>Bm b
 | .scope b=>Bm b
 |_=>true
section
variable {C:Ctx}{P:Program}{call:Bi}{ops:Array Oper}{p:Pl}{h:H}{w:World}{fr:Fr}{a:Act}
theorem E1{f c:Fr}{d:Option Nat}{v:V}(h:f.put d v=some c):c.n=f.n/\(∀t,c.get t=if d=some t then v else f.get t)/\∀t,d=some t->t<f.n:=by
 unfold Fr.put at h;cases d with
 |none=>grind
 |some s=>
  simp only[Dn]at h;by_cases e:s<f.n
  ·grind [Fr.get,PM.Bd]
  grind
theorem Bt{anc:Nat->Nat->Bool}{i:Nat}{s d:St}{v:V}(c:Dl C call ops anc i s=some (v,d)):∃o,ops[i]?=some o/\d.f.n=s.f.n/\(∀t,d.f.get t=if o.dst=some t then v else s.f.get t)/\(∀t,o.dst=some t->t<s.f.n)/\
  ((Ai s.f ops o=false/\v=.tup []/\d.h=s.h)\/
   (Ai s.f ops o=true/\
   ((BO o=true/\CM C s.f s.h o=some (.val v s.h)/\d.h=s.h)\/
    (AZ o=true/\∃ob f,Qu C s.f o=some (ob,f)/\v=f s.h.nx/\d.h=s.h.push ob)\/
    (A1 o=true/\B2 C call s.f s.h o=some (v,d.h)))))/\
  (∀r∈s.r,r∈d.r)/\(BO o=true->H9 o=true->Ai s.f ops o=true->⟨i,o,s.f,v⟩∈d.r)/\
  (A1 o=true->∀r∈s.r,still C anc i d.h r=true):=by
 unfold Dl at c;split at c
 case h_1=>cases c
 rename_i o D;refine⟨o,D,?_⟩;cases y:Ai s.f ops o with
 |false=>
  simp only[y,wc]at c;split at c
  case h_2=>cases c
  rename_i u e;obtain⟨l,j,q⟩:=E1 e;grind
 |true=>
  simp only[y,wb]at c;cases g:BO o with
  |true=>
   simp only[g,wb]at c;split at c
   case h_2=>cases c
   rename_i v1 z x;split at c
   case h_2=>cases c
   rename_i u e;obtain⟨rfl,rfl⟩:=c;obtain⟨l,j,q⟩:=E1 e;obtain⟨v2,hv2⟩:=rd_val g x;refine⟨l,j,q,ae,fun r A=>?_,fun _ G _=>?_,(by grind [Jf])⟩
   ·grind
   grind
  |false=>
   simp only[g,wc]at c;cases m:AZ o with
   |true=>
    simp only[m,wb]at c;split at c
    case h_2=>cases c
    split at c
    case h_2=>cases c
    rename_i u e;obtain⟨rfl,rfl⟩:=c;obtain⟨l,j,q⟩:=E1 e;exact⟨l,j,q,ae,fun r A=>A,(by simp),(by grind [Jf])⟩
   |false=>
    simp only[m,wc]at c;split at c
    case h_2=>cases c
    rename_i v1 z B;split at c
    case h_2=>cases c
    rename_i u e;obtain⟨l,j,q⟩:=E1 e;cases E:s.r.all (still C anc i z)with
    |false=>grind
    |true=>
     simp only[E,wb,Zd,Zv]at c;obtain⟨rfl,rfl⟩:=c;simp_all [A1]
theorem F4{anc:Nat->Nat->Bool}:∀(L:List Nat) (s d:St),Kw C call ops anc L s=some d->
  ∃(c:Nat->St) (e:Nat->V),c 0=s/\c L.length=d/\∀(q i:Nat),L[q]?=some i->Dl C call ops anc i (c q)=some (e q,c<|q+1)
 |[],s,d,h=>by
  cases h;exact⟨fun _=>s,fun _=>.nilp,rfl,rfl,(by simp)⟩
 |i::L,s,d,h=>by
  unfold Kw at h;split at h
  case h_2=>cases h
  rename_i v s1 m;obtain⟨c,e,h0,l,g⟩:=F4 L s1 d h;refine⟨fun q=>match q with|0=>s|q+1=>c q,fun q=>match q with|0=>v|q+1=>e q,rfl,by omega,fun q j f=>?_⟩;grind
theorem On{pl:Gi}(U:Di ops pl=true){K:St}(hd:Kw C call ops pl.a pl.ord ⟨fr,h,[]⟩=some K):
  ∃(v:Nat->V) (Hh:Nat->H) (F:Nat->Fr),Canon C call ops pl.a (idx pl.ord) (idx pl.pos) fr h v Hh F/\Hh ops.size=K.h/\F ops.size=K.f:=by
 have st:=MN U;have hl:=Ri U;obtain⟨B,T,h0,hn,hq⟩:=F4 pl.ord _ _ hd;have B2:∀q,q<ops.size->Dl C call ops pl.a (idx pl.ord q) (B q)=some (T q,B<|q+1):=by
  grind [idx]
 have J:∀q,q<=ops.size->(B q).f.n=fr.n:=by
  intro q;induction q with
  |zero=>grind
  |succ q W=>
   intro d;obtain⟨o,_,g1,_⟩:=Bt (B2 q a8);omega
 have z:∀q m,q<=m->m<=ops.size->∀r∈(B q).r,r∈(B m).r:=by
  intro q m hle;induction m with
  |zero=>
   grind
  |succ m W=>
   intro d r hr;by_cases e:q=m+1
   ·grind
   ·obtain⟨o,_,_,_,_,_,g,_⟩:=Bt (B2 m a8);exact g r (W a8 a8 r hr)
 refine⟨fun i=>T<|idx pl.pos i,fun q=>(B q).h,fun q=>(B q).f,⟨by simp[h0],by simp[h0],J,fun q d o s t=>?_,fun i o t s ht=>?_,fun i o s=>?_,fun i j o oj s S L E N X Y D=>?_⟩,by grind,by grind⟩
 ·obtain⟨o',l,_,g1,_⟩:=Bt<|B2 q d;simp only[(st.ordp q d).2];grind
 ·have c:=(Zh.1 s).1;have O:=st.posp i c;obtain⟨o',l,_,_,g2,_⟩:=Bt<|B2 _ O.1;grind
 ·have c:=(Zh.1 s).1;have O:=st.posp i c;obtain⟨o',l,_,_,_,g3,_⟩:=Bt<|B2 _ O.1;simp_all
 ·have c:=(Zh.1 s).1;have M:=(Zh.1 S).1;have u:=st.posp i c;have A:=st.posp j M;obtain⟨o',l,_,_,_,_,_,Z,_⟩:=Bt<|B2 _ A.1;rw[A.2,S]at l;cases l;have I:=z _ (idx pl.pos i) a8 a8 _<|Z E N X;obtain⟨o'',l,_,_,_,_,_,_,g5⟩:=Bt<|B2 _ u.1;rw[u.2,s]at l;cases l;have G:=g5 L _ I;unfold still at G;rw[A.2]at G;rw[u.2,D]at G;split at G
  case h_2=>cases G
  rename_i x hx R;obtain⟨y,hy⟩:=rd_val E R;grind [V.beq_eq]
theorem Hu(g:Di ops (BS ops)=true)(t:C.Ok P)(c:call.Ok C P)(j:P.follows .mixedOrders=true)(u:R p h w)(i:Gl C p)(m:AS p fr a){fr':Fr}{h':H}(f:DP C call ops fr h=some (fr',h')){id:Nat}{ro:Option Nat}{q:Nat}{Q:Exit->Act->World->Prop}
  (l:∀p' e w',AS p' fr' e->Ext p h w p' h' w'->e.defers=a.defers->Q .normal e w'):(Code.region id ops true).wpIn (FW ro) q P Q a w:=by
 unfold DP at f;split at f
 case h_2=>cases f
 rename_i s d;obtain⟨v,Hh,F,r,A,y⟩:=On g d;refine Qn t c j (MN g) r u i m fun p' e w' z x o=>l p' e w' ?_ ?_ o
 ·grind
 grind
theorem NM(m:C.Ok P)(c:call.Ok C P)(i:P.follows .mixedOrders=true)(q:R p h w)(g:Gl C p)(l:AS p fr a){fr':Fr}{h':H}(f:KN C call ops fr h=some (fr',h')){id:Nat}{ro:Option Nat}{e:Nat}{Q:Exit->Act->World->Prop}
  (j:∀p' d w',AS p' fr' d->Ext p h w p' h' w'->d.defers=a.defers->Q .normal d w'):(Code.region id ops true).wpIn (FW ro) e P Q a w:=by
 unfold KN at f;cases o:Di ops (BS ops)with
 |false=>grind
 |true=>
  grind [Hu]
end
section
variable {P:Program}{F:Fence}{n:Nat}{b:Frame}{a:Act}{k:List Item}{cs:List Frame}{w:World}{Q:Exit->Act->World->Prop}
theorem By{c:Code}:step P (lone (b.atR a (.code (.scope c)::k)) cs w)=.next (lone (b.atR a (.code c:: .inScope c::k)) cs w):=
 (by rfl)
theorem Ia{c:Code}:step P (lone (b.atR a (.inScope c::k)) cs w)=.next (lone (b.atR a k) cs w):=
 (by rfl)
theorem En{c:Code}(h:c.wpIn F n P (Exit.noGoto Q) a w):(Code.scope c).wpIn F n P Q a w:=by
 intro b k cs q m o;have h0:(lone (b.atR a (.code (.scope c)::k)) cs w).fenced P F:=fenced_calm m o rfl;obtain⟨e,g,f,i,d⟩:=h b (.inScope c::k) cs q m o;cases e with
 |normal=>exact⟨.normal,g,f,i,.head h0 By<|StepsIn.trans d<|.one (fenced_calm m o rfl) Ia⟩
 |exit id=>
  have u:exitTo id (.inScope c::k)=exitTo id k:=by rfl
  exact⟨.exit id,g,f,i,fun r s=>.head h0 By (d.1 r ae),
   fun j s=>let ⟨k₁,h1,h2⟩:=d.2 j ae;⟨k₁,h1,.head h0 By h2⟩⟩
 |goto l=>exact i.elim
 |ret=>exact⟨_,g,f,i,.of_steps (.one h0 By) d⟩
 |panic t=>exact⟨_,g,f,i,.of_steps (.one h0 By) d⟩
 |outgrown=>exact⟨_,g,f,i,.of_steps (.one h0 By) d⟩
end
structure X where
 e:DX
 fr:Fr
 h:H
 ds:List Nat
def Jl(ro:Option Nat)(fr:Fr)(h:H)(ps:Array Tmp)(asg body:Code)(ds:List Nat):Option (Nat×H×List Nat):=
 match ro with
 |none=>some (h.nx+1,(h.push<|.defd true).push<|.loop ⟨.ready,none,fr,ps,asg,body,h.nx⟩,h.nx::ds)
 |some b=>match h.get b with
  |some (.loop l)=>some (h.nx,h.push<|.loop ⟨.ready,none,fr,ps,asg,body,l.db⟩,ds)
  |_=>none
def Ar(C:Ctx)(call:Bi)(ro:Option Nat)(ct:Bool):Nat->Code->Fr->H->List Nat->Option (List X)
 |0,_,_,_,_=>none
 |m+1,c,fr,h,ds=>
  match c with
  | .skip| .label _=>some [⟨.normal,fr,h,ds⟩]
  | .region _ ops dr=>bif dr then(match (bif ct then DP C call ops fr h else KN C call ops fr h)with
    |some (fr',h')=>some [⟨.normal,fr',h',ds⟩]
    |none=>none)
   else(match Jy C call ops ops.toList fr h with
    |some l=>some<|l.map fun x=>⟨.normal,x.1,x.2,ds⟩
    |none=>none)
  | .seq a b=>match Ar C call ro ct m a fr h ds with
   |some l=>bl l fun x=>match x.e with
    | .normal=>Ar C call ro ct m b x.fr x.h x.ds
    |_=>some [x]
   |none=>none
  | .cond x a b=>match ev C fr x with
   |some (.bool true)=>Ar C call ro ct m a fr h ds
   |some (.bool false)=>Ar C call ro ct m b fr h ds
   |_=>none
  | .block id b=>match Ar C call ro ct m b fr h ds with
   |some l=>some<|l.map fun x=>match x.e with
    | .exit i=>bif Za i id then { x with e:=.normal }else x
    |_=>x
   |none=>none
  | .loop b=>match Ar C call ro ct m b fr h ds with
   |some l=>bl l fun x=>match x.e with
    | .normal=>Ar C call ro ct m (.loop b) x.fr x.h x.ds
    |_=>some [x]
   |none=>none
  | .exit i=>some [⟨.exit i,fr,h,ds⟩]
  | .ret=>some [⟨.ret,fr,h,ds⟩]
  | .scope b=>Ar C call ro ct m b fr h ds
  | .rangeFunc g ps asg body=>match Jl ro fr h ps asg body ds,ev C fr g with
   |some (b,j,d),some o=>match Dk C j o [.yld b]with
    |some (.enter f args)=>match call (.fn f args) j with
     |some l=>bl l fun x=>match x.2.get b with
      |some (.loop ls)=>match ls.st,ls.pend with
       | .busy,_=>none
       |_,none=>some [⟨.normal,fr,x.2.put b<|.loop { ls with st:=.exhausted },d⟩]
       |_,some c=>Ar C call ro false m c fr (x.2.put b<|.loop { ls with st:=.exhausted }) d
      |_=>none
     |none=>none
    |_=>none
   |_,_=>none
  |_=>none
def C4(p:Pl):List Nat->List Deferred->Prop
 |[],l=>l=[]
 |b::c,l=>∃r n l',p[b]?=some (r,n)/\l={ target:=.collected r,args:= #[] }::l'/\C4 p c l'
theorem C4.mono{p:Pl}(q:Pl):∀ {ds:List Nat} {l:List Deferred},C4 p ds l->C4 (p++q) ds l
 |[],_,h=>h
 |_b::_bs,_l,⟨r,n,l',e,d,c⟩=>⟨r,n,l',ae,d,c.mono q⟩
theorem C4.ext{p p':Pl}{h h':H}{w w':World}(e:Ext p h w p' h' w'){ds:List Nat}{l:List Deferred}(c:C4 p ds l):C4 p' ds l:=by
 obtain⟨q,rfl⟩:=e.pre;exact c.mono q
def GQ(p:Pl):Option Nat->Option Nat->Prop
 |none,none=>True
 |some b,some r=>∃n,p[b]?=some (r,n)
 |_,_=>False
theorem GQ.ext{p p':Pl}{h h':H}{w w':World}(e:Ext p h w p' h' w'){ro k:Option Nat}(c:GQ p ro k):GQ p' ro k:=by
 obtain⟨q,rfl⟩:=e.pre;cases ro with
 |none=>grind [GQ]
 |some b=>
  cases k with
  |none=>exact c
  |some r=>obtain⟨n,d⟩:=c;exact⟨n,ae⟩
theorem Ext.at{p p':Pl}{h h':H}{w w':World}(e:Ext p h w p' h' w'){b:Nat}{x:Nat×Nat}(c:p[b]?=some x):p'[b]?=some x:=by
 obtain⟨q,rfl⟩:=e.pre;grind
section
variable {C:Ctx}{P:Program}{call:Bi}{ops:Array Oper}{p:Pl}{h:H}{w:World}{fr:Fr}{a:Act}
theorem El(e:R p h w)(y:AS p fr a){ro k:Option Nat}(c:GQ p ro k){ps:Array Tmp}{asg body:Code}{ds g:List Nat}(i:C4 p ds a.defers){b:Nat}{f:H}
  (d:Jl ro fr h ps asg body ds=some (b,f,g)) (fn:FuncId):∃l mark v q n,(Instr.enterLoop fn a.tmps ps asg body k).run P w=.ok (l,mark) v/\Ext p h w q f v/\q[b]?=some (l,n)/\C4 q g (mark++a.defers):=by
 unfold Jl at d;cases ro with
 |none=>
  cases k with
  |some k=>exact c.elim
  |none=>
   obtain⟨rfl,rfl,rfl⟩:=d;have z:=Ext.push (n:=0) e (o:=.defd true) (x:=.deferred<|some []) (by rfl);have j:(p++[(w.heap.size,0)])[h.nx]?=some (w.heap.size,0):=by rw[<-e.len];simp
   have s:BP (p++[(w.heap.size,0)]) fr a.tmps:=BP.mono _ y;have t:=Ext.push (n:=0) z.rel (o:=.loop ⟨.ready,none,fr,ps,asg,body,h.nx⟩) (x:=.loop { state:=.ready,pending:=none,fn,tmps:=a.tmps,params:=ps,assign:=asg,body,defers:=w.heap.size })
    ⟨fn,a.tmps,_,_,s,j,rfl⟩
   refine⟨_,_,_,_,0,run_enterLoop_outer fn a.tmps ps asg body,z.trans t,?_,?_⟩
   ·have:h.nx+1=(p++[(w.heap.size,0)]).length:=by simp[e.len]
    grind
   ·exact⟨w.heap.size,0,a.defers,ae,rfl,C4.mono _<|C4.mono _ i⟩
 |some B=>
  cases k with
  |none=>exact c.elim
  |some k=>
   simp only at d;split at d
   case h_2=>cases d
   rename_i A u;obtain⟨rfl,rfl,rfl⟩:=d;obtain⟨n0,hn0⟩:=c;obtain⟨r',n',x,f,h2,f0,tmps,r,m,h3,h4,rfl⟩:=e.obj _ _ u;rw[hn0]at f;cases f;have t:=Ext.push (n:=0) e (o:=.loop ⟨.ready,none,fr,ps,asg,body,A.db⟩) (x:=.loop { state:=.ready,pending:=none,fn,tmps:=a.tmps,params:=ps,assign:=asg,body,defers:=r })
    ⟨fn,a.tmps,_,_,y,h4,rfl⟩
   refine⟨w.heap.size,[],_,_,0,?_,t,?_,?_⟩
   ·unfold Instr.enterLoop;simp only[Zm,run_getLoop h2,run_newObj_alloc,Zk,Sem.run_pure,World.alloc]
   ·rw[<-e.len];simp
   ·exact C4.mono _ i
theorem Result.Lw{α d:Type}{r:Result α}{f:α->World->Result d}{b:d}{w':World}(h:r.andThen f=.ok b w'):∃a c,r=.ok a c/\f a c=.ok b w':=by
 cases r with
 |ok a c=>exact⟨a,c,rfl,h⟩
 |halt x c=>simp_all
theorem EO(hC:C.Ok P)(E:call.Ok C P)(hm:P.follows .mixedOrders=true){ro k:Option Nat}{n:Nat}:∀(m:Nat) (ct:Bool) (c:Code) {fr:Fr} {h:H} {ds:List Nat} {L:List X},(ct=true->Bm c=true)->Ar C call ro ct m c fr h ds=some L->
  ∀(p:Pl) (a:Act) (w:World) (Q:Exit->Act->World->Prop),R p h w->Gl C p->AS p fr a->C4 p ds a.defers->GQ p ro k->
   (∀x∈L,∀p' Y w',AS p' x.fr Y->Ext p h w p' x.h w'->C4 p' x.ds Y.defers->Q x.e.JC Y w')->
   c.wpIn (FW k) n P Q a w/\∀b,c=.loop b->Code.roundsIn (FW k) n P b Q m a w
 |0,ct,c,fr,h,ds,L,I,o=>by cases o
 |m+1,ct,c,fr,h,ds,L,I,o=>by
  intro p a w Q U M K B D G;have ih:∀ {ct:Bool} (c:Code) {fr:Fr} {h:H} {ds:List Nat} {L:List X},(ct=true->Bm c=true)->Ar C call ro ct m c fr h ds=some L->∀ {p:Pl} {a:Act} {w:World},R p h w->Gl C p->AS p fr a->C4 p ds a.defers->GQ p ro k->
    ∀ {Q:Exit->Act->World->Prop},(∀x∈L,∀p' Y w',AS p' x.fr Y->Ext p h w p' x.h w'->C4 p' x.ds Y.defers->Q x.e.JC Y w')->
   c.wpIn (FW k) n P Q a w/\∀b,c=.loop b->Code.roundsIn (FW k) n P b Q m a w:=fun {ct} c {fr h ds L} I o {p a w} U M K B D {Q} G=>EO hC E hm m ct c I o p a w Q U M K B D G
  cases c with
  |skip=>cases o;exact⟨wpIn_skip<|G _ (Ze.2 rfl) p a w K (Zr U) B,(by simp)⟩
  |label l=>cases o;exact⟨wpIn_label<|G _ (Ze.2 rfl) p a w K (Zr U) B,(by simp)⟩
  |region id ops dr=>
   refine⟨?_,(by simp)⟩;simp only[Ar]at o;cases dr with
   |true=>
    simp only[wb]at o;split at o
    case h_2=>cases o
    rename_i fr1 h1 Z;cases o;refine(show ∀ {Q':Exit->Act->World->Prop},(∀p' Y w',AS p' fr1 Y->Ext p h w p' h1 w'->Y.defers=a.defers->Q' .normal Y w')->(Code.region id ops true).wpIn (FW k) n P Q' a w from fun {Q'} V=>?_) fun N a1 J A j t=>G _ (Ze.2 rfl) N a1 J A j<|t▸B.ext j
    cases ct with
    |false=>grind [NM]
    |true=>exact Hu (by simpa [Bm]using I rfl) hC E hm U M K Z V
   |false=>
    simp only[wc]at o;split at o
    case h_2=>cases o
    rename_i l Z;cases o;exact Mn hC E U M K Z fun x hx N a1 J A j t=>G _ (Zy.2 ⟨x,hx,rfl⟩) N a1 J A j<|t▸B.ext j
  |seq x y=>
   refine⟨wpIn_seq ?_,(by simp)⟩;simp only[Ar]at o;split at o
   case h_2=>cases o
   rename_i l Z;refine(ih x (by grind [Bm]) Z U M K B D fun z hz N a1 J A j t=>?_).1;obtain⟨L1,O,g2⟩:=DB o z hz;cases q:z.e with
   |normal=>
    simp only[q]at O;exact(ih y (by grind [Bm]) O j.rel (M.ext j) A t (D.ext j) fun u hu p2 a2 w2 S he2 T=>G u (g2 u hu) p2 a2 w2 S (j.trans he2) T).1
   |exit i=>
    simp only[q,Zd]at O;subst O;have:=G z ae N a1 J A j t;rw[q]at this;exact this
   |ret=>
    simp only[q,Zd]at O;subst O;have:=G z ae N a1 J A j t;rw[q]at this;exact this
  |cond x b1 b2=>
   refine⟨?_,(by simp)⟩;simp only[Ar]at o;split at o
   case h_1=>
    rename_i hx;have hv:=Ag M K hx;grind [Aa,wpIn_cond_true,Bm]
   case h_2=>
    rename_i hx;have hv:=Ag M K hx;grind [Aa,wpIn_cond_false,Bm]
   grind
  |block id b=>
   refine⟨wpIn_block ?_,(by simp)⟩;simp only[Ar]at o;split at o
   case h_2=>cases o
   rename_i l Z;cases o;refine(ih b (fun e=>by have:=I e;simpa [Bm]using this) Z U M K B D fun z hz N a1 J A j t=>?_).1;have V:=G _ (Zy.2 ⟨z,hz,rfl⟩) N a1 J;cases q:z.e with
   |normal=>
    simp only[q]at V;exact V A j t
   |ret=>
    simp only[q]at V;exact V A j t
   |exit i=>
    simp only[q,Al]at V;by_cases ei:i=id
    ·simp only[ei,decide_true,wb]at V;simp only[DX.JC,Exit.inBlock,ei,wg];exact V A j t
    ·simp only[ei,decide_false,wc,q]at V;simp only[DX.JC,Exit.inBlock,ei,wi];exact V A j t
  |loop b=>
   have key:Code.roundsIn (FW k) n P b Q (m+1) a w:=by
    rw[roundsIn_succ];simp only[Ar]at o;split at o
    case h_2=>cases o
    rename_i l Z;refine(ih b (fun e=>by have:=I e;simpa [Bm]using this) Z U M K B D fun z hz N a1 J A j t=>?_).1;obtain⟨L1,O,g2⟩:=DB o z hz;cases q:z.e with
    |normal=>
     simp only[q]at O;exact(ih (.loop b) I O j.rel (M.ext j) A t (D.ext j) fun u hu p2 a2 w2 S he2 T=>G u (g2 u hu) p2 a2 w2 S (j.trans he2) T).2 b rfl
    |exit i=>
     simp only[q,Zd]at O;subst O;have:=G z ae N a1 J A j t;rw[q]at this;exact this
    |ret=>
     simp only[q,Zd]at O;subst O;have:=G z ae N a1 J A j t;rw[q]at this;exact this
   grind [wpIn_loop_rounds]
  |exit i=>cases o;exact⟨wpIn_exit<|G _ (Ze.2 rfl) p a w K (Zr U) B,(by simp)⟩
  |ret=>cases o;exact⟨wpIn_ret<|G _ (Ze.2 rfl) p a w K (Zr U) B,(by simp)⟩
  |scope b=>
   refine⟨En ?_,(by simp)⟩;simp only[Ar]at o;refine(ih b (fun e=>by have:=I e;simpa [Bm]using this) o U M K B D fun z hz N a1 J A j t=>?_).1;have h1:=G z hz N a1 J A j t;cases q:z.e<;>rw[q]at h1<;>exact h1
  |rangeFunc g ps asg body=>
   refine⟨wpIn_rangeFunc fun fn _=>?_,(by simp)⟩;simp only[Ar]at o;split at o
   case h_2=>cases o
   rename_i b h1 ds1 g' hen hgv;split at o
   case h_2=>cases o
   rename_i f args hdc;split at o
   case h_2=>cases o
   rename_i l hcl;obtain⟨r,mark,J,N,nb,q1,q2,q3,q4⟩:=El (P:=P) U K D B hen fn;have hyld:Ab N [.yld b] (#[Value.func (.yield r) #[] #[]]).toList:=by
    simp only[Ap,Eb,wh];simp only[Aa];grind
   obtain⟨args',s1,s2⟩:=FL hC q2.rel (M.ext q2) (q2.O0<|Ag M K hgv) hyld hdc;rw[Zm]at s1;obtain⟨d,w1',s3,s4⟩:=Result.Lw s1;refine⟨r,mark,J,d,w1',f,args',J,q1,?_,fun _ _=>trivial,s4,(by grind [FW,Zs]),Lz.2<|(E.fn f args h1 l hcl N J args' q2.rel (M.ext q2) s2).mono ?_⟩
   ·grind [resolve,Act.eval]
   ·rintro e w2 ⟨v,h2,v',p2,hmem,rfl,k1,k2⟩;obtain⟨L1,t1,t2⟩:=DB o (v,h2) hmem;split at t1
    case h_2=>cases t1
    rename_i ls hls;obtain⟨r',n',x,u1,u2,f0,tmps,rd,md,u3,u4,rfl⟩:=k2.rel.obj _ _ hls;have hpb:=k2.at q3;rw[hpb]at u1;cases u1;have hbusy:ls.st≠ .busy:=by
     grind
    obtain⟨W,hW,hput⟩:∃W,(Instr.endLoop r).run P w2=.ok ls.pend W/\Ext p2 h2 w2 p2 (h2.put b<|.loop { ls with st:=.exhausted }) W:=
     ⟨_,run_endLoop u2 hbusy,Ext.put k2.rel hls hpb (o':=.loop { ls with st:=.exhausted }) (x':=.loop { state:=.exhausted,pending:=ls.pend,fn:=f0,tmps,params:=ls.ps,assign:=ls.asg,body:=ls.body,defers:=rd }) ⟨f0,tmps,rd,md,u3,u4,rfl⟩ rfl rfl rfl rfl⟩
    have hex:=q2.trans<|k2.trans hput;refine⟨ls.pend,W,hW,?_⟩;have S:AS p2 fr { a with defers:=mark++a.defers }:=AS.ext (a:={ a with defers:=mark++a.defers }) K<|q2.trans k2;have T:C4 p2 ds1 (mark++a.defers):=C4.ext k2 q4;split at t1
    case h_1=>cases t1
    case h_2=>
     rename_i hpe _;cases t1;simp only[hpe];exact G _ (t2 _<|Ze.2 rfl) p2 _ _ S hex T
    case h_3=>
     rename_i c hpe _;simp only[hpe];exact(ih c (by simp) t1 hput.rel (M.ext hex) S T (D.ext hex) fun u hu p3 a3 w3 hf3 he3 hd3=>G u (t2 u hu) p3 a3 w3 hf3 (hex.trans he3) hd3).1
  |goto l=>simp[Ar]at o
  |refuse s=>simp[Ar]at o
end
section
variable {C:Ctx}{P:Program}{p:Pl}{h:H}{w:World}{fr:Fr}{a:Act}
def Mr(C:Ctx)(fr:Fr)(h:H):ResultVar->Option V
 | .tmp t=>some<|fr.get t
 | .cell a t=>B6 C.T h t<|fr.get a
def G9(C:Ctx)(fr:Fr)(h:H):List ResultVar->Option (List V)
 |[]=>some []
 |r::c=>match Mr C fr h r,G9 C fr h c with
  |some v,some vs=>some (v::vs)
  |_,_=>none
def Ib(C:Ctx)(fr:Fr)(h:H)(c:List ResultVar):Option V:=
 match G9 C fr h c with
 |some [v]=>some v
 |some vs=>some<|.tup vs
 |none=>none
def Rt(a:Act):ResultVar->Sem Value
 | .tmp t=>pure<|a.tmps.getD t undef
 | .cell x t=>do loadVar t (<-asAddr (a.tmps.getD x undef))
theorem Ll(fn:Func)(a:Act):results fn a.tmps=(do let vs<-fn.results.mapM (Rt a);pure (if h:vs.size=1 then vs[0]else .tuple vs)):=by
 rfl
theorem PT(j:C.T.Ok P)(o:R p h w)(f:AS p fr a){r:ResultVar}{v:V}(d:Mr C fr h r=some v):
  ∃v',(Rt a r).run P w=.ok v' w/\Aa p v v':=by
 cases r with
 |tmp t=>cases d;exact⟨_,rfl,f.2 t⟩
 |cell x t=>
  simp only[Mr]at d;obtain⟨v',g,l⟩:=KM (P:=P) j o (f.2 x) d;refine⟨v',?_,l⟩;have m:∃b i,fr.get x=.ptr b i:=by
   unfold B6 at d;grind
  obtain⟨b,i,e⟩:=m;have c:=f.2 x;rw[e]at c;obtain⟨r,n,_,c⟩:=c;rw[c]at g;simp only[Rt,c];exact g
theorem JX(g:C.T.Ok P)(i:R p h w)(f:AS p fr a):∀ {e:List ResultVar} {vs:List V},G9 C fr h e=some vs->
  ∃c:List Value,(e.mapM<|Rt a).run P w=.ok c w/\Ab p vs c
 |[],vs,d=>by cases d;simp
 |r::e,vs,d=>by
  unfold G9 at d;split at d
  case h_2=>cases d
  rename_i v j m l;cases d;obtain⟨v',q,o⟩:=PT (P:=P) g i f m;obtain⟨c,g3,g4⟩:=JX g i f l;simp_all
theorem Q6(l:C.T.Ok P)(m:R p h w)(j:AS p fr a){fn:Func}{v:V}(e:Ib C fr h fn.results.toList=some v):∃v',(results fn a.tmps).run P w=.ok v' w/\Aa p v v':=by
 unfold Ib at e;cases i:G9 C fr h fn.results.toList with
 |none=>grind
 |some vs=>
  obtain⟨c,q,f⟩:=JX (P:=P) l m j i;have s:=f.length;have d:(results fn a.tmps).run P w=.ok (if h:c.toArray.size=1 then c.toArray[0]else .tuple c.toArray) w:=by
   grind [Ll,Zm,Array.mapM_eq_mapM_toList,Sem.run_map,Zk,Sem.run_pure]
  refine⟨_,d,?_⟩;simp only[i]at e;cases vs with
  |nil=>
   grind [Aa]
  |cons x g=>
   cases g with
   |nil=>
    obtain⟨y,rfl,r⟩:=f.one;grind
   |cons o g=>
    cases e;rw[dif_neg ae];simp_all [Aa]
def J0:List V->Nat->PM V->PM V
 |[],_,m=>m
 |v::vs,i,m=>J0 vs (i+1)<|m.set i<|some v
def F5(n:Nat)(args:List V):Fr:=⟨args.length+(n-args.length),J0 args 0 .leaf⟩
theorem FJ:∀(vs:List V) (i:Nat) (m:PM V) (t:Nat),(J0 vs i m).get t=if i<=t/\t<i+vs.length then vs[t-i]? else m.get t
 |[],i,m,t=>by simp[J0];omega
 |v::vs,i,m,t=>by
  unfold J0;rw[FJ vs (i+1) _ t];by_cases e:t=i
  ·subst e;rw[w9 a8,wa<|by simp];simp
  ·by_cases c:i+1<=t/\t<i+1+vs.length
   ·grind
   ·rw[w9 c,w9 ae];simp[e]
theorem OY{args:List V}{args':Array Value}(f:Ab p args args'.toList)(n:Nat):AS p (F5 n args) { tmps:=args'++Array.replicate (n-args'.size) undef,defers:=[] }:=by
 have g:=f.length;simp at g;refine⟨by simp[F5,g],fun t=>?_⟩;unfold F5 Fr.get;rw[FJ];by_cases e:t<args.length
 ·rw[wa a8];obtain⟨u,l,j⟩:=f.get (i:=t) (d:=args[t]) (by simp[e]);have c:args'[t]?=some u:=ae
  simp only[Nat.sub_zero,List.getElem?_eq_getElem e,Option.getD_some];rw[Zo,Array.getElem?_append_left a8,c];exact j
 ·have:(args'++Array.replicate (n-args'.size) undef).getD t undef=undef:=by
   rw[Zo,Array.getElem?_append_right a8];grind
  simp_all [Aa,undef]
def CH:List Nat->H->Option H
 |[],h=>some h
 |b::c,h=>match h.get b with
  |some (.defd true)=>CH c<|h.put b<|.defd false
  |_=>none
theorem IP{fn:Func}{tmps:Array Value}{n:Nat}:∀ {ds:List Nat} {l:List Deferred} {p:Pl} {h:H} {w:World} {g:H},C4 p ds l->R p h w->CH ds h=some g->
  ∃d,Ext p h w p g d/\∀f:Ending->World->Prop,(∃v,(results fn tmps).run P d=.ok v d/\f (.returned v) d)->LeavesInM Zs n P fn tmps f l .returning w
 |[],l,p,h,w,g,o,i,e=>by
  cases e;cases (show l=[]from o);exact⟨w,Zr i,fun f j=>j⟩
 |b::u,l,p,h,w,g,o,i,e=>by
  unfold CH at e;split at e
  case h_2=>cases e
  rename_i s;obtain⟨r,m,l',t,rfl,q⟩:=o;obtain⟨r',m',x,k1,k2,k3⟩:=i.obj _ _ s;rw[t]at k1;cases k1;subst k3;have c:=Ext.put i s t (o':=.defd false) (x':=.deferred none) (by rfl) (w':=w.putObj r<|.deferred none) rfl rfl rfl rfl;obtain⟨d,g1,g2⟩:=IP (fn:=fn) (tmps:=tmps) (n:=n) q c.rel e;exact⟨d,c.trans g1,fun f j=>⟨by simp,.inl ⟨r,_,rfl,run_takeDeferred k2,g2 f j⟩⟩⟩
def IZ(C:Ctx)(m:Nat)(call:Bi)(b:Nat)(ls:LS)(fr:Fr)(h:H):Option (List<|V×H):=
 match Ar C call (some b) false m ls.asg fr h []with
 |some l=>bl l fun x=>match x.e,x.h.get b with
  | .normal,some (.loop d)=>match d.st with
   | .ready=>match Ar C call (some b) false m ls.body x.fr (x.h.put b<|.loop { d with st:=.busy }) x.ds with
    |some f=>bl f fun y=>match y.h.get b with
     |some (.loop c)=>match y.e with
      | .normal=>some [(.bool true,y.h.put b<|.loop { c with st:=.ready,pend:=none })]
      | .ret=>some [(.bool false,y.h.put b<|.loop { c with st:=.done,pend:=some .ret })]
      | .exit i=>some [(.bool false,y.h.put b<|.loop { c with st:=.done,pend:=some (.exit i) })]
     |_=>none
    |none=>none
   |_=>none
  |_,_=>none
 |none=>none
mutual
def E6:V->List Nat
 | .ptr b _| .sl b _ _ _ _| .map b| .yld b=>[b]
 | .fn _ a b=>DI a++DI b
 | .iface _ v=>E6 v
 | .agg l| .tup l=>DI l
 |_=>[]
def DI:List V->List Nat
 |[]=>[]
 |v::vs=>E6 v++DI vs
end
def QJ:O->List Nat
 | .cells cs _ _=>DI cs
 | .map es _=>es.flatMap fun e=>E6 e.1++E6 e.2.1
 |_=>[]
def reach(h:H)(c:Nat):Nat->List Nat->List Nat->List Nat
 |0,_,acc=>acc
 |_+1,[],acc=>acc
 |f+1,b::d,acc=>bif Zl b c||acc.any (Za b)then reach h c f d acc
  else match h.get b with
   |some o=>reach h c f (QJ o++d) (b::acc)
   |none=>reach h c f d acc
def Gr(GP:List Nat):Nat->Nat->H->H
 |0,_,h=>h
 |f+1,b,h=>Gr GP f (b+1)<|bif GP.any (Za b)then h else h.kill b
def S4:O->Bool
 | .loop l=>match l.st with| .exhausted=>true|_=>false
 |_=>false
def KU:Option O->Option O
 |some o=>bif S4 o then none else some o
 |none=>none
def Jm:PM O->PM O
 | .leaf=>.leaf
 | .node l v r=>.node (Jm l) (KU v)<|Jm r
theorem Fe:∀(q:CN) (m:PM O),q.get (Jm m)=KU (q.get m)
 |CN.here,PM.leaf=>rfl
 |CN.l _,PM.leaf=>rfl
 |CN.r _,PM.leaf=>rfl
 |CN.here,PM.node _ _ _=>rfl
 |CN.l q,PM.node l _ _=>Fe q l
 |CN.r q,PM.node _ _ r=>Fe q r
def H.sift(h:H):H:=⟨Jm h.m,h.nx⟩
theorem KS{p:Pl}{h:H}{w:World}(d:R p h w):Ext p h w p h.sift w:=by
 have sub:∀b o,h.sift.get b=some o->h.get b=some o:=by
  intro b o c;have:h.sift.get b=KU (h.get b):=Fe _ _;rw[this]at c;cases e:h.get b with
  |none=>rw[e]at c;cases c
  |some x=>
   grind [KU]
 refine⟨(by simp),⟨d.len,fun b o c=>d.obj b o<|sub b o c,fun b b' o o' r n n' c j=>d.inj b b' o o' r n n' (sub b o c) ae⟩,Nat.le_refl _,(by simp),fun r q=>?_,rfl,rfl,rfl,fun r g m=>⟨rfl,?_⟩,Nat.le_refl _⟩
 ·grind [Im]
 ·obtain⟨b,n,cs,t,fz,l,i,f⟩:=m;refine .inl ⟨b,n,cs,t,fz,?_,i,f⟩;rw[show h.sift.get b=KU (h.get b)from Fe _ _,l];rfl
def Tm(c:Nat)(x:V×H):V×H:=(x.1,Gr (reach x.2 c 1000 (E6 x.1) []) (x.2.nx-c) c x.2.sift)
def Nt:List (V×V×Nat)->List (V×V×Nat)->Bool
 |[],[]=>true
 |(a,b,c)::l,(d,b',e)::l'=>V.beq a d&&V.beq b b'&&Za c e&&Nt l l'
 |_,_=>false
def Hk:List Nat->List Nat->Bool
 |[],[]=>true
 |a::l,b::l'=>Za a b&&Hk l l'
 |_,_=>false
def S3:O->O->Bool
 | .cells cs t fz,.cells cs' g fz'=>V.E7 cs cs'&&Za t g&&Za fz.1 fz'.1&&Za fz.2 fz'.2
 | .map es c,.map d f=>Nt es d&&Za c f
 | .siter s n,.siter j n'=>s==j&&Za n n'
 | .miter none a l b,.miter none e l' b'=>Za a e&&Hk l l'&&Za b b'
 | .miter (some m) a l b,.miter (some i) e l' b'=>Za m i&&Za a e&&Hk l l'&&Za b b'
 | .defd a,.defd b=>a==b
 |_,_=>false
def IB:Option O->Option O->Bool
 |none,none=>true
 |some a,some b=>S3 a b
 |_,_=>false
def H2:PM O->PM O->Bool
 | .leaf,.leaf=>true
 | .node l v r,.node l' v' c=>IB v v'&&H2 l l'&&H2 r c
 |_,_=>false
def MY(x y:V×H):Bool:=V.beq x.1 y.1&&Za x.2.nx y.2.nx&&H2 x.2.m y.2.m
def dedup:List (V×H)->List (V×H)
 |[]=>[]
 |x::l=>let r:=dedup l;bif r.any (MY x)then r else x::r
def HX(c:Nat):List (V×H)->List (V×H)
 |[]=>[]
 |[x]=>[x]
 |l=>dedup<|l.map<|Tm c
theorem Mp:∀ {a b:List (V×V×Nat)},Nt a b=true->a=b
 |[],[],_=>rfl
 |[],_::_,h=>by simp[Nt]at h
 |_::_,[],h=>by simp[Nt]at h
 |(a,b,c)::l,(d,b',e)::l',h=>by
  simp only[Nt,Zb]at h;rw[V.beq_eq h.1.1.1,V.beq_eq h.1.1.2,Zc h.1.2,Mp h.2]
theorem HM:∀ {a b:List Nat},Hk a b=true->a=b
 |[],[],_=>rfl
 |[],_::_,h=>by simp[Hk]at h
 |_::_,[],h=>by simp[Hk]at h
 |a::l,b::l',h=>by
  simp only[Hk,Zb]at h;rw[Zc h.1,HM h.2]
theorem ML{a b:O}(h:S3 a b=true):a=b:=by
 unfold S3 at h;split at h
 ·grind [V.Df,Zc]
 ·grind [Mp,Zc]
 ·simp_all
 ·grind [Zc,HM]
 ·grind [Zc,HM]
 ·grind
 grind
theorem HT:∀ {a b:PM O},H2 a b=true->a=b
 | .leaf,.leaf,_=>rfl
 | .leaf,.node _ _ _,h=>by simp[H2]at h
 | .node _ _ _,.leaf,h=>by simp[H2]at h
 | .node l v r,.node l' v' c,h=>by
  simp only[H2,Zb]at h;rw[HT h.1.2,HT h.2];congr 1;cases v<;>cases v'<;>first|rfl|exact we some (ML h.1.1)|(simp[IB]at h)
theorem Ox{x y:V×H}(h:MY x y=true):x=y:=by
 simp only[MY,Zb]at h;obtain⟨v,m,n⟩:=x;obtain⟨v',m',n'⟩:=y;grind [V.beq_eq,Zc,HT]
theorem Fo:∀ {l:List (V×H)} {x:V×H},x∈l->x∈dedup l
 |a::l,x,h=>by
  unfold dedup;simp only;cases c:(dedup l).any (MY a)with
  |true=>
   rcases Zw.1 h with rfl|h
   ·grind [Ox]
   ·exact Fo h
  |false=>
   rcases Zw.1 h with rfl|h
   ·simp
   ·exact List.mem_cons_of_mem _<|Fo h
theorem DO(GP:List Nat):∀(f b:Nat) {p:Pl} {h:H} {w:World},R p h w->Ext p h w p (Gr GP f b h) w
 |0,_,_,_,_,c=>Zr c
 |f+1,b,p,h,w,c=>by
  unfold Gr;cases GP.any (Za b)with
  |true=>exact DO GP f (b+1) c
  |false=>exact(Ext.kill c b).trans<|DO GP f (b+1)<|c.kill b
theorem CL.merge{l:List (V×H)}{g:Nat}{e:Ending}{w':World}(j:CL p h w l e w'):CL p h w (HX g l) e w':=by
 obtain⟨v,h',v',p',d,f,i,c⟩:=j;unfold HX;split
 ·cases d
 ·exact⟨v,h',v',p',d,f,i,c⟩
 ·exact⟨v,(Tm g (v,h')).2,v',p',Fo<|Zy.2 ⟨_,d,rfl⟩,f,i,c.trans<|(KS c.rel).trans<|DO _ _ _ (KS c.rel).rel⟩
def Aj(C:Ctx):Nat->Bi
 |0=>fun _ _=>none
 |n+1=>fun c h=>
  match c with
  | .rnd b ls fr=>IZ C n (Aj C n) b ls fr h
  | .fn f args=>
   match C.spec f with
   |some q=>match q args h with
    |some x=>some [x]
    |none=>none
   |none=>
    match C.fn f with
    |none=>none
    |some i=>
     match Ar C (Aj C n) none i.cert n i.body (F5 i.ntmps args) h []with
     |none=>none
     |some l=>match (bl l fun x=>match x.e with
      | .exit _=>none
      |_=>match CH x.ds x.h with
       |some d=>match Ib C x.fr d i.results.toList with
        |some v=>some [(v,d)]
        |none=>none
       |none=>none)with
      |some r=>some<|bif C.mg then HX h.nx r else r
      |none=>none
theorem F6(g:R p h w){b r n:Nat}{ls:LS}(d:h.get b=some (.loop ls))(e:p[b]?=some (r,n)):
  ∃rec:Loop,w.heap[r]?=some (.loop rec)/\rec.state=ls.st/\rec.pending=ls.pend/\∀(st:LoopState) (c:Option Code),Ext p h w p (h.put b<|.loop { ls with st:=st,pend:=c }) (w.putObj r<|.loop { rec with state:=st,pending:=c }):=by
 obtain⟨o,n',x,f,j,f0,tmps,rd,i,l,m,rfl⟩:=g.obj _ _ d;rw[e]at f;cases f;exact⟨_,j,rfl,rfl,fun st c=>Ext.put g d e (o':=.loop { ls with st:=st,pend:=c }) ⟨f0,tmps,rd,i,l,m,rfl⟩ rfl rfl rfl rfl⟩
theorem Fj(K:C.Ok P){call:Bi}(c:call.Ok C P)(J:P.follows .mixedOrders=true){b:Nat}{ls:LS}{l:List (V×H)}{k m E:Nat}(q:IZ C E call b ls fr h=some l){f:FuncId}{tmps:Array Value}
  (hr:R p h w) (I:Gl C p) (r:p[b]?=some (k,m)) (Y:BP p fr tmps):RoundIn Zs 0 P k f tmps ls.asg ls.body w (CL p h w l):=by
 unfold IZ at q;split at q
 case h_2=>cases q
 rename_i L T;refine roundIn_of_wpIn trivial ?_;refine(EO (k:=some k) (n:=0) K c J E false ls.asg (by simp) T p { tmps:=tmps,defers:=[] } w _ hr I Y rfl ⟨m,r⟩ fun x X z a1 M t g v=>?_).1;obtain⟨L1,j,g2⟩:=DB q x X;split at j
 case h_2=>cases j
 rename_i U u G;split at j
 case h_2=>cases j
 rename_i B;split at j
 case h_2=>cases j
 rename_i L2 s;rw[u];obtain⟨rec,q1,q2,q3,q4⟩:=F6 g.rel G<|g.at r;refine⟨_,run_beginRound q1<|q2.trans B,?_⟩;have o:Ext z x.h M z (x.h.put b<|.loop { U with st:=.busy }) (M.putObj k<|.loop { rec with state:=.busy }):=by
  grind
 have ex:=g.trans o;refine(EO (k:=some k) (n:=0) K c J E false ls.body (by simp) s z a1 _ _ o.rel (I.ext ex) t v ⟨m,g.at r⟩ fun y S D a2 w2 W d hd2=>?_).1;obtain⟨L3,N,t2⟩:=DB j y S;split at N
 case h_2=>cases N
 rename_i l3 A;obtain⟨O,s1,s2,s3,s4⟩:=F6 d.rel A<|d.at (g.at r);cases Z:y.e with
 |normal=>
  exact⟨_,_,run_endRound none s1,.bool true,_,.bool true,D,ae,rfl,by rfl,ex.trans<|d.trans<|s4 .ready none⟩
 |ret=>
  exact⟨_,_,run_endRound (some .ret) s1,.bool false,_,.bool false,D,ae,rfl,by rfl,ex.trans<|d.trans<|s4 .done<|some .ret⟩
 |exit i=>
  exact⟨_,_,(by grind [run_endRound]),.bool false,_,.bool false,D,ae,rfl,by rfl,ex.trans<|d.trans<|s4 .done<|some<|.exit i⟩
def CZ(C:Ctx):Prop:=∀f i,C.fn f=some i->i.cert=true->Bm i.body=true
theorem Dv(t:C.Ok P)(r:CZ C)(z:P.follows .mixedOrders=true):∀n,(Aj C n).Ok C P
 |0=>⟨fun f args h l c=>(by cases c),fun b ls fr h l c=>(by cases c)⟩
 |n+1=>by
  refine⟨fun f args h l c p w args' A y N=>?_,fun b ls fr h l c p w k m f tmps A y hb hp hf=>Fj t (Dv t r z n) z c A y hp hf⟩;unfold Aj at c;simp only at c;split at c
  case h_1=>
   rename_i q hq;split at c
   case h_2=>cases c
   rename_i x I;cases c;refine(t.spec f q hq p h w args args' x.1 x.2 A y N I).mono ?_;rintro e w' ⟨v',p',rfl,g,J⟩;exact⟨x.1,x.2,v',p',(by simp),rfl,g,J⟩
  case h_2=>
   split at c
   case h_1=>cases c
   rename_i i M;split at c
   case h_1=>cases c
   rename_i L O;split at c
   case h_2=>cases c
   rename_i D E;cases c;refine Calls.mono ?_ (fun e w' K=>(show CL p h w (bif C.mg then HX h.nx D else D) e w' from by cases C.mg with|true=>exact CL.merge K|false=>exact K));have c:=E;generalize D=l at c;obtain⟨fn,s,R,Y,Z,S⟩:=t.fn f i M;have W:=r f i M;refine callsIn_wide.1<|callsIn_of_wp_marks (F:=Zs) (n:=0) s Y trivial ?_;rw[Z];refine(EO (k:=none) (n:=0) t (Dv t r z n) z n i.cert i.body W O p _ w _ A y (OY N i.ntmps) rfl trivial fun x I X a1 w1 B u G=>?_).1;obtain⟨L1,g,J⟩:=DB c x I;have fin:∀ {s:H} {v:V},CH x.ds x.h=some s->Ib C x.fr s i.results.toList=some v->L1=[(v,s)]->LeavesInM Zs 0 P fn a1.tmps (CL p h w l) a1.defers .returning w1:=by
    intro s v o d hL1;obtain⟨w2,q1,q2⟩:=IP (P:=P) (fn:=fn) (tmps:=a1.tmps) (n:=0) G u.rel o;obtain⟨v',s1,s2⟩:=Q6 (P:=P) (fn:=fn) t.T q1.rel (B.ext q1) (by rw[S];exact d);exact q2 _ ⟨v',s1,v,s,v',X,ae,rfl,s2,u.trans q1⟩
   split at g
   case h_1=>cases g
   case h_2=>
    split at g
    case h_2=>cases g
    rename_i R o;split at g
    case h_2=>cases g
    rename_i v d;cases g;cases U:x.e with
    |normal=>exact fin o d rfl
    |ret=>exact fin o d rfl
    |exit j=>grind
end
def Pd(P:Program)(t:TypeId):Option TI:=
 match P.info? t with
 |some i=>match i.zero with
  |some z=>match cv z with
   |some v=>some ⟨i.size,i.bytes,v⟩
   |none=>none
  |none=>none
 |none=>none
theorem PN{P:Program}{t:TypeId}{i:TI}(h:Pd P t=some i):∃j v,P.info? t=some j/\j.size=i.size/\j.bytes=i.bytes/\j.zero=some v/\∀p,Aa p i.zv v:=by
 unfold Pd at h;split at h
 case h_2=>cases h
 split at h
 case h_2=>cases h
 split at h
 case h_2=>cases h
 cases h;simp_all [L0]
def QG(P:Program)(t:TypeId):Option FK:=
 match P.underlying t with
 |some (.int k)=>some<|.int k
 |some .string=>some .str
 |some .bool=>some .bool
 |_=>none
def Hb(P:Program):List Field->Nat->Option (List FK)
 |[],_=>some []
 | f :: fs, i => if f.name = "_" \/ f.offset ≠ i then none else match QG P f.type, Hb P fs (i + 1) with
  |some k,some ks=>some (k::ks)
  |_,_=>none
def LA(P:Program)(t:TypeId):Option (List FK):=
 match P.underlying t with
 |some (.struct fs)=>if P.stoodInHeld t=true\/P.eqGuardType P.depth t=true then none else Hb P fs.toList 0
 |_=>none
def Lg:TypeDesc->Bool
 | .pointer _=>false
 |_=>true
def PG(P:Program)(t:TypeId)(name:String):Option FuncId:=
 match P.info? t,P.underlying t with
 |some j,some d=>match j.methods.find? (·.name==name)with
  |some m=>match m.path,m.func with
   |⟨[]⟩,some (f,false)=>bif Lg d then some f else none
   |_,_=>none
  |none=>none
 |_,_=>none
theorem Ov{P:Program}{t:TypeId}{name:String}{f:FuncId}(h:PG P t name=some f):∃j m d,P.info? t=some j/\j.methods.find? (·.name==name)=some m/\m.path= #[]/\m.func=some (f,false)/\P.underlying t=some d/\∀e,d≠ .pointer e:=by
 unfold PG at h;split at h
 case h_2=>cases h
 rename_i j d g i;split at h
 case h_2=>cases h
 split at h
 case h_2=>cases h
 cases c:Lg d with
 |false=>grind
 |true=>
  grind [Lg]
def R0(P:Program):AF:=⟨P.underlying,Pd P,LA P,PG P⟩
section
variable {P:Program}{p:Pl}
theorem Ha{t:TypeId}{k:FK}(h:QG P t=some k):∃d,P.underlying t=some d/\BC d=false/\(∀e,d≠ .interface e)/\match k with
  | .int k=>d=.int k
  | .str=>d=.string
  | .bool=>d=.bool:=by
 unfold QG at h;split at h
 case h_1=>rename_i c;cases h;exact⟨_,c,rfl,(by simp),rfl⟩
 case h_2=>rename_i c;cases h;exact⟨_,c,rfl,(by simp),rfl⟩
 case h_3=>rename_i c;cases h;exact⟨_,c,rfl,(by simp),rfl⟩
 grind
theorem HH{t:TypeId}{d:TypeDesc}(g:P.underlying t=some d)(e:BC d=false){cs:Array Value}{i:Nat}{v:Value}(f:cs[i]?=some v)(w:World):(part t cs i).run P w=.ok v w:=by
 unfold part isAgg;have c:(underlying t).run P w=.ok d w:=by simp_all [underlying]
 simp only[Zm,c,Zk];cases d<;>first|(cases e;done)|simp[f]
theorem MU{t:TypeId}{k:FK}(h:QG P t=some k){a b:V}{f b':Value}(e:k.ok a=true)(c:k.ok b=true)(i:Aa p a f)(g:Aa p b b'){r:Bool}(l:BH a b=some r)(d:Nat)(w:World):
  (Op.equalIn (d+1) t f b').run P w=.ok r w:=by
 obtain⟨D,j,_,_,m⟩:=Ha h;cases k with
 |int k=>
  cases a<;>simp only[FK.ok]at e<;>try (cases e;done)
  cases b<;>simp only[FK.ok]at c<;>try (cases c;done)
  grind [Aa,BH,run_equalIn_int]
 |str=>
  cases a<;>simp only[FK.ok]at e<;>try (cases e;done)
  cases b<;>simp only[FK.ok]at c<;>try (cases c;done)
  grind [Aa,BH,run_equalIn_string,DR]
 |bool=>
  cases a<;>simp only[FK.ok]at e<;>try (cases e;done)
  cases b<;>simp only[FK.ok]at c<;>try (cases c;done)
  grind [Aa,BH,run_equalIn_bool']
theorem I0:∀ {ks:List FK} {x:List V},fit ks x=true->ks.length=x.length
 |[],[],_=>rfl
 |[],_::_,h=>by simp[fit]at h
 |_::_,[],h=>by simp[fit]at h
 |k::ks,v::vs,h=>by
  unfold fit at h;cases c:k.ok v with
  |false=>grind
  |true=>simp only[c,wb]at h;simp[I0 h]
theorem EI(d:Nat){w:World}{x' y':Array Value}:∀ {fs:List Field} {i:Nat} {ks:List FK},Hb P fs i=some ks->∀ {x y:List V} {u v:List Value},fit ks x=true->fit ks y=true->Ab p x u->Ab p y v->
  (∀j a,u[j]?=some a->x'[i+j]?=some a)->(∀j a,v[j]?=some a->y'[i+j]?=some a)->∀ {r:Bool},Az x y=some r->(Op.eqFields (d+1) x' y' fs).run P w=.ok r w
 |[],i,ks,l,x,y,u,v,G,z,_,_,_,_,r,t=>by
  cases l;cases x with
  |cons _ _=>simp[fit]at G
  |nil=>cases y with
   |cons _ _=>simp[fit]at z
   |nil=>simp_all [Az,Op.eqFields]
 |f::fs,i,ks,l,x,y,u,v,G,z,S,O,I,L,r,t=>by
  unfold Hb at l;split at l
  case isTrue=>cases l
  have q : f.name ≠ "_" := ae;have o:f.offset=i:=a8;split at l
  case h_2=>cases l
  rename_i k m B N;cases l;cases x with
  |nil=>simp[fit]at G
  |cons a x=>cases y with
   |nil=>simp[fit]at z
   |cons b y=>
    obtain⟨U,X,rfl,s,E⟩:=S;obtain⟨b',v',rfl,hv1,hv2⟩:=O;have M:k.ok a=true:=by grind [fit]
    have J:k.ok b=true:=by grind [fit]
    have T:fit m x=true:=by grind [fit]
    have W:fit m y=true:=by grind [fit]
    obtain⟨D,e,g,_,_⟩:=Ha B;have K:=HH e g (I 0 U rfl) w;have pb:=HH e g (L 0 b' rfl) w;simp only[Nat.add_zero]at K pb;simp only[Op.eqFields,q,ne_eq,not_false_eq_true,wg,Zm,o,K,pb,Zk];unfold Az at t;split at t
    case h_1=>
     rename_i A;rw[MU B M J s hv1 A];exact EI d N T W E hv2 (fun j c R=>by have:=I (j+1) c ae;grind) (fun j c R=>by have:=L (j+1) c ae;grind) t
    case h_2=>
     rename_i A;rw[MU B M J s hv1 A];simp_all
    grind
theorem Er{b:Bool}{w:World}{x':Array Value}:∀ {fs:List Field} {i:Nat} {ks:List FK},Hb P fs i=some ks->∀ {x:List V} {u:List Value},fit ks x=true->Ab p x u->
  (∀j a,u[j]?=some a->x'[i+j]?=some a)->
  (forIn (m := Sem) fs PUnit.unit fun f _ => if f.name ≠ "_" then do
    Zp b 9999 f.type (<-part f.type x' f.offset)
    pure (ForInStep.yield Zx)
   else do
    pure Zx
    pure (ForInStep.yield Zx)).run P w=.ok Zx w
 |[],i,ks,e,x,u,s,_,_=>by simp
 |f::fs,i,ks,e,x,u,s,E,r=>by
  unfold Hb at e;split at e
  case isTrue=>cases e
  split at e
  case h_2=>cases e
  rename_i k o y v;cases e;cases x with
  |nil=>simp[fit]at s
  |cons a x=>
   obtain⟨t,J,rfl,G,q⟩:=E;have A:fit o x=true:=by grind [fit]
   obtain⟨D,g,l,B,_⟩:=Ha y;have K:=HH g l (r 0 t rfl) w;have z:(Zp b 9999 f.type t).run P w=.ok () w:=by
    unfold Zp;have d:(underlying f.type).run P w=.ok D w:=by simp_all [underlying]
    simp only[Zm,d,Zk];cases D<;>first|rfl|grind|grind
   have L:=Er (b:=b) (w:=w) (x':=x') v A q (fun j c I=>by have:=r (j+1) c ae;grind);simp_all
theorem SU(P:Program):(R0 P).Ok P:=by
 have key:∀t ks,LA P t=some ks->∃fs,P.underlying t=some (.struct fs)/\P.stoodInHeld t=false/\P.eqGuardType P.depth t=false/\Hb P fs.toList 0=some ks:=by
  grind [LA]
 refine⟨fun t d h=>h,fun t i h=>PN h,?_,?_,?_,?_,fun t name f h=>Ov h⟩
 ·intro t ks h p x y x' y' r w l u m q s;obtain⟨fs,c,o,g,e⟩:=key t ks h;grind [Program.fieldsOf,Op.equal,Op.maxDepth,run_equalIn_struct,EI]
 ·intro t ks h;obtain⟨fs,c,o,g,e⟩:=key t ks h;exact g
 ·intro t ks h p x x' b w l m;obtain⟨fs,c,o,g,e⟩:=key t ks h;unfold Zp;have j:(underlying t).run P w=.ok (.struct fs) w:=by simp_all [underlying]
  have:=Er (b:=b) (w:=w) (x':=x') e l m (by simp);simp_all
 ·intro t ks h;obtain⟨fs,c,_⟩:=key t ks h;exact⟨fs,c⟩
end
def Ii(P:Program)(ct:FuncId->Bool)(f:FuncId):Option Fn:=
 match P.funcs[f]? with
 |some fn=>match fn.body with
  | some b => if fn.name = "runtime.NumGoroutine" then none else some ⟨fn.ntmps, fn.results, b, ct f⟩
  |none=>none
 |none=>none
theorem QC {P : Program} {ct : FuncId -> Bool} {f : FuncId} {i : Fn} (h : Ii P ct f = some i) : ∃ fn, P.funcs[f]? = some fn /\ fn.name ≠ "runtime.NumGoroutine" /\ fn.body = some i.body /\ fn.ntmps = i.ntmps /\ fn.results = i.results := by
 unfold Ii at h;grind
inductive PK where
 |indexByte
 |add64
 |sub64
 |count
 |noEsc
def GV:Array Value->Sem Value:=fun args=>do
 let (x, y, b) <- Extern.MathBitsCarry.three "Sub64" args
 pure (Zq ((x+Zi-y-b) % Zi) (if x<y+b then 1 else 0))
def PK.entry:PK->Array Value->Sem Value
 | .indexByte=>Extern.BytealgIndexByte.indexByte
 | .add64=>add64Entry
 | .sub64=>GV
 | .count=>Extern.BytealgCount.count
 | .noEsc=>Extern.AbiNoEscape.same
def R5:Option Nat->V
 |some i=>i64 i
 |none=>.int .i64<| -1
def TO:Nat:=18446744073709551616
def PK.run:PK->List V->H->Option (V×H)
 | .indexByte,[.str s,.int .u8 c],h=>some (R5<|s.findIdx? fun x=>x==c.toNat.toUInt8,h)
 | .add64,[.int .u64<|.ofNat x,.int .u64<|.ofNat y,.int .u64<|.ofNat c],h=>
  bif Zn c 1 then some (.tup [.int .u64<|.ofNat<|(x+y+c) % TO,.int .u64<|.ofNat<|(x+y+c)/TO],h)else none
 | .sub64,[.int .u64<|.ofNat x,.int .u64<|.ofNat y,.int .u64<|.ofNat c],h=>
  bif Zn c 1 then some (.tup [.int .u64<|.ofNat<|(x+TO-y-c) % TO,.int .u64<|.ofNat<|bif Zl x (y+c)then 1 else 0],h)else none
 | .count,[.str s,.int .u8 c],h=>some (.int .i64 (s.foldl (fun n x=>bif x==c.toNat.toUInt8 then Zg n 1 else n) 0:Nat),h)
 | .noEsc,[.ptr b o],h=>some (.ptr b o,h)
 |_,_,_=>none
theorem Ig(s:Y)(c:UInt8):((List.range (bytesOf s).size).find? fun i=>(bytesOf s)[i]! ==c)=s.findIdx? fun x=>x==c:=by
 have key:∀(l pre:Y),pre++l=s->((List.range' pre.length l.length).find? fun i=>(bytesOf s)[i]! ==c)=(l.findIdx? fun x=>x==c).map (· +pre.length):=by
  intro l;induction l with
  |nil=>simp
  |cons a l f=>
   intro pre g;have d:(bytesOf s)[pre.length]! =a:=by
    grind [AD,bytesOf,ByteArray.getElem_eq_getElem_data]
   rw[List.length_cons,List.range'_succ,List.find?_cons,d,List.findIdx?_cons];cases e:a==c with
   |true=>simp
   |false=>
    have:=f (pre++[a]) ae;simp only[List.length_append,List.length_singleton]at this;simp only[this,Bool.false_eq_true,wi,Option.map_map];congr 1;grind
 have:=key s [] rfl;simp_all [List.range_eq_range',AD]
theorem Ab.three{p:Pl}{a b c:V}{l:List Value}(h:Ab p [a,b,c] l):∃x y z,l=[x,y,z]/\Aa p a x/\Aa p b y/\Aa p c z:=by
 simp only[Ab]at h;grind
theorem PK.U2{P:Program}{k:PK}{p:Pl}{h:H}{w:World}{args:List V}{args':Array Value}{v:V}{h':H}(g:Ab p args args'.toList)(d:k.run args h=some (v,h')):
  h'=h/\∃v',(k.entry args').run P w=.ok v' w/\Aa p v v':=by
 unfold PK.run at d;split at d
 case h_6=>cases d
 case h_5=>
  cases d;obtain⟨x,i,e⟩:=g.one;have:args'= #[x]:=ae;subst this;exact⟨rfl,x,(by rfl),e⟩
 case h_1=>
  rename_i s c;cases d;obtain⟨x,y,i,e,f⟩:=g.two;have:args'= #[x,y]:=ae;subst this;subst e f;refine⟨rfl,_,run_indexByte_string (bytesOf s) c w,?_⟩;unfold firstIdx;rw[Ig];grind [R5,i64,Aa]
 case h_2=>
  rename_i x y c;rw[show Zn c 1=decide (c<=1)from by rw[Bool.eq_iff_iff];simp]at d;by_cases j:c<=1
  ·simp only[j,decide_true,wb,Zd,Zv]at d;obtain⟨rfl,rfl⟩:=d;obtain⟨x',y',z',i,e,f,h3⟩:=g.three;have:args'= #[x',y',z']:=ae;subst this;subst e f h3;refine⟨rfl,_,run_add64 x y c a8 a8 a8 a8 w,?_⟩;simp_all [Aa,TO]
  grind
 case h_3=>
  rename_i x y c;rw[show Zn c 1=decide (c<=1)from by rw[Bool.eq_iff_iff];simp]at d;by_cases j:c<=1
  ·simp only[j,decide_true,wb,Zd,Zv]at d;obtain⟨rfl,rfl⟩:=d;obtain⟨x',y',z',i,e,f,h3⟩:=g.three;have:args'= #[x',y',z']:=ae;subst this;subst e f h3;have key:(GV #[.int .u64 x,.int .u64 y,.int .u64 c]).run P w=
     .ok (Zq ((x+Zi-y-c) % Zi)<|if x<y+c then 1 else 0) w:=by
    have:c=0\/c=1:=a8
    rcases this with rfl|rfl<;>rfl
   refine⟨rfl,_,key,?_⟩;refine⟨_,rfl,?_⟩;simp only[Ap,Eb,wh,Aa];refine⟨rfl,?_⟩;grind [Dn]
  grind
 case h_4=>
  rename_i s c;cases d;obtain⟨x,y,i,e,f⟩:=g.two;have:args'= #[x,y]:=ae;subst this;subst e f;refine⟨rfl,_,Lib.run_countString (bytesOf s) c w,?_⟩;have key:∀(l:Y) (n:Nat),l.foldl (fun n x=>bif x==c.toNat.toUInt8 then Zg n 1 else n) n=n+Lib.countByte l c.toNat.toUInt8:=by
   intro l;induction l with
   |nil=>grind [Lib.countByte]
   |cons x l m=>
    intro n;rw[List.foldl_cons,m];unfold Lib.countByte;grind
  simp_all [Aa,bytesOf]
def JJ(L:List (FuncId×PK))(f:FuncId):Option (List V->H->Option (V×H)):=
 match L with
 |[]=>none
 |(g,k)::L=>bif Za g f then some k.run else JJ L f
structure FD(P:Program)(x:FuncId×PK):Prop where
 ok : ∃ fn, P.funcs[x.1]? = some fn /\ (fn.name == "runtime.NumGoroutine") = false /\ fn.body.isNone = true /\ Extern.findNext fn = none /\ Extern.find fn = some x.2.entry
theorem Mv{P:Program}:∀ {L:List (FuncId×PK)},(∀x∈L,FD P x)->∀f q,JJ L f=some q->∀(p:Pl) (h:H) (w:World) (args:List V) (args':Array Value) v h',R p h w->Ab p args args'.toList->q args h=some (v,h')->
  ∃v' p' w',(callFunc f args').run P w=.ok (.value v') w'/\Aa p' v v'/\Ext p h w p' h' w'
 |[],_,f,q,c,_,_,_,_,_,_,_,_,_,_=>by cases c
 |(g,k)::L,l,f,q,c,p,h,w,args,args',v,h',j,i,d=>by
  unfold JJ at c;rw[Al]at c;by_cases e:g=f
  ·subst e;simp only[decide_true,wb,Zd]at c;subst c;obtain⟨fn,r,m,s,t,o⟩:=(l (g,k)<|by simp).ok;obtain⟨rfl,v',g1,g2⟩:=PK.U2 (P:=P) (w:=w) i d;refine⟨v',p,w,?_,g2,Zr j⟩;simp_all [run_callFunc_extern]
  ·simp only[e,decide_false,wc]at c;exact Mv ae f q c p h w args args' v h' j i d
def TE:Option (List<|V×H)->Option V
 |some [(v,_)]=>some v
 |_=>none
def MG(C:Ctx)(n:Nat)(f:FuncId)(args:List V)(v:V):Bool:=match TE (Aj C n (.fn f args) hG)with
 |some x=>V.beq x v
 |none=>false
theorem LV{C C':Ctx}{P:Program}(J:C.Ok P)(t:CZ C)(B:P.follows .mixedOrders=true){n:Nat}{f:FuncId}{args:List V}{v:V}
  (j:MG C n f args v=true) (K:V.Dy args=true) (A:v.flat=true) {p:Pl} {h:H} {w:World} {args':Array Value} (g:R p h w) (s:Gl C' p) (D:Gh h) (c:Ab p args args'.toList):
  Calls P f args' w fun e w'=>∃v' p',e=.returned v'/\Aa p' v v'/\Ext p h w p' h w':=by
 unfold MG at j;split at j
 case h_2=>cases j
 rename_i x q;have z:x=v:=V.beq_eq j;subst z;unfold TE at q;split at q
 case h_2=>cases q
 rename_i l S E;cases q;refine((Dv J t B n).fn f args hG _ E _ w args' (Si g s D) s.take<|V.Ed K c).mono ?_;rintro e w' ⟨u,h',v',p',i,rfl,I,d⟩;cases Ze.1 i;have L:∀r,r<w.heap.size->w'.heap[r]?=w.heap[r]?:=fun r g=>d.CG s.take r g
 refine⟨v',p,rfl,V.A8 A I,⟨(by simp),⟨g.len,fun b o G=>?_,g.inj⟩,d.size,ae,ae,d.os,d.out,d.tape,ae,d.dr⟩⟩;obtain⟨r,m,y,N,M,O⟩:=g.obj b o G;grind
def QT(h:H):List (Nat×O)->Bool
 |[]=>true
 |(i,o)::l=>IB (h.get i) (some o)&&QT h l
theorem M0{h:H}:∀ {l:List (Nat×O)},QT h l=true->∀x∈l,h.get x.1=some x.2
 |[],_,x,c=>by cases c
 |(i,o)::l,d,x,c=>by
  simp only[QT,Zb]at d;rcases Zw.1 c with rfl|c
  ·cases e:h.get i with
   |none=>grind [IB]
   |some q=>grind [ML,IB]
  ·exact M0 d.2 x c
def Uo:List (Nat×O)->Bool
 |[]=>true
 |(_,o)::l=>IB (some o) (some o)&&Uo l
theorem NS:Uo CG=true:=by rfl
theorem Sw{h:H}(c:Gh h):QT h CG=true:=by
 have key:∀l:List (Nat×O),(∀x∈l,h.get x.1=some x.2)->Uo l=true->QT h l=true:=by
  intro l;induction l with
  |nil=>exact fun _ _=>rfl
  |cons x l e=>
   intro d f;simp_all [Uo,QT]
 exact key CG c NS
abbrev G6:=List<|FuncId×List V×V
def DW:G6->FuncId->List V->Option V
 |[],_,_=>none
 |(g,a,v)::l,f,args=>bif Za g f&&V.E7 a args then some v else DW l f args
def JK:G6->FuncId->Bool
 |[],_=>false
 |(g,_,_)::l,f=>bif Za g f then true else JK l f
def ED(L:G6)(f:FuncId):Option (List V->H->Option (V×H)):=
 bif JK L f then some (fun args h=>bif QT h CG then(match DW L f args with|some v=>some (v,h)|none=>none)else none)else none
def CB(C:Ctx)(n:Nat):G6->Bool
 |[]=>true
 |(f,a,v)::l=>MG C n f a v&&V.Dy a&&v.flat&&CB C n l
theorem Nf{L:G6}{f:FuncId}{args:List V}{v:V}(h:DW L f args=some v){C:Ctx}{n:Nat}(c:CB C n L=true):MG C n f args v=true/\V.Dy args=true/\v.flat=true:=by
 induction L with
 |nil=>cases h
 |cons x l e=>
  obtain⟨g,a,u⟩:=x;simp only[CB,Zb]at c;unfold DW at h;cases d:(Za g f&&V.E7 a args)with
  |false=>grind
  |true=>
   grind [Zc,V.Df]
theorem RM{C C':Ctx}{P:Program}(t:C.Ok P)(i:CZ C)(m:P.follows .mixedOrders=true){n:Nat}{L:G6}(z:CB C n L=true):
  ∀f q,ED L f=some q->∀(p:Pl) (h:H) (w:World) (args:List V) (args':Array Value) v h',R p h w->Gl C' p->Ab p args args'.toList->q args h=some (v,h')->
  Calls P f args' w fun e w'=>∃v' p',e=.returned v'/\Aa p' v v'/\Ext p h w p' h' w':=by
 intro f q j p h w args args' v h' A l d c;unfold ED at j;cases r:JK L f with
 |false=>grind
 |true=>
  rw[r]at j;cases j;simp only at c;cases g:QT h CG with
  |false=>grind
  |true=>
  rw[g]at c;split at c
  case h_2=>cases c
  rename_i u y;cases c;obtain⟨s,o,x⟩:=Nf y z;exact LV (C':=C') t i m s o x A l (M0 g) d
section
def Il(P:Program):Nat->Nat->Bool
 |0,_=>true
 |n+1,a=>(match Ii P (fun _=>true) a with|some i=>Bm i.body|none=>true)&&Il P n (a+1)
variable {P:Program}
theorem Ir{ct:FuncId->Bool}{f:FuncId}{i:Fn}(c:Ii P ct f=some i):Ii P (fun _=>true) f=some { i with cert:=true }/\i.cert=ct f:=by
 unfold Ii at c ⊢;cases d:P.funcs[f]? with
 |none=>grind
 |some fn=>
  grind
theorem ET{f:Nat}{i:Fn}{ct:FuncId->Bool}(c:Ii P ct f=some i):∀ {n a:Nat},Il P n a=true->a<=f->f<a+n->Bm i.body=true
 |0,a,_,d,g=>by omega
 |n+1,a,h,d,g=>by
  simp only[Il,Zb]at h;by_cases e:a=f
  ·subst e;rw[(Ir c).1]at h;exact h.1
  ·exact ET c h.2 a8 a8
def UK(P:Program)(N:Nat)(L:List (FuncId×PK)):Ctx:=⟨R0 P,0,Ii P<|fun f=>Zl f N,JJ L,fun _=>none,true⟩
theorem NN{N:Nat}{L:List (FuncId×PK)}(h:∀f i,f<N->Ii P (fun f=>Zl f N) f=some i->Bm i.body=true):CZ (UK P N L):=by
 intro f i c d;have c:Ii P (fun f=>Zl f N) f=some i:=c;rw[(Ir c).2]at d;exact h f i (Nat.le_of_ble_eq_true d) c
theorem SN{N:Nat}{L:List (FuncId×PK)}(d:∀x∈L,FD P x):(UK P N L).Ok P where
 T:=SU P
 fn:=fun _ _ h=>QC (P:=P) (ct:=fun f=>Zl f N) h
 prim:=fun f q c p h w args args' v h' i _ g e=>Mv d f q c p h w args args' v h' i g e
 spec:=fun f q c=>by cases c
end
end Go.Det
namespace Go.Pe
open Go.Det
inductive Sh where
 |int (k:IntKind)
 |bool
 |str
 |list (s:Sh)
 |pair (a b:Sh)
 |unit
 |nlist (s:Sh)
 |fnv
 |ptr (s:Sh)
 deriving DecidableEq
@[reducible] def Sh.T:Sh->Type
 | .int _=>Int
 | .bool=>Bool
 | .str=>Y
 | .list s=>List s.T
 | .pair a b=>a.T×b.T
 | .unit=>Unit
 | .nlist s=>List s.T
 | .fnv=>Option Fn
 | .ptr s=>s.T
def Sh.C2:(s:Sh)->s.T
 | .int _=>(0:Int)
 | .bool=>false
 | .str=>([]:Y)
 | .list _=>[]
 | .pair a b=>(a.C2,b.C2)
 | .unit=>()
 | .nlist _=>[]
 | .fnv=>none
 | .ptr s=>s.C2
def Sh.sz:Sh->Nat
 | .pair a b=>Zg a.sz b.sz
 | .unit=>0
 |_=>1
inductive PV where
 |any
 |bl (b:Bool)
 |ub
 |dat (s:Sh) (x:s.T)
 |nil|nilp|nilm|nilf|nili
 |agg (l:List PV)
 |tup (l:List PV)
 |ptr (id off:Nat)
 |eptr (id sz i off:Nat)
 |BN (s:Sh) (x:s.T) (off:Nat)
 |sl (id sz off len:Nat) (cap:Option Nat)
 |mp (id:Nat)
 |fn (f:Fn) (first captured:List PV)
 |yl (id:Nat)
inductive RW where
 |ready|busy|ret
 |exit (i:Nat)
inductive Obj where
 |arr (fz:Bool) (e:TypeId) (s:Sh) (l:List s.T)
 |box (cs:List PV)
 |tbox (t:TypeId) (cs:List PV)
 |map (ks vs:Sh) (l:List (ks.T×vs.T))
 |siter (s:Y) (pos:Nat)
 |lp (f:FuncId) (r:Nat) (ps:Array Tmp) (asg body:Code) (s:RW) (n:Nat) (sl:List (Nat×PV))
abbrev Ob:=List<|Nat×Obj
def Af:Ob->Nat->Option Obj
 |[],_=>none
 |(i,o)::l,j=>bif Za i j then some o else Af l j
def Bz:Ob->Nat->Obj->Ob
 |[],_,_=>[]
 |(i,o)::l,j,x=>bif Za i j then(i,x)::l else(i,o)::Bz l j x
def Cw:Ob->Nat->Ob
 |[],_=>[]
 |(i,o)::l,j=>bif Za i j then Cw l j else(i,o)::Cw l j
structure Ae where
 n:Nat
 fr:PM PV
 ob:Ob
 nx:Nat
def Ae.get(st:Ae)(t:Nat):PV:=(st.fr.get t).getD .any
def Ae.obj(st:Ae)(id:Nat):Option Obj:=Af st.ob id
def Ae.set(st:Ae)(t:Nat)(v:PV):Ae:=⟨st.n,st.fr.set t<|some v,st.ob,st.nx⟩
def Ae.setObj(st:Ae)(id:Nat)(o:Obj):Ae:=⟨st.n,st.fr,Bz st.ob id o,st.nx⟩
def Ae.Cm(st:Ae)(id:Nat):Ae:=⟨st.n,st.fr,Cw st.ob id,st.nx⟩
def Ae.push(st:Ae)(o:Obj):Ae:=⟨st.n,st.fr,(st.nx,o)::st.ob,Zg st.nx 1⟩
def Ae.put(st:Ae)(d:Option Nat)(v:PV):Option Ae:=
 match d with
 |none=>some st
 |some t=>bif Zl t st.n then some (st.set t v)else none
def BW(vs:List (Nat×PV)):PM PV:=vs.foldl (fun m x=>m.set x.1<|some x.2) .leaf
def flat:(s:Sh)->s.T->List PV
 | .pair a b,(x,y)=>flat a x++flat b y
 | .unit,_=>[]
 | .fnv,x=>[match (x:Option Fn)with|some f=>.fn f [] []|none=>.nilf]
 | .ptr s,x=>[.BN s x 0]
 |s,x=>[.dat s x]
def B5(s c:Sh)(x:s.T):Option c.T:=if h:s=c then some (h▸x)else none
def UQ(c:Sh)(x:c.T):(s:Sh)->Option s.T
 | .ptr s=>B5 c s x
 |_=>none
def RT(s:Sh)(v:PV):Option s.T:=
 match v with
 | .BN c x 0=>UQ c x s
 | .dat c x=>B5 c s x
 | .bl b=>B5 .bool s b
 | .fn f [] []=>B5 .fnv s<|some f
 | .nilf=>B5 .fnv s none
 | .nil=>match s with
  | .list _=>some []
  | .nlist _=>some []
  |_=>none
 |_=>none
def AX:(s:Sh)->List PV->Option (s.T×List PV)
 | .pair a b,l=>match AX a l with
  |some (x,d)=>match AX b d with
   |some (y,c)=>some ((x,y),c)
   |none=>none
  |none=>none
 | .unit,l=>some ((),l)
 |s,v::l=>match RT s v with
  |some x=>some (x,l)
  |none=>none
 |_,[]=>none
def BI(s:Sh)(l:List PV):Option s.T:=
 match AX s l with
 |some (x,[])=>some x
 |_=>none
def PV.cells:PV->List PV
 | .agg cs=>cs
 |v=>[v]
def Mz(ty:TypeId->Option Sh):List Field->Option Sh
 |[]=>none
 |[x]=>ty x.type
 |x::c=>match ty x.type,Mz ty c with
  |some a,some b=>some<|.pair a b
  |_,_=>none
def U4:Option Sh->Option Sh
 |some (.list<|.int .u64)=>some<|.nlist<|.int .u64
 |s=>s
def lz:PV->PV
 | .dat (.nlist s) x=>.dat (.list s) x
 |v=>v
def Sh.leaves:Sh->List Sh
 | .pair a b=>a.leaves++b.leaves
 | .unit=>[]
 |s=>[s]
def Kn:Sh->PV->Bool×PV
 | .nlist s,.dat (.list c) x=>bif s==c then(decide (0<x.length),.dat (.nlist c) x)else(true,.dat (.list c) x)
 | .list s,.dat (.nlist c) x=>bif s==c then(true,.dat (.list c) x)else(true,.dat (.nlist c) x)
 |_,v=>(true,v)
def Fc:List Sh->List PV->Bool×List PV
 |s::l,v::vs=>((Kn s v).1&&(Fc l vs).1,(Kn s v).2::(Fc l vs).2)
 |_,vs=>(true,vs)
def Lc(T:AF):Nat->TypeId->Option Sh
 |0,_=>none
 |f+1,t=>match T.und t with
  |some (.int k)=>some<|.int k
  |some .bool=>some .bool
  |some .string=>some .str
  |some (.slice e)=>(Lc T f e).map .list
  |some (.func _ _ _)=>some .fnv
  |some (.struct fs)=>Mz (fun x=>U4<|Lc T f x) fs.toList
  |_=>none
def Sh.QN:Sh->Bool
 | .pair a b=>a.QN||b.QN
 | .fnv=>true
 |_=>false
def AO:(s:Sh)->s.T->PV
 | .pair a b,x=>.agg<|flat (.pair a b) x
 | .unit,_=>.agg []
 | .fnv,x=>match (x:Option Fn)with|some f=>.fn f [] []|none=>.nilf
 | .ptr s,x=>.BN s x 0
 |s,x=>.dat s x
def Sh.Gs:Sh->Bool
 | .pair _ _| .unit=>true
 |_=>false
def R9:(s:Sh)->s.T->s.T->Bool
 | .int _,a,b=>(a:Int)==b
 | .bool,a,b=>(a:Bool)==b
 | .str,a,b=>(a:Y)==b
 |_,_,_=>false
def Gk(s v:Sh)(k:s.T):List (s.T×v.T)->Option v.T
 |[]=>none
 |(a,b)::l=>bif R9 s k a then some b else Gk s v k l
def Jq(s v:Sh)(k:s.T)(x:v.T):List (s.T×v.T)->List (s.T×v.T)
 |[]=>[(k,x)]
 |(a,b)::l=>bif R9 s k a then(k,x)::l else(a,b)::Jq s v k x l
def JG(s v:Sh)(k:s.T):List (s.T×v.T)->List (s.T×v.T)
 |[]=>[]
 |(a,b)::l=>bif R9 s k a then l else(a,b)::JG s v k l
inductive Tr where
 |fail
 |leaf (v:PV) (ob:Ob)
 |ite (c:Bool) (a b:Tr)
 |both (a b:Tr)
 |cut (nd ro:Bool) (d:Nat) (f:FuncId) (base:Nat) (b:Code) (st:Ae) (k:DX->Ae->Tr)
 |alts (m:Nat) (f:Nat->Tr)
 |loop (nd ro:Bool) (d:Nat) (f:FuncId) (base:Nat) (b:Code) (st:Ae) (k:DX->Ae->Tr)
abbrev Tr.ck(c:Bool)(x:Tr):Tr:=.ite c x .fail
abbrev Tr.cd(P:Prop)[Decidable P](x:Tr):Tr:=.ite (decide P) x .fail
abbrev a6(k:Nat):Bool:=decide (1<=1)&&decide (0<1)&&decide ((3*1+2000)*k<=562949953421312)
abbrev a7(n m k:Nat):Bool:=decide (1<=1)&&true&&decide (n=m)&&decide ((3*(n+1)+2000)*k<=562949953421312)
abbrev Tr.di(P:Prop)[Decidable P](x y:Tr):Tr:=.ite (decide P) x y
inductive PO where
 |bad
 |val (v:PV) (st:Ae)
 |ite (c:Bool) (a b:PO)
def PO.DU(c:Bool)(v:PV)(st:Ae):PO:=.ite c (.val v st) .bad
mutual
def Gm:Value->Option PV
 | .bool b=>some<|.bl b
 | .int k n=>some<|.dat (.int k) n
 | .string s=>some<|.dat .str s.data.toList
 | .pointer none=>some .nilp
 | .slice none 0 0=>some .nil
 | .map none=>some .nilm
 | .nilFunc=>some .nilf
 | .nilIface=>some .nili
 | .func f ⟨[]⟩ ⟨[]⟩=>some<|.fn f [] []
 | .agg ⟨cs⟩=>(Nh cs).map .agg
 | .tuple ⟨cs⟩=>(Nh cs).map .tup
 |_=>none
def Nh:List Value->Option (List PV)
 |[]=>some []
 |v::vs=>match Gm v,Nh vs with
  |some x,some c=>some (x::c)
  |_,_=>none
end
def Mj:V->PV
 | .bool b=>.bl b
 | .int k n=>.dat (.int k) n
 | .str s=>.dat .str s
 | .nilp=>.nilp
 | .nils=>.nil
 | .nilm=>.nilm
 | .nilf=>.nilf
 | .nili=>.nili
 |_=>.any
def H6(st:Ae):Operand->Option PV
 | .tmp t=>some<|st.get t
 | .const v=>Gm v
 | .global _=>none
 | .func f=>some<|.fn (.func f) [] []
def Fx(st:Ae):List Operand->Option (List PV)
 |[]=>some []
 |x::c=>match H6 st x,Fx st c with
  |some v,some vs=>some (v::vs)
  |_,_=>none
def ND(st:Ae):List (Nat×Operand)->Option (List<|Nat×PV)
 |[]=>some []
 |(i,x)::c=>match H6 st x,ND st c with
  |some v,some vs=>some ((i,v)::vs)
  |_,_=>none
def OZ(T:AF)(t:TypeId):Option (List PV):=(T.inf t).bind fun i=>bif E0 V.ok i.zero then some (i.zero.map Mj)else none
def pick(d:TypeDesc)(n:Nat)(cs:List PV):Option PV:=
 bif BC d then(bif Zn n (B1 cs)&&Zl 0 n then some (.agg<|KH n cs)else none)
 else match cs with
  |v::_=>some v
  |[]=>none
def ov(st:Ae):Option PV->PO
 |some v=>.val v st
 |none=>.bad
def Tt(c:Bool)(st:Ae):Option PV->PO
 |some v=>.DU c v st
 |none=>.bad
def chunk(s:Sh):Nat->List PV->Option (List s.T)
 |0,_=>some []
 |n+1,cs=>match AX s cs with
  |some (x,cs')=>(chunk s n cs').map (x:: ·)
  |none=>none
def GG(s:Sh)(l:List s.T):Nat->Nat->List PV
 |_,0=>[]
 |j,n+1=>flat s (l.getD j s.C2)++GG s l (Zg j 1) n
def US:List V->Option Sh
 | .bool _::_=>some .bool
 | .int k _::_=>some<|.int k
 |_=>none
def Tq:Sh->V->Bool
 | .bool,.bool b=> !b
 | .int k,.int c n=>decide (k=c)&&decide (n=0)
 |_,_=>false
def Su(T:AF)(t:TypeId):Option (Sh×Nat):=
 match T.und t,T.inf t with
 |some (.array _ _),some i=>match US i.zero with
  |some s=>bif Zn 32 (B1 i.zero)&&E0 (Tq s) i.zero then some (s,B1 i.zero)else none
  |none=>none
 |_,_=>none
def F8(T:AF)(st:Ae)(t:TypeId)(a:PV):PO:=
 match T.und t,T.inf t with
 |some d,some i=>match a with
  | .ptr id off=>match st.obj id with
   |some (.box cs)=>ov st<|pick d i.size<|DJ off cs
   |some (.arr _ _ s l)=>bif Za off 0&&Za s.sz 1 then Tt (decide (l.length=i.size)) st (pick d i.size<|GG s l 0 i.size)else .bad
   |some (.tbox _ cs)=>ov st<|pick d i.size<|DJ off cs
   |_=>.bad
  | .eptr id sz j off=>match st.obj id with
   |some (.arr _ _ s l)=>bif Za sz s.sz then Tt (decide (j<l.length)) st (pick d i.size<|DJ off<|flat s<|l.getD j s.C2)else .bad
   |_=>.bad
  | .BN s x off=>ov st<|pick d i.size<|DJ off<|flat s x
  |_=>.bad
 |_,_=>.bad
def Ds:Option Obj->Bool
 |some _=>true
 |none=>false
def EJ(st:Ae):PV->Bool
 | .agg _| .tup _| .any| .ub=>false
 | .ptr id _| .eptr id _ _ _| .sl id _ _ _ _| .mp id| .yl id=>Ds<|st.obj id
 |_=>true
def Ti(st:Ae):PV->Option (List PV)
 | .agg l=>some l
 |p=>bif EJ st p then some [p]else none
def K1(T:AF)(st:Ae)(t:TypeId)(a x:PV):PO:=
 match T.inf t,Ti st x with
 |some i,some c=>bif Za (B1 c) i.size&&E0 (EJ st) c then
   match a with
   | .ptr id off=>match st.obj id with
    |some (.box cs)=>bif Zn (Zg off i.size) (B1 cs)then .val (.tup []) (st.setObj id<|.box<|AR off c cs)else .bad
    |some (.arr false e s l)=>bif Za off 0&&Za s.sz 1 then
      match chunk s i.size c with
      |some y=>.DU (decide (l.length=i.size)) (.tup [])<|st.setObj id<|.arr false e s y
      |none=>.bad
     else .bad
    |some (.tbox tb cs)=>bif Zn (Zg off i.size) (B1 cs)then .val (.tup []) (st.setObj id<|.tbox tb<|AR off c cs)else .bad
    |_=>.bad
   | .eptr id sz j off=>match st.obj id with
    |some (.arr false e s l)=>bif Za sz s.sz&&Zn (Zg off i.size) sz then
      match BI s (AR off c<|flat s<|l.getD j s.C2)with
      |some y=>.DU (decide (j<l.length)) (.tup [])<|st.setObj id<|.arr false e s<|l.set j y
      |none=>.bad
     else .bad
    |_=>.bad
   |_=>.bad
  else .bad
 |_,_=>.bad
def UC(k:IntKind)(a b:Int):Int:=k.wrap (Zj k.bits a&&&Zj k.bits b).toNat
def UY(k:IntKind)(a b:Int):Int:=k.wrap (Zj k.bits a|||Zj k.bits b).toNat
def UI(k:IntKind)(a b:Int):Int:=k.wrap (Zj k.bits a^^^Zj k.bits b).toNat
def Ue(k:IntKind)(a b:Int):Int:=k.wrap (Zj k.bits a&&& ~~~Zj k.bits b).toNat
def SB(op:BinOp)(k:IntKind)(a b:Int)(st:Ae):PO:=
 match op with
 | .add=>.val (.dat (.int k)<|k.wrap<|a+b) st
 | .sub=>.val (.dat (.int k)<|k.wrap<|a-b) st
 | .mul=>.val (.dat (.int k)<|k.wrap<|a*b) st
 | .quo=>.DU (decide (b≠0)) (.dat (.int k)<|k.wrap<|a.tdiv b) st
 | .rem=>.DU (decide (b≠0)) (.dat (.int k)<|a.tmod b) st
 | .and=>.val (.dat (.int k)<|UC k a b) st
 | .or=>.val (.dat (.int k)<|UY k a b) st
 | .xor=>.val (.dat (.int k)<|UI k a b) st
 | .andNot=>.val (.dat (.int k)<|Ue k a b) st
 | .eql=>.val (.dat .bool<|a==b) st
 | .neq=>.val (.dat .bool<|a !=b) st
 | .lss=>.val (.dat .bool<|decide (a<b)) st
 | .leq=>.val (.dat .bool<|decide (a<=b)) st
 | .gtr=>.val (.dat .bool<|decide (a>b)) st
 | .geq=>.val (.dat .bool<|decide (a>=b)) st
 |_=>.bad
def UM(op:BinOp)(k:IntKind)(a b:Int)(st:Ae):PO:=
 match op with
 | .shl=>.DU (decide (0<=b)) (.dat (.int k)<|k.wrap<|a*2^(min b.toNat k.bits)) st
 | .shr=>.DU (decide (0<=b)) (.dat (.int k)<|a.fdiv<|2^(min b.toNat k.bits)) st
 |_=>.bad
def Sm(op:BinOp)(x y:Y)(st:Ae):PO:=
 match op with
 | .add=>.DU (decide (x.length+y.length<=4611686018427387904)) (.dat .str<|x++y) st
 | .eql=>.val (.dat .bool<|x==y) st
 | .neq=>.val (.dat .bool<|!(x==y)) st
 | .lss=>.val (.dat .bool<|Zt x y) st
 | .leq=>.val (.dat .bool<|Zt x y||x==y) st
 | .gtr=>.val (.dat .bool<|!(Zt x y||x==y)) st
 | .geq=>.val (.dat .bool<|!Zt x y) st
 |_=>.bad
def RC:BinOp->Bool
 | .shl| .shr=>true
 |_=>false
def Eg:PV->Option Bool
 | .bl b=>some b
 | .dat .bool b=>some b
 |_=>none
def CR:List FK->List PV->List PV->Option Bool
 |[],[],[]=>some true
 | .int k::ks,.dat (.int f) a::d,.dat (.int e) b::c=>bif k==f&&k==e then(CR ks d c).map fun r=>(a:Int)==(b:Int)&&r else none
 | .str::ks,.dat .str a::d,.dat .str b::c=>(CR ks d c).map fun r=>(a:Y)==(b:Y)&&r
 | .bool::ks,a::d,b::c=>match Eg a,Eg b with
  |some a,some b=>(CR ks d c).map fun r=>a==b&&r
  |_,_=>none
 |_,_,_=>none
def I2(st:Ae)(ng:Bool)(x:PV):PO:=
 match x with
 | .nil=>.val (.bl<|!ng) st
 | .sl id _ _ _ _=>bif Ds (st.obj id)then .val (.bl ng) st else .bad
 | .dat (.list _) l=>.ite (decide (0<l.length)) (.val (.bl ng) st)<|.val .ub st
 | .dat (.nlist _) l=>.val (.dat .bool<|bif ng then decide (0<l.length)else !decide (0<l.length)) st
 |_=>.bad
def OQ(op:BinOp)(x y:PV)(st:Ae):PO:=
 match op,x,y with
 | .eql,x,.nil=>I2 st false x
 | .neq,x,.nil=>I2 st true x
 |_,_,_=>.bad
def ptrEq(T:AF)(e:TypeId)(st:Ae)(x y:PV):Option Bool:=
 match x,y with
 | .nilp,.nilp=>some true
 | .ptr id _,.nilp=>bif Ds (st.obj id)then some false else none
 | .nilp,.ptr id _=>bif Ds (st.obj id)then some false else none
 | .ptr a i,.ptr b j=>bif Za a b&&Ds (st.obj a)then match T.inf e with
   |some c=>bif Zl 0 c.size then some (Za i j)else none
   |none=>none
  else none
 |_,_=>none
def Ta(T:AF)(op:BinOp)(t:TypeId)(x y:PV)(st:Ae):PO:=
 match x,y with
 | .dat (.int k) a,.dat (.int d) b=>bif RC op then UM op k a b st else(bif k==d then SB op k a b st else .bad)
 | .dat .str a,.dat .str b=>Sm op a b st
 | .agg c,.agg f=>match T.flat t with
  |some ks=>match op,CR ks c f with
   | .eql,some r=>.val (.dat .bool r) st
   | .neq,some r=>.val (.dat .bool<|!r) st
   |_,_=>.bad
  |none=>.bad
 |x,y=>match Eg x,Eg y,T.und t with
  |some a,some b,some .bool=>match op with
   | .eql=>.val (.dat .bool<|a==b) st
   | .neq=>.val (.dat .bool<|!(a==b)) st
   |_=>.bad
  |_,_,some (.slice _)=>OQ op x y st
  |_,_,some (.pointer e)=>match op,ptrEq T e st x y with
   | .eql,some r=>.val (.bl r) st
   | .neq,some r=>.val (.bl<|!r) st
   |_,_=>.bad
  |_,_,_=>.bad
def UN(op:UnOp)(x:PV)(st:Ae):PO:=
 match op,x with
 | .neg,.dat (.int k) n=>.val (.dat (.int k)<|k.wrap<|0-(n:Int)) st
 | .not,.bl b=>.val (.bl<|!b) st
 | .not,.ub=>.val .ub st
 | .not,.dat .bool b=>.val (.dat .bool<|!b) st
 |_,_=>.bad
def OD(T:AF)(s d:TypeId)(x:PV)(st:Ae):PO:=
 match T.und s,T.und d,x with
 |some _,some<|.int k,.dat (.int _) n=>.val (.dat (.int k)<|k.wrap n) st
 |some .string,some .string,.dat .str s=>.val (.dat .str s) st
 |_,_,_=>.bad
def PE(c a b:PV)(st:Ae):PO:=
 match c with
 | .bl t=>.val (bif t then a else b) st
 | .dat .bool t=>match a,b with
  | .dat .bool x,.bl false=>.val (.dat .bool<|t&&x) st
  | .bl true,.dat .bool x=>.val (.dat .bool<|t||x) st
  |_,_=>.ite t (.val a st)<|.val b st
 |_=>.bad
def LY(T:AF)(t:TypeId)(x:PV)(f:Nat)(st:Ae):PO:=
 match T.und t,x with
 |some (.struct fs),.agg cs=>match fs[f]? with
  |some c=>match T.und c.type,T.inf c.type with
   |some d,some i=>ov st<|pick d i.size<|DJ c.offset cs
   |_,_=>.bad
  |none=>.bad
 |_,_=>.bad
def Mk(T:AF)(t:TypeId)(x:PV)(f:Nat)(st:Ae):PO:=
 match T.und t with
 |some (.struct fs)=>match fs[f]? with
  |some c=>match T.inf c.type with
   |some i=>bif Za i.size 0 then .bad else match x with
    | .ptr id off=>bif Ds (st.obj id)then .val (.ptr id<|Zg off c.offset) st else .bad
    | .eptr id sz j off=>bif Ds (st.obj id)then .val (.eptr id sz j<|Zg off c.offset) st else .bad
    | .BN s y off=>.val (.BN s y<|Zg off c.offset) st
    |_=>.bad
   |none=>.bad
  |none=>.bad
 |_=>.bad
def Jh(T:AF)(t:TypeId)(x d:PV)(st:Ae):PO:=
 match T.und t,d with
 |some (.slice e),.dat (.int _) i=>match T.inf e with
  |some c=>match x with
   | .dat (.list s) l=>bif Za c.size s.sz then .DU (decide (0<=(i:Int))&&decide ((i:Int)<(l.length:Int))) (.BN s (l.getD (Zf i) s.C2) 0) st else .bad
   | .sl id sz off len _=>bif Za c.size sz&&Ds (st.obj id)then .DU (decide (0<=(i:Int))&&decide ((i:Int)<(len:Int))) (.eptr id sz (Zg (Zf i) off) 0) st else .bad
   |_=>.bad
  |none=>.bad
 |some (.array len e),.dat (.int _) i=>match T.inf e with
  |some c=>match x with
   | .ptr id off=>match st.obj id with
    |some (.arr _ _ s _)=>bif Za off 0&&Za c.size s.sz then .DU (decide (0<=(i:Int))&&decide ((i:Int)<(len:Int))) (.eptr id s.sz (Zf i) 0) st else .bad
    |some _=>.DU (decide (0<=(i:Int))&&decide ((i:Int)<(len:Int))) (.ptr id<|Zg off<|Zz (Zf i) c.size) st
    |none=>.bad
   | .eptr id sz j off=>bif Ds (st.obj id)then .DU (decide (0<=(i:Int))&&decide ((i:Int)<(len:Int))) (.eptr id sz j<|Zg off<|Zz (Zf i) c.size) st else .bad
   | .BN s y off=>.DU (decide (0<=(i:Int))&&decide ((i:Int)<(len:Int))) (.BN s y<|Zg off<|Zz (Zf i) c.size) st
   |_=>.bad
  |none=>.bad
 |_,_=>.bad
def Ql(T:AF)(t:TypeId)(x c:PV)(st:Ae):PO:=Jh T t (lz x) c st
def LR(T:AF)(t:TypeId)(x f:PV)(st:Ae):PO:=
 match T.und t,x,f with
 |some .string,.dat .str s,.dat (.int _) i=>.DU (decide (0<=(i:Int))&&decide ((i:Int)<((s:Y).length:Int))) (.dat (.int .u8) (((s:Y).getD (Zf i) 0).toNat:Int)) st
 |some (.array len e),.agg cs,.dat (.int _) i=>match T.und e,T.inf e with
  |some d,some c=>Tt (decide (0<=(i:Int))&&decide ((i:Int)<(len:Int))) st<|pick d c.size<|DJ (Zz (Zf i) c.size) cs
  |_,_=>.bad
 |_,_,_=>.bad
def Hd(x:PV)(i:Nat)(st:Ae):PO:=
 match x with
 | .tup vs=>match vs[i]? with
  |some v=>.val v st
  |none=>.bad
 |_=>.bad
def pb(x:Option PV)(C2:Nat):Option (Bool×Nat):=
 match x with
 |none=>some (true,C2)
 |some (.dat (.int _) n)=>some (decide (0<=(n:Int)),Zf n)
 |_=>none
def has(mx:Option PV)(c:Nat):Bool:=match mx with
 |none=>true
 |some _=>decide (0<c)
def JH(T:AF)(t:TypeId)(x:PV)(f d mx:Option PV)(st:Ae):PO:=
 match T.und t with
 |some .string=>match x,mx with
  | .dat .str s,none=>match pb f 0,pb d (s:Y).length with
   |some (c1,l),some (c,h)=>.DU (c1&&c&&decide (l<=h)&&decide (h<=(s:Y).length)) (.dat .str<|((s:Y).drop l).take<|Nat.sub h l) st
   |_,_=>.bad
  |_,_=>.bad
 |some (.slice e)=>match T.inf e with
  |some j=>match x with
   | .dat (.list s) g=>bif Za j.size s.sz then
     match pb f 0,pb d g.length,mx with
     |some (c1,l),some (c,h),none=>.DU (c1&&c&&decide (l<=h)&&decide (h<=g.length)) (.dat (.list s)<|(g.drop l).take<|Nat.sub h l) st
     |_,_,_=>.bad
    else .bad
   | .sl id sz off len cap=>bif Za j.size sz&&Ds (st.obj id)then
     match d,mx with
     |none,some _=>.bad
     |_,_=>match pb f 0,pb d len,pb mx (cap.getD len)with
      |some (c1,l),some (c,h),some (i,m)=>.DU (c1&&c&&i&&decide (l<=h)&&decide (h<=m)&&decide (m<=cap.getD len)&&has mx (cap.getD len)) (.sl id sz (Zg off l) (Nat.sub h l)<|some<|Nat.sub m l) st
      |_,_,_=>.bad
    else .bad
   | .nil=>match pb f 0,pb d 0,mx with
    |some (c1,l),some (c,h),none=>.DU (c1&&c&&decide (l<=h)&&decide (h<=0)) .nil st
    |some (c1,l),some (c,h),some q=>match d,pb (some q) 0 with
     |some _,some (i,m)=>.DU (c1&&c&&i&&decide (l<=h)&&decide (h<=m)&&decide (m<=0)) .nil st
     |_,_=>.bad
    |_,_,_=>.bad
   |_=>.bad
  |none=>.bad
 |_=>.bad
def Pr(T:AF)(t:TypeId)(x:PV)(d c mx:Option PV)(st:Ae):PO:=JH T t (lz x) d c mx st
def pi64(n:Nat):PV:=.dat (.int .i64)<|Int.ofNat n
def Kx(T:AF)(ts:Array TypeId)(args:List PV)(st:Ae):PO:=
 match ts[0]?,args with
 |some t,[x]=>match T.und t,x with
  |some .string,.dat .str s=>.val (pi64 (s:Y).length) st
  |some (.slice _),.dat (.list _) l=>.val (pi64 l.length) st
  |some (.slice _),.sl id _ _ len _=>bif Ds (st.obj id)then .val (pi64 len) st else .bad
  |some (.slice _),.nil=>.val (pi64 0) st
  |some (.map _ _),.mp id=>match st.obj id with
   |some (.map _ _ l)=>.val (pi64 l.length) st
   |_=>.bad
  |_,_=>.bad
 |_,_=>.bad
def QR(T:AF)(ts:Array TypeId)(args:List PV)(st:Ae):PO:=Kx T ts (args.map lz) st
def TX(f:Int->Int->Int)(k:IntKind):Int->List PV->Option Int
 |x,[]=>some x
 |x,.dat (.int c) y::d=>bif k==c then TX f k (f x y) d else none
 |_,_=>none
def Gx(f:Int->Int->Int)(args:List PV)(st:Ae):PO:=
 match args with
 | .dat (.int k) x::c=>match TX f k x c with
  |some z=>.val (.dat (.int k) z) st
  |none=>.bad
 |_=>.bad
def imax(x y:Int):Int:=if y>x then y else x
def Ux(x y:Int):Int:=if y<x then y else x
def Dg(st:Ae)(s:Sh)(x:PV):Option (Bool×List s.T):=
 match x with
 | .nil=>some (true,[])
 | .dat (.list c) l=>(B5 (.list c) (.list s) l).map fun r=>(true,r)
 | .sl id sz off len _=>match st.obj id with
  |some (.arr _ _ c l)=>bif Za sz c.sz then(B5 (.list c) (.list s) l).map fun r=>(decide (off+len<=r.length),(r.drop off).take len)else none
  |_=>none
 | .dat .str l=>(B5 (.list<|.int .u8) (.list s)<|List.map (fun b:UInt8=>(b.toNat:Int)) l).map fun r=>(true,r)
 |_=>none
def G0(st:Ae)(s:Sh)(x:PV):Option (Bool×List s.T):=Dg st s<|lz x
def UZ:Nat:=281474976710656
def PJ:Nat:=562949953421312
def Ja:TypeDesc->Bool
 | .slice _=>true
 | .string=>true
 |_=>false
def Ju(T:AF)(ts:Array TypeId)(args:List PV)(st:Ae):PO:=
 match ts[0]?,ts[1]?,args with
 |some t,some d,[b,x]=>match T.und t,T.und d with
  |some (.slice e),some f=>bif Ja f then match T.inf e,Lc T 9 e with
   |some i,some s=>
    bif Zl 0 i.bytes&&Zl 0 i.size&&Za i.zero.length i.size&&Za i.size s.sz then
     match G0 st s x with
     |some (c,new)=>match b with
      | .nil=>match x with
       | .nil=>.val .nil st
       | .dat _ _=>.ite (decide (0<new.length)) (.DU (c&&decide ((3*new.length+2000)*i.bytes<=PJ)) (.sl st.nx s.sz 0 new.length none)<|st.push<|.arr false e s new)<|.val .nil st
       | .sl _ _ _ _ (some _)=>.ite (decide (0<new.length)) (.DU (c&&decide ((3*new.length+2000)*i.bytes<=PJ)) (.sl st.nx s.sz 0 new.length none)<|st.push<|.arr false e s new)<|.DU c .nil st
       |_=>.DU (c&&decide (0<new.length)&&decide ((3*new.length+2000)*i.bytes<=PJ)) (.sl st.nx s.sz 0 new.length none)<|st.push<|.arr false e s new
      | .sl id sz off len cap=>match st.obj id with
       |some (.arr false g j l)=>match B5 (.list j) (.list s) l with
        |some l'=>bif Za e g&&Za sz s.sz then
          match cap with
          |none=>.DU (c&&decide (off=0)&&decide (len=l'.length)&&decide ((3*(len+new.length)+2000)*i.bytes<=PJ)) (.sl st.nx s.sz 0 (Zg len new.length) none)<|(st.Cm id).push<|.arr false e s<|l'++new
          |some k=>.DU (c&&decide (len+new.length<=k)&&decide (off+k<=l'.length)) (.sl id sz off (Zg len new.length)<|some k) (st.setObj id<|.arr false e s<|l'.take (off+len)++(new++l'.drop (off+len+new.length)))
         else .bad
        |none=>.bad
       |_=>.bad
      |_=>.bad
     |none=>.bad
    else .bad
   |_,_=>.bad
   else .bad
  |_,_=>.bad
 |_,_,_=>.bad
def K8(T:AF)(ts:Array TypeId)(args:List PV)(st:Ae):PO:=
 match ts[0]?,args with
 |some t,[x]=>match T.und t with
  |some (.slice e)=>match x with
   | .nil=>.val (.tup []) st
   | .sl id sz off len _=>match T.inf e,st.obj id with
    |some i,some (.arr false c s l)=>
     bif Za sz s.sz&&Zl 0 i.zero.length&&Za i.zero.length s.sz&&E0 V.one i.zero then
      match BI s (i.zero.map Mj)with
      |some z=>.DU (decide (off+len<=l.length)) (.tup [])<|st.setObj id<|.arr false c s<|l.take off++(Zu len z++l.drop (off+len))
      |none=>.bad
     else .bad
    |_,_=>.bad
   |_=>.bad
  |_=>.bad
 |_,_=>.bad
def Ml(args:List PV)(st:Ae):PO:=
 match args with
 |[.sl id sz off len none]=>bif Ds (st.obj id)then .DU (decide (0<len)) (.eptr id sz off 0) st else .bad
 |_=>.bad
def I8(l:List Int):Y:=l.map fun x=>UInt8.ofNat x.toNat
def IT(l:List Int):Bool:=l.all fun x=>decide (0<=x)&&decide (x<256)
def Qg(T:AF)(ts:List TypeId)(args:List PV)(st:Ae):PO:=
 match ts,args with
 |[f,_],[.eptr id _ i 0,.dat (.int .i64) n]=>match T.und f,st.obj id with
  |some (.pointer e),some (.arr false g s l)=>match T.inf e,B5 (.list s) (.list<|.int .u8) l with
   |some d,some c=>bif Za d.size 1&&Za e g then
     .DU (decide (i=0)&&decide (0<(n:Int))&&decide (Zf n<=(c:List Int).length)&&decide (Zf n<=9223372036854775807)&&IT c) (.dat .str<|I8<|(c:List Int).take<|Zf n) (st.Cm id)
    else .bad
   |_,_=>.bad
  |_,_=>.bad
 |_,_=>.bad
def DF(T:AF)(b:Builtin)(ts:Array TypeId)(args:List PV)(st:Ae):PO:=
 match b with
 | .len=>QR T ts args st
 | .append=>Ju T ts args st
 | .max=>Gx imax args st
 | .min=>Gx Ux args st
 | .clear=>K8 T ts args st
 | .unsafeSliceData=>Ml args st
 | .unsafeString=>Qg T ts.toList args st
 |_=>.bad
def rune(s:Y)(pos:Nat):Int:=(Utf8.decode (bytesOf s) pos).1
def RV(s:Y)(pos:Nat):Nat:=(Utf8.decode (bytesOf s) pos).2
def Mc(T:AF)(t:TypeId)(x:PV)(st:Ae):PO:=
 match T.und t,x with
 |some .string,.dat .str s=>.val (.ptr st.nx 0)<|st.push<|.siter s 0
 |_,_=>.bad
def P5(x:PV)(c:Bool)(st:Ae):PO:=
 match x,c with
 | .ptr id 0,true=>match st.obj id with
  |some (.siter s pos)=>.ite (decide (pos<s.length)) (.val (.tup [.bl true,.dat (.int .i64)<|Int.ofNat pos,.dat (.int .i32)<|rune s pos])<|st.setObj id<|.siter s<|Zg pos<|RV s pos)<|.val (.tup [.bl false]) st
  |_=>.bad
 |_,_=>.bad
def IS(st:Ae)(place:Nat->Option (Nat×Nat))(cells:List PV):List (Nat×PV)->Option (List PV)
 |[]=>some cells
 |(i,v)::c=>match place i with
  |none=>none
  |some (off,size)=>match Ti st v with
   |some vs=>bif Za (B1 vs) size&&Zn (Zg off size) (B1 cells)then IS st place (AR off vs cells) c else none
   |none=>none
def Lp(T:AF)(st:Ae)(t:TypeId)(c:List (Nat×PV)):Option PV:=
 match T.inf t,T.und t with
 |some i,some (.struct fs)=>
  match fs.toList.mapM (fun f=>(T.inf f.type).map fun j=>(f.offset,j.size))with
  |some pl=>(IS st (fun i=>pl[i]?) (i.zero.map Mj) c).map .agg
  |none=>none
 |some i,some (.array _ e)=>match T.inf e with
  |some j=>(IS st (fun i=>some (i*j.size,j.size)) (i.zero.map Mj) c).map .agg
  |none=>none
 |_,_=>none
def GL(z:List PV):Nat->List PV
 |0=>[]
 |n+1=>z++GL z n
def AY(st:Ae):PV->Option (Bool×PV)
 | .sl id sz off len _=>match st.obj id with
  |some (.arr _ _ s l)=>bif Za sz s.sz then some (decide (off+len<=l.length),.dat (.list s)<|(l.drop off).take len)else none
  |_=>none
 | .dat s x=>some (true,.dat s x)
 | .BN s x off=>some (true,.BN s x off)
 | .bl b=>some (true,.bl b)
 | .nil=>some (true,.nil)
 | .fn f [] []=>some (true,.fn f [] [])
 |_=>none
def BM(st:Ae):List PV->Option (Bool×List PV)
 |[]=>some (true,[])
 |v::vs=>match AY st v,BM st vs with
  |some (c,x),some (d,e)=>some (c&&d,x::e)
  |_,_=>none
def As(st:Ae):PV->Ae
 | .sl id _ _ _ _=>match st.obj id with
  |some (.arr _ e s l)=>st.setObj id<|.arr true e s l
  |_=>st
 |_=>st
def Ak:List PV->Ae->Ae
 |[],st=>st
 |v::vs,st=>Ak vs<|As st v
def Je(T:AF)(t:TypeId)(len:Nat)(d:List (Nat×PV))(st:Ae):PO:=
 match T.und t with
 |some (.slice e)=>match T.inf e,Lc T 9 e with
  |some i,some s=>
   bif Zn (Zz len i.size) 16777216&&Zl 0 i.zero.length&&Za i.zero.length i.size&&Za i.size s.sz then
    match IS st (fun k=>some (k*i.size,i.size)) (GL (i.zero.map Mj) len) d with
    |some cs=>match chunk s len cs with
     |some l=>.val (.sl st.nx s.sz 0 len none)<|st.push<|.arr false e s l
     |none=>match BM st cs with
      |some (c,cs')=>match chunk s len cs' with
       |some l=>.DU c (.sl st.nx s.sz 0 len none)<|(Ak cs st).push<|.arr false e s l
       |none=>.bad
      |none=>.bad
    |none=>.bad
   else .bad
  |_,_=>.bad
 |_=>.bad
def PY(T:AF)(t:TypeId)(l c:PV)(st:Ae):PO:=
 match T.und t,l,c with
 |some (.slice e),.dat (.int _) l,.dat (.int _) c=>match T.inf e,Lc T 9 e with
  |some i,some s=>
   bif Zl 0 i.zero.length&&Za i.zero.length i.size&&Za i.size s.sz then
    match BI s (i.zero.map Mj)with
    |some z=>.DU (decide (0<=(l:Int))&&decide ((l:Int)=(c:Int))&&decide (i.bytes*Zf l<=UZ)&&decide ((l:Int)<9223372036854775808)) (.sl st.nx s.sz 0 (Zf l) none)<|st.push<|.arr false e s<|Zu (Zf l) z
    |none=>.bad
   else .bad
  |_,_=>.bad
 |_,_,_=>.bad
def QA(T:AF)(t:TypeId):Option Sh:=match T.und t with
 |some (.int k)=>some<|.int k
 |some .string=>some .str
 |some .bool=>some .bool
 |_=>none
def HI:PV->Bool
 | .agg _=>true
 |_=>false
def Ut(s:Sh)(p:PV):Option s.T:=bif HI p==s.Gs then BI s p.cells else none
def La(T:AF)(t:TypeId)(st:Ae):PO:=match T.und t with
 |some (.map c e)=>match QA T c,Lc T 9 e with
  |some ks,some vs=>.val (.mp st.nx)<|st.push<|.map ks vs []
  |_,_=>.bad
 |_=>.bad
def Om(st:Ae)(ks vs:Sh)(m:PV):Option (List<|ks.T×vs.T):=match m with
 | .nilm=>some []
 | .mp id=>match st.obj id with
  |some (.map c d l)=>B5 (.list<|.pair c d) (.list<|.pair ks vs) l
  |_=>none
 |_=>none
def Um:V->Bool
 | .agg _=>true
 |_=>false
def TS(ks vs:Sh)(ok:Bool)(z:vs.T)(x:ks.T)(st:Ae):List (ks.T×vs.T)->PO
 |[]=>.val (bif ok then .tup [AO vs z,.bl false]else AO vs z) st
 |(a,b)::l=>.ite (R9 ks x a) (.val (bif ok then .tup [AO vs b,.bl true]else AO vs b) st)<|TS ks vs ok z x st l
def IU(T:AF)(t:TypeId)(m k:PV)(ok:Bool)(st:Ae):PO:=match T.und t with
 |some (.map c e)=>match QA T c,Lc T 9 e,T.inf e with
  |some ks,some vs,some i=>match RT ks k,Om st ks vs m,BI vs (i.zero.map Mj)with
   |some x,some l,some z=>
    bif Um i.zv==vs.Gs then bif vs.QN then TS ks vs ok z x st l else
     (let v:=AO vs ((Gk ks vs x l).getD z)
     .val (bif ok then .tup [v,.dat .bool (Gk ks vs x l).isSome]else v) st)
    else .bad
   |_,_,_=>.bad
  |_,_,_=>.bad
 |_=>.bad
def Jg(T:AF)(t:TypeId)(m k v:PV)(st:Ae):PO:=match T.und t,m with
 |some (.map d _),.mp id=>match QA T d,st.obj id with
  |some ks,some (.map c vs l)=>match RT ks k,B5 (.list<|.pair c vs) (.list<|.pair ks vs) l,Ut vs v with
   |some x,some l,some y=>.val (.tup [])<|st.setObj id<|.map ks vs<|Jq ks vs x y l
   |_,_,_=>.bad
  |_,_=>.bad
 |_,_=>.bad
def Jd(T:AF)(ts:Array TypeId)(args:List PV)(st:Ae):PO:=match ts[0]?,args with
 |some t,[.mp id,k]=>match T.und t with
  |some (.map d _)=>match QA T d,st.obj id with
   |some ks,some (.map c vs l)=>match RT ks k,B5 (.list<|.pair c vs) (.list<|.pair ks vs) l with
    |some x,some l=>.val (.tup [])<|st.setObj id<|.map ks vs<|JG ks vs x l
    |_,_=>.bad
   |_,_=>.bad
  |_=>.bad
 |_,_=>.bad
abbrev EY:=AF->Ae->PO
def v1(st:Ae)(x:Operand)(k:PV->PO):PO:=match H6 st x with|some v=>k v|none=>.bad
def LH(x:Operand):EY:=fun _ st=>ov st<|H6 st x
def Pn(c a b:Operand):EY:=fun _ st=>v1 st c fun c=>v1 st a fun a=>v1 st b fun b=>PE c a b st
def RQ(T:AF)(t:TypeId):Bool:=
 match T.und t with
 |some (.struct fs)=>match fs[0]? with
  |some f=>match T.und f.type with
   |some (.pointer u)=>Za u t
   |_=>false
  |none=>false
 |_=>false
def Ji(t:TypeId):EY:=fun T st=>match Su T t with
 |some (s,n)=>.val (.ptr st.nx 0)<|st.push<|.arr false t s<|Zu n s.C2
 |none=>match OZ T t with|some cs=>.val (.ptr st.nx 0) (st.push<|bif RQ T t then .tbox t cs else .box cs)|none=>.bad
def R2(_:TypeId)(x:Operand):EY:=fun _ st=>v1 st x fun v=>match Ti st v with|some cs=>bif E0 (EJ st) cs then .val (.ptr st.nx 0) (st.push<|.box cs)else .bad|none=>.bad
def MB(t:TypeId)(ps:Array (Nat×Operand)):EY:=fun T st=>match ND st ps.toList with|some l=>ov st (Lp T st t l)|none=>.bad
def J5(t:TypeId)(n:Nat)(ps:Array (Nat×Operand)):EY:=fun T st=>match ND st ps.toList with|some l=>Je T t n l st|none=>.bad
def PW(t:TypeId)(x:Operand):EY:=fun T st=>v1 st x fun a=>F8 T st t a
def MQ(t:TypeId)(x y:Operand):EY:=fun T st=>v1 st x fun a=>v1 st y fun b=>K1 T st t a b
def HZ(x:Operand):EY:=fun _ st=>v1 st x fun a=>match a with| .ptr id _| .eptr id _ _ _=>bif Ds (st.obj id)then .val a st else .bad| .BN .. =>.val a st|_=>.bad
def Sb(T:AF)(op:BinOp)(t:TypeId)(x y:Operand)(a b:PV):Option Bool:=
 match op,a,b,T.und t with
 | .eql,.nili,.nili,some (.interface _)=>bif Mw x||Mw y then some true else none
 | .neq,.nili,.nili,some (.interface _)=>bif Mw x||Mw y then some false else none
 |_,_,_,_=>none
def R6(op:BinOp)(t:TypeId)(x y:Operand)(_:TypeId):EY:=fun T st=>v1 st x fun a=>v1 st y fun b=>match Sb T op t x y a b with|some r=>.val (.bl r) st|none=>Ta T op t a b st
def TZ(op:UnOp)(_:TypeId)(x:Operand):EY:=fun _ st=>v1 st x fun a=>UN op a st
def Pk(s d:TypeId)(x:Operand):EY:=fun T st=>v1 st x fun a=>OD T s d a st
def P6(f:Fn)(a b:Array Operand):EY:=fun _ st=>match Fx st a.toList,Fx st b.toList with|some x,some y=>.val (.fn f x y) st|_,_=>.bad
def PH(t:TypeId)(l c:Operand):EY:=fun T st=>v1 st l fun a=>v1 st c fun b=>PY T t a b st
def o1(st:Ae)(x:Option Operand)(k:Option PV->PO):PO:=match x with|none=>k none|some y=>v1 st y fun v=>k<|some v
def MM(t:TypeId)(x:Operand)(a b c:Option Operand):EY:=fun T st=>v1 st x fun v=>o1 st a fun l=>o1 st b fun h=>o1 st c fun m=>Pr T t v l h m st
def MA(t:TypeId)(x:Operand)(f:Nat):EY:=fun T st=>v1 st x fun a=>Mk T t a f st
def Ms(t:TypeId)(x:Operand)(f:Nat):EY:=fun T st=>v1 st x fun a=>LY T t a f st
def MP(t:TypeId)(x i:Operand):EY:=fun T st=>v1 st x fun a=>v1 st i fun b=>Ql T t a b st
def M5(t:TypeId)(x i:Operand):EY:=fun T st=>v1 st x fun a=>v1 st i fun b=>LR T t a b st
def Ij(x:Operand)(i:Nat):EY:=fun _ st=>v1 st x fun a=>Hd a i st
def JA(c:Call):EY:=fun T st=>
 match Fx st c.args.toList with
 |none=>.bad
 |some args=>match c.callee with
  | .builtin b=>match b with
   | .delete=>Jd T c.argTypes args st
   |_=>DF T b c.argTypes args st
  |_=>.bad
def MD(t:TypeId)(r:Option Operand):EY:=fun T st=>match r with|none=>La T t st|some _=>.bad
def J4(t:TypeId)(x i:Operand)(ok:Bool):EY:=fun T st=>v1 st x fun a=>v1 st i fun b=>IU T t a b ok st
def Hv(t:TypeId)(m k x:Operand):EY:=fun T st=>v1 st m fun a=>v1 st k fun b=>v1 st x fun c=>Jg T t a b c st
def M8(t:TypeId)(x:Operand):EY:=fun T st=>v1 st x fun a=>Mc T t a st
def PS(x:Operand)(c:Bool):EY:=fun _ st=>v1 st x fun a=>P5 a c st
def Eo:EY:=fun _ _=>.bad
def pop(o:Op):EY:=@Op.casesOn (fun _=>EY) o LH LH Pn Ji R2 MB J5 Hv PW MQ (fun _=>Eo) (fun _=>Eo) HZ R6 TZ Pk
 (fun _ _=>Eo) (fun _ _=>Eo) P6 MD (fun _ _=>Eo) PH MM MA Ms MP M5 J4 Hv (fun _ _ _=>Eo) (fun _ _ _ _=>Eo)
 M8 PS (fun _=>Eo) (fun _ _ _ _=>Eo) Ij JA (fun _=>Eo) (fun _=>Eo) (fun _=>Eo) (fun _ _=>Eo) (fun _ _ _=>Eo) (fun _ _=>Eo)
end Go.Pe
