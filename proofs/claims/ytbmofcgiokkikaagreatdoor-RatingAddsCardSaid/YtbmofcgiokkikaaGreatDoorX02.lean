import Derived.Test.YtbmofcgiokkikaaGreatDoorX01
import Derived.Laws.IdiomStrings
import Derived.Lib.UnsafeStr
import Derived.Lib.Builder
import Derived.RangeFuncRecord
import Derived.LoopNIn
import Derived.OrdersIn
import Derived.RangeFuncLeaves
/- A part of a proof; no law is stated here. -/
noncomputable section
open Go.Result renaming andThen_ok -> zc
open Go.Sem renaming run_bind -> zd, run_pure -> zh, run -> zp
open Option.some renaming injEq -> ze
open Array renaming getElem?_eq_some_iff -> zf, getD_eq_getD_getElem? -> zl, getElem?_toList -> zo, getElem?_setIfInBounds_ne -> zy, toList_inj -> yg
open Option renaming map_eq_some_iff -> zi
open Nat renaming blt -> zj, beq -> zq, ble -> zu, blt_eq -> z8, ble_eq -> yp
open Go.Det.Ext renaming refl -> zk, put -> yn
open Go.Instr renaming sameBits -> zm, findAsking -> zz, findNow -> z6, range -> yb, sameNow -> yd, findKey -> ye, next -> yh, lookup -> yi, checkKey -> yk
open List renaming mem_singleton -> zn, mem_cons -> yo
open Bool renaming and_eq_true -> zr
open Go.Deferred renaming ofValue -> zt
open Go.Oper renaming semAt_eq -> z7
open Go.Fence renaming wide -> ya
open Prod.mk renaming injEq -> yc
open Go.Region renaming wanted -> yf
open Go.Question renaming forced -> yj
open Go.Op renaming operands -> ym
open Go.Act renaming put -> yq
namespace Go.Det
section
variable {T:Co}{P:Program}{p:Pl}{h:H}{w:World}
def yZ(T:Co)(h:H)(ts:Array TypeId)(args:List V):Option (V×H):=
 match ts[0]?,args with
 |some t,[d,x]=>
  match T.und t,Ra d,Ra x with
  |some (.slice e),some c,some n=>
   match T.inf e with
   |some i=>
    match src h i.size x (Nat.min n c)with
    |some new=>
     match d with
     | .nils=>some (i64<|Nat.min n c,h)
     | .sl b off _ _ _=>(wr h b off new).map fun h'=>(i64<|Nat.min n c,h')
     |_=>none
    |none=>none
   |none=>none
  |_,_,_=>none
 |_,_=>none
theorem pM(q:T.Ok P)(hr:R p h w){ts:Array TypeId}{t:TypeId}{args:List V}{args':Array Value}(B:AB p args args'.toList){v:V}{h':H}(b:yZ T h ts args=some (v,h')):
  ∃v' p' w',(Builtin.copy_ ts t args').run P w=.ok v' w'/\Ag p' v v'/\Ext p h w p' h' w':=by
 unfold yZ at b;split at b
 case h_2=>cases b
 rename_i t0 d x y;obtain⟨E,x',s,g,o⟩:=B.two;have u:args'= #[E,x']:=ah
 subst u;split at b
 case h_2=>cases b
 rename_i e G n D f z;split at b
 case h_2=>cases b
 rename_i i A;split at b
 case h_2=>cases b
 rename_i new l;obtain⟨vn,j,k⟩:=MN (P:=P) hr o l;unfold Builtin.copy_;simp only[y,List.getElem?_toArray,List.getElem?_cons_zero,List.getElem?_cons_succ,zd,AF q D,zc];split at b
 case h_3=>cases b
 case h_1=>
  subst g;simp only[Ra,ze]at f;subst f;cases b;simp only[zd,Qy o z,BK q A,zc,j];refine⟨_,p,w,(by rfl),?_,zk hr⟩;rfl
 case h_2=>
  simp only[Ra,ze]at f;subst f;obtain⟨r,m,c,hp,rfl,_⟩:=g;rw[zi]at b;obtain⟨h1,hw,he⟩:=b;cases he;obtain⟨r',m',w',g1,g2,g3⟩:=Uw (P:=P) hr k hw;rw[hp]at g1;cases g1;simp only[zd,Qy o z,BK q A,zc,j,g2];refine⟨_,p,w',(by rfl),?_,g3⟩;rfl
def Vh(T:Co)(h:H)(t:TypeId)(x:V):Option (V×H):=
 match T.und t,x with
 |some .string,.str s=>some (.ptr h.nx 0,h.push<|.siter s 0)
 |_,_=>none
theorem kW(d:T.Ok P)(hr:R p h w){t:TypeId}{x:V}{x':Value}(c:Ag p x x'){v:V}{h':H}(b:Vh T h t x=some (v,h')):
  ∃v' p' w',(yb t x').run P w=.ok v' w'/\Ag p' v v'/\Ext p h w p' h' w':=by
 unfold Vh at b;split at b
 case h_2=>cases b
 rename_i s e;cases b;subst c;have f:=Ext.push (n:=0) hr (o:=.siter s 0) (x:=.stringIter (bytesOf s) 0) rfl;refine⟨.pointer<|some ⟨w.heap.size,0,none⟩,_,_,?_,?_,f⟩
 ·unfold yb;simp only[zd,AF d e,zc,zh,run_newObj]
 ·exact⟨w.heap.size,0,by rw[<-hr.len];simp,rfl⟩
def Pk(h:H)(d:V)(c:Bool):Option (V×H):=
 match d,c with
 | .ptr b 0,true=>
  match h.get b with
  |some (.siter s pos)=>
   bif zj pos s.length then
    some (.tup [.bool true,i64 pos,.int .i32 (Utf8.decode (bytesOf s) pos).1],h.put b<|.siter s<|pos+(Utf8.decode (bytesOf s) pos).2)
   else some (.tup [.bool false],h)
  |_=>none
 |_,_=>none
theorem sZ(hr:R p h w){f:V}{e:Value}{b:Bool}{t:TypeId}(k:Ag p f e){v:V}{h':H}(c:Pk h f b=some (v,h')):
  ∃v' p' w',(yh e b t).run P w=.ok v' w'/\Ag p' v v'/\Ext p h w p' h' w':=by
 unfold Pk at c;split at c
 case h_2=>cases c
 obtain⟨r,n,hp,rfl⟩:=k;split at c
 case h_2=>cases c
 rename_i s pos i;obtain⟨o,n',x,g,j,l⟩:=hr.obj _ _ i;rw[hp]at g;cases g;subst l;rw[H4]at c;unfold yh;simp only[zd,getObj,zp,j,zc,Cb];by_cases d:pos<s.length
 ·simp only[d,decide_true,we,ze,yc]at c;obtain⟨rfl,rfl⟩:=c;simp only[d,wk,zd,setObj,zp,j,zc];refine⟨_,p,_,zh ..,?_,yn hr i hp (o':=.siter s<|pos+(Utf8.decode (bytesOf s) pos).2) rfl rfl rfl rfl rfl⟩;simp[Ag,i64,goInt]
 ·simp only[d,decide_false,wg,ze,yc]at c;obtain⟨rfl,rfl⟩:=c;simp only[d,vf];exact⟨_,p,w,(by rfl),by simp[Ag],zk hr⟩
def JZ(h:H)(r:Option V):Option (V×H):=
 match r with
 |none=>some (.map h.nx,h.push<|.map [] 0)
 |some _=>none
theorem YO(hr:R p h w){t:TypeId}{r:Option V}{c:Option Value}(d:Is p r c){v:V}{h':H}(b:JZ h r=some (v,h')):
  ∃v' p' w',(Instr.makeMap t c).run P w=.ok v' w'/\Ag p' v v'/\Ext p h w p' h' w':=by
 unfold JZ at b;split at b
 case h_2=>cases b
 cases b;subst d;have e:=Ext.push (n:=0) hr (o:=.map [] 0) (x:=.map #[] 0) ⟨#[],rfl,.nil⟩;refine⟨.map<|some w.heap.size,_,_,?_,?_,e⟩
 ·rfl
 ·exact⟨w.heap.size,0,by rw[<-hr.len];simp,rfl⟩
def tG(T:Co)(d:TypeId)(a b:V):Option Bool:=
 match T.und d,a,b with
 |some (.int _),.int k x,.int c y=>if k=c then some (x==y)else none
 |some .string,.str x,.str y=>some<|x==y
 |some .bool,.bool x,.bool y=>some<|x==y
 |_,_,_=>none
def Ms(T:Co)(b:TypeId)(k:V):List (V×V×Nat)->Nat->Option (Option<|Nat×V)
 |[],_=>some none
 |(a,v,_)::es,i=>
  match tG T b k a with
  |some true=>some<|some (i,v)
  |some false=>Ms T b k es<|i+1
  |none=>none
def plainKey:V->Bool
 | .int .. | .str _| .bool _=>true
 |_=>false
theorem bytes_beq(x y:ByteArray):(x==y)=(x.data==y.data):=rfl
theorem dX{k:TypeId}{a b:V}{f b':Value}(i:Ag p a f)(g:Ag p b b'){r:Bool}(e:tG T k a b=some r){d:TypeDesc}(j:T.und k=some d):
  yd d f b'=some r/\(r=true->f=b'):=by
 unfold tG at e;split at e
 case h_1=>
  grind [Ag,yd]
 case h_2=>
  rename_i c;rw[j]at c;simp only[Ag]at i g;cases e;simp_all [yd,bytes_beq,bytesOf]
 case h_3=>
  rename_i c;rw[j]at c;cases c;subst i g;cases e;exact⟨rfl,(by simp)⟩
 grind
theorem mZ{n:TypeId}{k:V}{f:Value}(o:Ag p k f){d:TypeDesc}(u:T.und n=some d):
  ∀ {es:List (V×V×Nat)} {l:List MapEntry},Ec p es l->∀ {i:Nat} {r:Option (Nat×V)},Ms T n k es i=some r->
  ∃g,z6 d f l i=some g/\(match r with|none=>g=none|some (j,v)=>∃v',g=some (j,v')/\Ag p v v'/\i<=j/\∃e,l[j-i]?=some e/\e.key=f):=by
 intro es l t;induction t with
 |nil=>intro i r c;simp only[Ms,ze]at c;subst c;exact⟨none,rfl,rfl⟩
 |@cons a v b es e l s B A _ z=>
  intro i r c;unfold Ms at c;split at c
  case h_1=>
   rename_i q;cases c;obtain⟨x,y⟩:=dX o s q u;simp_all [z6]
  case h_2=>
   grind [dX,z6]
  grind
theorem run_checkKey{k:V}{c:Value}(f:Ag p k c)(hp:plainKey k=true)(i:T.Ok P){e:TypeId}{d:TypeDesc}(j:T.und e=some d)(l:EK d=false)(n:∀g,d≠ .interface g)(b:Bool):
  (yk b 10000 e c).run P w=.ok () w:=by
 unfold yk;rw[zd,AF i j];cases k<;>simp only[plainKey]at hp<;>simp only[Ag]at f
 case bool|int|str=>
  cases d<;>first|rfl|(cases l;done)|grind
 all_goals cases hp
def uC:TypeDesc->Bool
 | .int _| .string| .bool=>true
 |_=>false
theorem jE{d:TypeDesc}(h:uC d=true):EK d=false/\∀b,d≠ .interface b:=by
 cases d<;>first|(cases h;done)|exact⟨rfl,fun b e=>by cases e⟩
theorem S3{k:V}{b:Value}(c:Ag p k b)(hp:plainKey k=true):zm 10000 b b=true:=by
 cases k<;>simp only[plainKey]at hp<;>simp only[Ag]at c
 case bool=>grind [zm]
 case int=>grind [zm]
 case str=>grind [zm,bytes_beq]
 all_goals cases hp
theorem Yv{a b:V}{c b':Value}(e:Ag p a c)(d:Ag p b b')(h:EP a b=some true):c=b':=by
 unfold EP at h;grind [Ag]
theorem MU:∀ {d e:List V} {x y:List Value},AB p d x->AB p e y->Ch d e=some true->x=y
 |[],[],x,y,c,f,_=>by simp_all
 |[],_::_,_,_,_,_,h=>by simp[Ch]at h
 |_::_,[],_,_,_,_,h=>by simp[Ch]at h
 |a::i,b::l,x,y,c,f,h=>by
  obtain⟨u,n,rfl,g,j⟩:=c;obtain⟨v,vs,rfl,h3,h4⟩:=f;unfold Ch at h;split at h
  case h_1=>
   rename_i k;rw[Yv g h3 k,MU j h4 h]
  case h_2=>grind
  grind
theorem YN:∀ {ks:List FK} {e:List V} {x:List Value},fit ks e=true->AB p e x->(x.zip x).all (fun(a,b)=>zm 9999 a b)=true
 |[],[],x,_,d=>by simp_all
 |[],_::_,_,h,_=>by simp[fit]at h
 |_::_,[],_,h,_=>by simp_all
 |k::ks,v::vs,x,h,d=>by
  obtain⟨u,j,rfl,i,g⟩:=d;unfold fit at h;cases c:k.ok v with
  |false=>grind
  |true=>
   simp only[c,we]at h;have f:=YN h g;simp only[List.zip_cons_cons,List.all_cons,f,Bool.and_true];unfold FK.ok at c;grind [Ag,zm,bytes_beq]
def Sa(ks:List FK)(k:List V):List (V×V×Nat)->Nat->Option (Option<|Nat×V)
 |[],_=>some none
 |(a,v,_)::es,i=>
  match a with
  | .agg b=>match Q3 (some ks) k b with
   |some true=>some<|some (i,v)
   |some false=>Sa ks k es<|i+1
   |none=>none
  |_=>none
def Kl(T:Co)(c:TypeId)(d:TypeDesc)(k:V):Bool:=
 match k with
 | .agg b=>match T.flat c with
  |some ks=>fit ks b
  |none=>false
 |k=>plainKey k&&uC d
def LM(T:Co)(b:TypeId)(k:V)(es:List (V×V×Nat)):Option (Option<|Nat×V):=
 match k with
 | .agg c=>match T.flat b with
  |some ks=>Sa ks c es 0
  |none=>none
 |k=>Ms T b k es 0
theorem Sw(A:T.Ok P){g:TypeId}{ks:List FK}(B:T.flat g=some ks){f:List V}{x:Array Value}(u:AB p f x.toList):
  ∀ {es:List (V×V×Nat)} {l:List MapEntry},Ec p es l->∀ {i:Nat} {r:Option (Nat×V)},Sa ks f es i=some r->
  ∃d,(zz g (.agg x) l i).run P w=.ok d w/\(match r with|none=>d=none|some (j,v)=>∃v',d=some (j,v')/\Ag p v v'/\i<=j/\∃e,l[j-i]?=some e/\e.key=.agg x):=by
 intro es l E;induction E with
 |nil=>intro i r c;simp only[Sa,ze]at c;subst c;exact⟨none,rfl,rfl⟩
 |@cons a v b es e l k I K _ G=>
  intro i r c;unfold Sa at c;split at c
  case h_2=>cases c
  rename_i z;obtain⟨y,D,k⟩:=k;split at c
  case h_3=>cases c
  case h_1=>
   rename_i t;cases c;obtain⟨l',o,n,s,q⟩:=Jb t;cases o;refine⟨some (i,e.val),?_,e.val,rfl,I,Nat.le_refl _,e,by simp,?_⟩
   ·simp only[zz,zd,D,A.flat g ks B p f z x y true w n s u k q,zc,wk,zh]
   grind [MU,yg]
  case h_2=>
   rename_i t;obtain⟨l',o,n,s,q⟩:=Jb t;cases o;obtain⟨d,k1,k2⟩:=G c;refine⟨d,?_,?_⟩
   ·simp only[zz,zd,D,A.flat g ks B p f z x y false w n s u k q,zc,Bool.false_eq_true,vf];exact k1
   ·cases r with
    |none=>exact k2
    |some J=>
     grind
theorem La(n:T.Ok P){e:TypeId}{d:TypeDesc}(o:T.und e=some d){k:V}{f:Value}(i:Ag p k f)(c:Kl T e d k=true)(b:Bool):
  (yk b 10000 e f).run P w=.ok () w:=by
 unfold Kl at c;split at c
 case h_1=>
  rename_i l;split at c
  case h_2=>cases c
  rename_i ks g;obtain⟨x,rfl,j⟩:=i;exact n.key e ks g p l x b w c j
 case h_2=>
  grind [jE,run_checkKey]
theorem Zf{g:TypeId}{d:TypeDesc}{k:V}{c:Value}(e:Ag p k c)(b:Kl T g d k=true):zm 10000 c c=true:=by
 unfold Kl at b;split at b
 case h_1=>
  split at b
  case h_2=>cases b
  obtain⟨x,rfl,f⟩:=e;have:=YN b f;simp_all [zm]
 case h_2=>
  grind [S3]
def entries(h:H)(m:V):Option (List<|V×V×Nat):=
 match m with
 | .nilm=>some []
 | .map b=>match h.get b with
  |some (.map es _)=>some es
  |_=>none
 |_=>none
def FA(T:Co)(h:H)(t:TypeId)(m k:V)(ok:Bool):Option V:=
 match T.und t with
 |some (.map b e)=>
  match T.und b,entries h m with
  |some d,some es=>
   bif Kl T b d k then
    match LM T b k es with
    |some (some (_,v))=>some<|bif ok then .tup [v,.bool true]else v
    |some none=>match T.inf e with
     |some i=>some<|bif ok then .tup [i.zv,.bool false]else i.zv
     |none=>none
    |none=>none
   else none
  |_,_=>none
 |_=>none
theorem Oy(hr:R p h w){m:V}{e:Value}(g:Ag p m e){es:List (V×V×Nat)}(c:entries h m=some es):
  (e=.map none/\es=[])\/∃r l d b n,m=.map b/\e=.map (some r)/\p[b]?=some (r,n)/\h.get b=some (.map es d)/\w.heap[r]?=some (.map l d)/\Ec p es l.toList:=by
 unfold entries at c;split at c
 case h_1=>simp_all [Ag]
 case h_2=>
  simp only[Ag]at g;split at c
  case h_2=>cases c
  rename_i f d i;obtain⟨j,n',o,k,t,l,s,q⟩:=hr.obj _ _ i;grind
 grind
theorem run_findKey(n:T.Ok P){c:TypeId}{k:V}{g:Value}(q:Ag p k g){d:TypeDesc}(o:T.und c=some d){es:List (V×V×Nat)}{l:List MapEntry}(y:Ec p es l)
  {r:Option (Nat×V)} (f:LM T c k es=some r):
  ∃b,(ye c g l).run P w=.ok b w/\(match r with|none=>b=none|some (j,v)=>∃v',b=some (j,v')/\Ag p v v'/\∃e,l[j]?=some e/\e.key=g):=by
 by_cases i:∃t,k=.agg t
 ·obtain⟨t,rfl⟩:=i;simp only[LM]at f;cases s:T.flat c with
  |none=>grind
  |some ks=>
   simp only[s]at f;obtain⟨x,rfl,z⟩:=q;obtain⟨b,u,B⟩:=Sw (P:=P) (w:=w) n s z y f;refine⟨b,?_,?_⟩
   ·unfold ye;simp only[zd,AF n o,zc];cases l with
    |nil=>grind [z6,zz]
    |cons e l=>grind [z6,yd]
   grind
 ·have A:LM T c k es=Ms T c k es 0:=by cases k<;>first|rfl|grind
  rw[A]at f;obtain⟨b,u,B⟩:=mZ q o y f;refine⟨b,?_,?_⟩
  ·unfold ye;simp only[zd,AF n o,zc,u,zh]
  grind
theorem Zp(g:T.Ok P)(hr:R p h w){t:TypeId}{m k:V}{B u:Value}{ok:Bool}(M:Ag p m B)(s:Ag p k u){v:V}(c:FA T h t m k ok=some v):
  ∃v',(yi t B u ok).run P w=.ok v' w/\Ag p v v':=by
 unfold FA at c;split at c
 case h_2=>cases c
 rename_i G e E;split at c
 case h_2=>cases c
 rename_i d es f x;cases D:Kl T G d k with
 |false=>grind
 |true=>
  simp only[D,we]at c;obtain⟨l,o,q⟩:∃l:List MapEntry,Ec p es l/\(yi t B u ok).run P w=((ye G u l).run P w).andThen fun r w'=>
    match r with
    |some (_,v)=>.ok (if ok then .tuple #[v,.bool true]else v) w'
    |none=>((zeroValue e).run P w').andThen fun z w'=>.ok (if ok then .tuple #[z,.bool false]else z) w':=by
   rcases Oy hr M x with⟨rfl,rfl⟩|⟨r,l,U,b,n,rfl,rfl,hp,Q,I,J⟩
   ·refine⟨[],.nil,?_⟩;unfold yi;simp only[zd,AF g E,zc,zh,La g f s D];congr 1;funext r w'
    cases r<;>simp
   ·refine⟨l.toList,J,?_⟩;unfold yi;simp only[zd,AF g E,zc,zh,La g f s D,getObj,zp,I];congr 1;funext r w'
    cases r<;>simp
  rw[q];split at c
  case h_3=>cases c
  case h_1=>
   rename_i j v0 A;cases c;obtain⟨L,y,v',rfl,O,_⟩:=run_findKey (P:=P) (w:=w) g s f o A;simp only[y,zc];cases ok
   ·grind
   simp_all [Ag]
  case h_2=>
   rename_i A;split at c
   case h_2=>cases c
   rename_i i K;cases c;obtain⟨L,y,N⟩:=run_findKey (P:=P) (w:=w) g s f o A;subst N;obtain⟨z,hz,hzr⟩:=Afs g K;simp only[y,zc,hz];cases ok
   ·grind
   simp_all [Ag]
def ZB(es:List (V×V×Nat))(i:Nat)(k v:V):List (V×V×Nat):=es.modify i fun e=>(k,v,e.2.2)
theorem Ec.modify{es:List (V×V×Nat)}{l:List MapEntry}(o:Ec p es l){k v:V}{c v':Value}(f:Ag p k c)(g:Ag p v v')(i:Nat):
  Ec p (ZB es i k v) (l.modify i fun e=>{ e with key:=c,val:=v' }):=by
 unfold ZB;induction o generalizing i with
 |nil=>simp;exact .nil
 |@cons a x b es e l j r d n q=>
  cases i with
  |zero=>simp;exact .cons f g d n
  |succ i=>simp;exact .cons j r d<|q i
theorem Ec.snoc{es:List (V×V×Nat)}{l:List MapEntry}(j:Ec p es l){k v:V}{e:MapEntry}(c:Ag p k e.key)(f:Ag p v e.val):Ec p (es++[(k,v,e.born)]) (l++[e]):=by
 induction j with
 |nil=>exact .cons c f rfl .nil
 |cons i g d _ b=>exact .cons i g d b
def IQ(T:Co)(h:H)(t:TypeId)(m k v:V):Option H:=
 match T.und t,m with
 |some (.map e _),.map b=>
  match T.und e,h.get b with
  |some d,some (.map es c)=>
   bif Kl T e d k then
    match LM T e k es with
    |some (some (i,_))=>some<|h.put b<|.map (ZB es i k v) c
    |some none=>some<|h.put b<|.map (es++[(k,v,c)])<|c+1
    |none=>none
   else none
  |_,_=>none
 |_,_=>none
theorem Zi(x:T.Ok P)(hr:R p h w){t:TypeId}{m k v:V}{I o v':Value}(G:Ag p m I)(g:Ag p k o)(E:Ag p v v'){h':H}(c:IQ T h t m k v=some h'):
  ∃w',(Instr.mapUpdate t I o v').run P w=.ok () w'/\Ext p h w p h' w':=by
 unfold IQ at c;split at c
 case h_2=>cases c
 rename_i M e b L;split at c
 case h_2=>cases c
 rename_i d es y f u;cases D:Kl T M d k with
 |false=>grind
 |true=>
  simp only[D,we]at c;rcases Oy (es:=es) hr G (by simp only[entries,u])with⟨rfl,_⟩|⟨r,l,J,b',n,K,rfl,hp,i,z,s⟩
  ·simp[Ag]at G
  ·cases K;rw[u]at i;cases i;unfold Instr.mapUpdate;simp only[zd,AF x L,zc,La x f g D,getObj,zp,z];split at c
   case h_3=>cases c
   case h_1=>
    rename_i j v0 B;cases c;obtain⟨N,A,v1,rfl,U,Q,W,X⟩:=run_findKey (P:=P) (w:=w) x g f s B;simp only[A,zc];have q:(l[j]?.map (·.key)).getD o=o:=by
     grind
    rw[q];unfold Instr.keyThatStays;simp only[Zf g D,wk,zd,zh,zc,setObj,zp,z];refine⟨_,rfl,yn hr u hp (o':=.map (ZB es j k v) y) ⟨_,rfl,?_⟩ rfl rfl rfl rfl⟩;have:=s.modify g E j;grind
   case h_2=>
    rename_i B;cases c;obtain⟨N,A,O⟩:=run_findKey (P:=P) (w:=w) x g f s B;subst O;simp only[A,zc,setObj,zp,z];refine⟨_,rfl,yn hr u hp (o':=.map (es++[(k,v,y)])<|y+1) ⟨_,rfl,?_⟩ rfl rfl rfl rfl⟩;have:=s.snoc (e:={ key:=o,val:=v',born:=y }) g E;grind
def IY(T:Co)(h:H)(t:TypeId)(x:V):Option (V×H):=
 match T.und t,x with
 |some (.map _ _),.nilm=>some (.ptr h.nx 0,h.push<|.miter none 0 [] 0)
 |some (.map _ _),.map b=>match h.get b with
  |some (.map _ c)=>some (.ptr h.nx 0,h.push<|.miter (some b) c [] c)
  |_=>none
 |_,_=>Vh T h t x
theorem Zk(i:T.Ok P)(hr:R p h w){t:TypeId}{x:V}{x':Value}(g:Ag p x x'){v:V}{h':H}(c:IY T h t x=some (v,h')):
  ∃v' p' w',(yb t x').run P w=.ok v' w'/\Ag p' v v'/\Ext p h w p' h' w':=by
 unfold IY at c;split at c
 case h_1=>
  rename_i f;cases c;subst g;have e:=Ext.push (n:=0) hr (o:=.miter none 0 [] 0) (x:=.mapIter none 0 #[] 0) rfl;refine⟨.pointer<|some ⟨w.heap.size,0,none⟩,_,_,?_,?_,e⟩
  ·unfold yb;simp only[zd,AF i f,zc,zh,run_newObj]
  ·exact⟨w.heap.size,0,by rw[<-hr.len];simp,rfl⟩
 case h_2=>
  rename_i b f;split at c
  case h_2=>cases c
  rename_i es d j;cases c;obtain⟨r,n,hp,rfl⟩:=g;obtain⟨r',n',o,h1,h2,l,h3,h4⟩:=hr.obj _ _ j;rw[hp]at h1;cases h1;subst h3;have e:=Ext.push (n:=0) hr (o:=.miter (some b) d [] d) (x:=.mapIter (some r) d #[] d) ⟨r,n,hp,rfl⟩;refine⟨.pointer<|some ⟨w.heap.size,0,none⟩,_,_,?_,?_,e⟩
  ·unfold yb;simp only[zd,AF i f,zc,zh,getObj,zp,h2,run_newObj]
  ·exact⟨w.heap.size,0,by rw[<-hr.len];simp,rfl⟩
 grind [kW]
def V2(h:H)(f:V)(c:Bool):Option (List<|V×H):=
 match f,c with
 | .ptr b 0,false=>
  match h.get b with
  |some (.miter none _ _ _)=>some [(.tup [.bool false],h)]
  |some (.miter (some m) since seen last)=>
   match h.get m with
   |some (.map es d)=>
    bif es.all (fun e=>zj e.2.2 since)&&zu since last then
     match es.filter (fun e=> !seen.contains e.2.2)with
     |[]=>some [(.tup [.bool false],h)]
     |left=>some (left.map fun e=>(.tup [.bool true,e.1,e.2.1],h.put b<|.miter (some m) since (seen++[e.2.2]) d))
    else none
   |_=>none
  |_=>none
 |_,_=>none
theorem Ec.get{es:List (V×V×Nat)}{l:List MapEntry}(c:Ec p es l):∀ {i:Nat} {e:MapEntry},l[i]?=some e->∃k v,es[i]?=some (k,v,e.born)/\Ag p k e.key/\Ag p v e.val:=by
 induction c with
 |nil=>simp
 |@cons k v b es j l d n g _ f=>
  grind
theorem Ec.filter{es:List (V×V×Nat)}{l:List MapEntry}(g:Ec p es l)(q:Nat->Bool):Ec p (es.filter fun e=>q e.2.2) (l.filter fun e=>q e.born):=by
 induction g with
 |nil=>exact .nil
 |@cons k v b es j l f i d _ c=>
  simp only[List.filter_cons,d];cases q b with
  |false=>exact c
  |true=>exact .cons f i d c
theorem Ec.all{es:List (V×V×Nat)}{l:List MapEntry}(c:Ec p es l)(q:Nat->Bool):(es.all fun e=>q e.2.2)=l.all fun e=>q e.born:=by
 induction c with
 |nil=>rfl
 |@cons k v b es i l d j g _ f=>grind
theorem Ec.find{es:List (V×V×Nat)}{l:List MapEntry}(d:Ec p es l)(q:Nat->Bool){e:V×V×Nat}(f:es.find? (fun e=>q e.2.2)=some e):∃c,l.find? (fun e=>q e.born)=some c/\Ag p e.1 c.key/\Ag p e.2.1 c.val:=by
 induction d with
 |nil=>grind
 |@cons k v b es n l g o j _ i=>
  grind
theorem vP(n:Nat)(b:0<n):∃i d,(choose<|.mapNext n).run P w=.ok i { w with drawn:=d }/\i<n:=by
 rw[run_choose];by_cases c:n<=1
 ·refine⟨0,w.drawn,?_,b⟩;simp[yj,c]
 ·refine⟨w.tape w.drawn (.mapNext n) % n,w.drawn+1,?_,Nat.mod_lt _ b⟩;grind [yj,Question.cut]
theorem lJ(hr:R p h w){J:V}{z:Value}{f:Bool}{t:TypeId}(I:Ag p J z){l:List (V×H)}(g:V2 h J f=some l):
  ∃v h' v' p' w',(v,h')∈l/\(yh z f t).run P w=.ok v' w'/\Ag p' v v'/\Ext p h w p' h' w':=by
 unfold V2 at g;split at g
 case h_2=>cases g
 rename_i b;simp only[Ag]at I;obtain⟨r,n,hp,rfl⟩:=I;split at g
 case h_3=>cases g
 case h_1=>
  rename_i since seen last B;cases g;obtain⟨Z,n',x,u,D,A⟩:=hr.obj _ _ B;rw[hp]at u;cases u;simp only[Mt]at A;subst A;refine⟨_,_,.tuple #[.bool false],p,w,zn.2 rfl,?_,by simp[Ag],zk hr⟩;unfold yh;simp only[zd,getObj,zp,D,zc];rfl
 case h_2=>
  rename_i m since seen last B;split at g
  case h_2=>cases g
  rename_i es G hm;cases E:(es.all (fun e=>zj e.2.2 since)&&zu since last)with
  |false=>grind
  |true=>
   simp only[E,we]at g;simp only[zr,yp]at E;obtain⟨K,c2⟩:=E;obtain⟨Z,n',x,u,D,A⟩:=hr.obj _ _ B;rw[hp]at u;cases u;obtain⟨rm,nm,hpm,rfl⟩:=A;obtain⟨r2,n2,x2,k1,k2,l2,k3,k4⟩:=hr.obj _ _ hm;rw[hpm]at k1;cases k1;subst k3;rw[k4.all fun b=>zj b since]at K;have O:∀e∈l2.toList,e.born<since:=by
    intro e W;have:=List.all_eq_true.1 K e W;simp_all
   have hno:(!seen.toArray.isEmpty&& !l2.isEmpty&&l2.all (·.born>=last))=false:=by
    cases hl:l2.toList with
    |nil=>
     simp_all
    |cons e0 N=>
     grind
   have s:(l2.filter fun e=> !seen.toArray.contains e.born).toList=l2.toList.filter fun e=> !seen.contains e.born:=by
    simp
   have c:=k4.filter fun b=> !seen.contains b
   have X:((l2.filter fun e=> !seen.toArray.contains e.born).filter (·.born<since))=l2.filter fun e=> !seen.toArray.contains e.born:=by
    grind [yg,Array.toList_filter,List.filter_eq_self]
   have e2:((l2.filter fun e=> !seen.toArray.contains e.born).filter (·.born>=since))= #[]:=by
    apply yg.1;grind [List.filter_eq_nil_iff]
   unfold yh;simp only[zd,getObj,zp,D,zc,k2];rw[wc ah];simp only[X,e2,Array.append_empty];generalize hL:(l2.filter fun e=> !seen.toArray.contains e.born)=L at*;rw[<-s]at c;have Q:=c.length;split at g
   case h_1=>
    cases g;have hL0:L= #[]:=by
     grind
    refine⟨_,_,.tuple #[.bool false],p,w,zn.2 rfl,?_,by simp[Ag],zk hr⟩;simp_all [yj]
   case h_2=>
    have y:0<L.size:=by
     grind
    have j:L.isEmpty=false:=ah
    simp only[j,Bool.false_eq_true,vf,Array.empty_append,Array.size_map];obtain⟨i,d,U,M⟩:=vP (P:=P) (w:=w) L.size y;simp only[zd,U,zc];have Y:L[i]?=some L[i]:=by simp[M]
    obtain⟨k,v,q1,q2,q3⟩:=c.get (i:=i) (e:=L[i]) (by simp[M]);simp only[Array.getElem?_map,Y,Option.map_some,zd];have q:=Ext.drew hr d;have o:=yn q.rel B hp (o':=.miter (some m) since (seen++[L[i].born]) G) (x':=.mapIter (some rm) since (seen.toArray.push L[i].born) G) ⟨rm,nm,hpm,by simp⟩
     (w':={ { w with drawn:=d }with heap:=w.heap.setIfInBounds r (.mapIter (some rm) since (seen.toArray.push L[i].born) G) }) rfl rfl rfl rfl
    refine⟨.tup [.bool true,k,v],_,.tuple #[.bool true,L[i].key,L[i].val],p,_,ah,?_,?_,q.trans o⟩
    ·simp[setObj,zp,D]
    simp_all [Ag]
def Va(h:H)(d:V):Option V:=
 match d with
 | .ptr b 0=>
  match h.get b with
  |some (.miter (some m) _ seen last)=>
   match h.get m with
   |some (.map es c)=>
    bif zq c last then
     match seen.getLast? with
     |some s=>match es.find? (fun e=>zq e.2.2 s)with
      |some e=>some<|.tup [e.1,e.2.1]
      |none=>none
     |none=>none
    else none
   |_=>none
  |_=>none
 |_=>none
theorem iM(hr:R p h w){i:V}{d:Value}(l:Ag p i d){v:V}(c:Va h i=some v):∃v',(Instr.entry d).run P w=.ok v' w/\Ag p v v':=by
 unfold Va at c;split at c
 case h_2=>cases c
 simp only[Ag]at l;split at c
 case h_2=>cases c
 rename_i m since seen last q;split at c
 case h_2=>cases c
 rename_i es k n;rw[Bz]at c;by_cases f:k=last
 ·simp only[f,decide_true,we]at c;split at c
  case h_2=>cases c
  rename_i s u;split at c
  case h_2=>cases c
  rename_i e j;cases c;obtain⟨r,n',x,t,y,o⟩:=hr.obj _ _ q;simp only[Mt]at o;obtain⟨r2,n2,x2,k1,k2,l2,k3,k4⟩:=hr.obj _ _ n;obtain⟨e',q1,q2,q3⟩:=k4.find (fun b=>zq b s) j;refine⟨.tuple #[e'.key,e'.val],?_,by simp_all [Ag]⟩;unfold Instr.entry;have g:l2.find? (fun e=>e.born==s)=some e':=by
   rw[<-Array.find?_toList, <-q1];congr 1;funext e
   rw[Bz];rfl
  simp_all [getObj,zp]
 grind
theorem Ec.erase{es:List (V×V×Nat)}{l:List MapEntry}(d:Ec p es l)(i:Nat):Ec p (es.eraseIdx i) (l.eraseIdx i):=by
 induction d generalizing i with
 |nil=>simp;exact .nil
 |@cons k v b es n l c g f j e=>
  cases i with
  |zero=>grind
  |succ i=>simp;exact .cons c g f<|e i
def M8(T:Co)(h:H)(ts:Array TypeId)(args:List V):Option (V×H):=
 match ts[0]?,args with
 |some f,[.map b,k]=>
  match T.und f with
  |some (.map c _)=>
   match T.und c,h.get b with
   |some d,some (.map es e)=>
    bif Kl T c d k then
     match LM T c k es with
     |some (some (i,_))=>some (.tup [],h.put b<|.map (es.eraseIdx i) e)
     |some none=>some (.tup [],h.put b<|.map es e)
     |none=>none
    else none
   |_,_=>none
  |_=>none
 |_,_=>none
theorem YX(o:T.Ok P)(hr:R p h w){ts:Array TypeId}{t:TypeId}{args:List V}{args':Array Value}(G:AB p args args'.toList){v:V}{h':H}(c:M8 T h ts args=some (v,h')):
  ∃v' p' w',(Builtin.delete_ ts t args').run P w=.ok v' w'/\Ag p' v v'/\Ext p h w p' h' w':=by
 unfold M8 at c;split at c
 case h_2=>cases c
 rename_i mt b k J;obtain⟨U,O,f,A,s⟩:=G.two;have u:args'[0]?=some U:=by rw[<-zo,f];rfl
 have z:args'[1]?=some O:=by rw[<-zo,f];rfl
 split at c
 case h_2=>cases c
 rename_i M e L;split at c
 case h_2=>cases c
 rename_i d es q g x;cases B:Kl T M d k with
 |false=>grind
 |true=>
  simp only[B,we]at c;rcases Oy (es:=es) hr A (by simp only[entries,x])with⟨rfl,_⟩|⟨r,l,E,b',n,K,rfl,hp,I,D,i⟩
  ·simp[Ag]at A
  ·cases K;unfold Builtin.delete_;simp only[J,u,z,zd,AF o L,zc,getObj,zp,D,La o g s B];split at c
   case h_3=>cases c
   case h_1=>
    rename_i j v0 y;cases c;obtain⟨Q,N,v1,rfl,X,W,Y,Z⟩:=run_findKey (P:=P) (w:=w) o s g i y;refine⟨.tuple #[],p,{ w with heap:=w.heap.setIfInBounds r (.map (l.eraseIdxIfInBounds j) q) },?_,by simp[Ag],yn hr x hp (o':=.map (es.eraseIdx j) q) ⟨_,rfl,?_⟩ rfl rfl rfl rfl⟩
    ·simp_all [setObj,zp]
    ·have:=i.erase j;simp_all
   case h_2=>
    rename_i y;cases c;obtain⟨Q,N,k2⟩:=run_findKey (P:=P) (w:=w) o s g i y;refine⟨.tuple #[],p,{ w with heap:=w.heap.setIfInBounds r (.map l q) },?_,by simp[Ag],yn hr x hp (o':=.map es q) ⟨_,rfl,i⟩ rfl rfl rfl rfl⟩;simp_all [setObj,zp]
def GO(T:Co)(h:H)(ts:Array TypeId)(args:List V):Option (V×H):=
 match ts[0]?,args with
 |some t,[x]=>
  match T.und t,x with
  |some (.map _ _),.nilm=>some (.tup [],h)
  |some (.map _ _),.map b=>match h.get b with
   |some (.map _ c)=>some (.tup [],h.put b<|.map [] c)
   |_=>none
  |some (.slice _),.nils=>some (.tup [],h)
  |some (.slice _),.esl=>some (.tup [],h)
  |some (.slice _),.es0=>some (.tup [],h)
  |some (.slice e),.sl b off len _ _=>
   bif zq len 0 then some (.tup [],h)
   else match T.inf e with
    |some i=>bif zj 0 i.zero.length then
      (wr h b off<|Gq i.zero<|len*i.zero.length).map fun h'=>(.tup [],h')
     else none
    |none=>none
  |_,_=>none
 |_,_=>none
theorem lU(g:T.Ok P)(hr:R p h w){ts:Array TypeId}{t:TypeId}{args:List V}{args':Array Value}(D:AB p args args'.toList){v:V}{h':H}(d:GO T h ts args=some (v,h')):
  ∃v' p' w',(Builtin.clear_ ts t args').run P w=.ok v' w'/\Ag p' v v'/\Ext p h w p' h' w':=by
 unfold GO at d;split at d
 case h_2=>cases d
 rename_i t0 x G;obtain⟨x',j,k⟩:=D.one;have s:args'[0]?=some x':=by rw[<-zo,j];rfl
 unfold Builtin.clear_;simp only[G,s];split at d
 case h_7=>cases d
 case h_1=>
  rename_i f;cases d;subst k;exact⟨.tuple #[],p,w,by simp[AF g f],by simp[Ag],zk hr⟩
 case h_2=>
  rename_i b f;split at d
  case h_2=>cases d
  rename_i es A y;cases d;obtain⟨r,n,hp,rfl⟩:=k;obtain⟨r',n',o,u,h2,l,h3,h4⟩:=hr.obj _ _ y;rw[hp]at u;cases u;subst h3;refine⟨.tuple #[],p,{ w with heap:=w.heap.setIfInBounds r (.map #[] A) },?_,by simp[Ag],yn hr y hp (o':=.map [] A) ⟨_,rfl,.nil⟩ rfl rfl rfl rfl⟩;simp[zd,AF g f,getObj,setObj,zp,h2]
 case h_3=>
  rename_i e f;cases d;subst k;exact⟨.tuple #[],p,w,by simp[AF g f],by simp[Ag],zk hr⟩
 case h_4=>
  rename_i e f;cases d;obtain⟨_,_,rfl⟩:=k;exact⟨.tuple #[],p,w,by simp[AF g f],by simp[Ag],zk hr⟩
 case h_5=>
  rename_i e f;cases d;obtain⟨_,rfl⟩:=k;exact⟨.tuple #[],p,w,by simp[AF g f],by simp[Ag],zk hr⟩
 case h_6=>
  rename_i e b off len cap o f;obtain⟨r,n,c,hp,rfl,_⟩:=k;rw[Bz]at d;by_cases h0:len=0
  ·simp only[h0,decide_true,we,ze,yc]at d;obtain⟨rfl,rfl⟩:=d;subst h0;exact⟨.tuple #[],p,w,by simp[AF g f],by simp[Ag],zk hr⟩
  ·simp only[h0,decide_false,wg]at d;split at d
   case h_2=>cases d
   rename_i i I;cases J:zj 0 i.zero.length with
   |false=>grind
   |true=>
    simp only[J,we,zi]at d;obtain⟨u,B,E⟩:=d;cases E;obtain⟨z,hzz,hzr⟩:=E1 g I;have K:=(hzr p).length;have q:=K8 (hzr p) (by simp_all)<|len*i.zero.length;obtain⟨r',m,w',g1,g2,g3⟩:=Uw (P:=P) hr q B;rw[hp]at g1;cases g1;refine⟨.tuple #[],p,w',?_,by simp[Ag],g3⟩;have:Builtin.zeroCells z.cells len=(Array.range<|len*i.zero.length).map (fun i=>z.cells[i % z.cells.size]!):=by
     grind [Builtin.zeroCells]
    simp only[zd,AF g f,zc,hzz,this,g2,zh]
def AeY(T:Co)(ts:Array TypeId)(args:List V):Option V:=
 match ts[0]?,args with
 |some t,[x]=>
  match T.und t,x with
  |some (.slice _),.sl _ _ _ cap 0=>some<|i64 cap
  |some (.slice _),.nils=>some<|i64 0
  |_,_=>none
 |_,_=>none
theorem AaX(k:T.Ok P){ts:Array TypeId}{t:TypeId}{args:List V}{args':Array Value}(l:AB p args args'.toList){v:V}(f:AeY T ts args=some v):
  ∃v',(Builtin.cap_ ts t args').run P w=.ok v' w/\Ag p v v':=by
 unfold AeY at f;split at f
 case h_2=>cases f
 rename_i t0 x q;obtain⟨x',d,g⟩:=l.one;have i:args'[0]?=some x':=by rw[<-zo,d];rfl
 unfold Builtin.cap_;simp only[q,i];split at f
 case h_3=>cases f
 case h_1=>
  rename_i e b off len cap j;cases f;simp only[Ag]at g;obtain⟨r,n,c,hp,rfl,s,y,o,u⟩:=g;have:=o trivial;subst this;exact⟨_,by simp[zd,AF k j];rfl,by rfl⟩
 case h_2=>
  rename_i e j;cases f;subst g;exact⟨_,by simp[zd,AF k j];rfl,by rfl⟩
def VO(T:Co)(h:H)(src dst:TypeId)(x:V):Option (V×H):=
 match T.und src,T.und dst,x with
 |some .string,some<|.slice e,.str s=>
  match T.und e with
  |some (.int .u8)=>some (.sl h.nx 0 s.length s.length 1,h.push<|.cells (s.map fun b=>.int .u8<|.ofNat b.toNat) e (0,0))
  |_=>none
 |_,_,_=>none
theorem lF(k:T.Ok P)(hr:R p h w){src dst:TypeId}{x:V}{x':Value}(l:Ag p x x'){v:V}{h':H}(f:VO T h src dst x=some (v,h')):
  ∃v' p' w',(convert src dst x').run P w=.ok v' w'/\Ag p' v v'/\Ext p h w p' h' w':=by
 unfold VO at f;split at f
 case h_2=>cases f
 rename_i e s q u;split at f
 case h_2=>cases f
 rename_i t;cases f;subst l;have d:=run_bytes_of_string (P:=P) w src dst e (bytesOf s) (k.und _ _ q) (k.und _ _ u)<|k.und _ _ t;generalize y:grownCap w (bytesOf s).size 0 e=c at d;have j:s.length<=c:=by
  grind [Cb,grownCap,Question.cut]
 have i:(bytesRow (bytesOf s) c).size=c:=by
  grind [bytesRow,bytesOf,Cb]
 have g:=Ext.drew hr<|w.drawn+1;have r:=Ext.push (n:=c) g.rel (o:=.cells (s.map fun b=>.int .u8<|.ofNat b.toNat) e (0,0)) (x:=.cells (bytesRow (bytesOf s) c) e ((bytesRow (bytesOf s) c).size,(bytesRow (bytesOf s) c).size+1)) (by
  refine⟨_,_,rfl,i,by grind,?_,ae⟩;refine AB.toC<|AB.mk ?_ ?_
  ·grind
  ·grind [bytesRow,bytesOf,Ag])
 refine⟨_,_,_,d,?_,g.trans r⟩;refine⟨w.heap.size,c,c,by rw[<-hr.len];simp,by rfl,Nat.le_refl _,j,ae,ae⟩
def AV(T:Co)(h:H)(s d:TypeId)(x:V):Option V:=
 match T.und s,T.und d,x with
 |some (.pointer _),some .unsafePointer,.nilp=>some .nilp
 |some .unsafePointer,some<|.pointer _,.nilp=>some .nilp
 |some (.pointer t),some .unsafePointer,.ptr b off=>
  match T.inf t,h.get b with
  |some i,some (.cells cs _ _)=>bif zj 0 i.size&&zj off cs.length then some (.ptr b off)else none
  |_,_=>none
 |some .unsafePointer,some<|.pointer u,.ptr b off=>
  match T.inf u,h.get b with
  |some i,some (.cells cs e _)=>bif zj 0 i.size&&zu i.size cs.length&&zq e u&&zq off 0 then some (.ptr b 0)else none
  |_,_=>none
 |_,_,_=>none
theorem Xh(hr:R p h w){b:Nat}{cs:List V}{t:TypeId}{fz:Nat×Nat}(d:h.get b=some (.cells cs t fz)):
  ∃r n,p[b]?=some (r,n)/\w.shape? r=some (t,n)/\cs.length<=n:=by
 obtain⟨r,n,x,f,i,c,fz',rfl,g,e,_⟩:=hr.obj b _ d;grind [World.shape?]
theorem jY{u:TypeId}(d:P.cellsOf u≠0)(k:Nat)(c:1<=k):liesAt P P.depth u k 0 u 1=true:=by
 have b:P.depth=(2*(P.types.size+Made.depth)+1)+1:=rfl;rw[b];simp only[liesAt,Bool.or_eq_true];rw[b];simp[rowAt,d,c,sameLayout]
theorem Aaz(f:T.Ok P)(hr:R p h w){s d:TypeId}{x:V}{x':Value}(o:Ag p x x'){v:V}(c:AV T h s d x=some v):
  ∃v',(convert s d x').run P w=.ok v' w/\Ag p v v':=by
 unfold AV at c;split at c
 case h_5=>cases c
 case h_1=>
  rename_i k g;subst o;cases c;refine⟨.pointer none,?_,by rfl⟩;simp[convert,AF f k,AF f g,Conv.unsafePointer]
 case h_2=>
  rename_i k g;subst o;cases c;refine⟨.pointer none,?_,by rfl⟩;simp[convert,AF f k,AF f g,Conv.unsafePointer]
 case h_3=>
  rename_i t b off k g;split at c
  case h_2=>cases c
  rename_i i cs e fz A y;cases l:(zj 0 i.size&&zj off cs.length)with
  |false=>grind
  |true=>
   rw[l]at c;cases c;simp only[zr,z8]at l;obtain⟨j,z,q,G,_⟩:=f.inf t i A;obtain⟨r,n,k1,k2,k3⟩:=Xh hr y;obtain⟨r',n',q1,rfl⟩:=o;rw[k1]at q1;cases q1;refine⟨_,Lib.run_to_unsafe w ⟨r,off,none⟩ (f.und _ _ k) (f.und _ _ g) q ae k2 ah,?_⟩;simp_all [Ag]
 case h_4=>
  rename_i u b off k g;split at c
  case h_2=>cases c
  rename_i i cs e fz A y;cases l:(zj 0 i.size&&zu i.size cs.length&&zq e u&&zq off 0)with
  |false=>grind
  |true=>
   rw[l]at c;cases c;simp only[zr,z8,yp,Bz,w5]at l;obtain⟨⟨⟨E,I⟩,rfl⟩,rfl⟩:=l;obtain⟨j,z,q,G,_⟩:=f.inf e i A;obtain⟨r,n,k1,k2,k3⟩:=Xh hr y;obtain⟨r',n',q1,rfl⟩:=o;rw[k1]at q1;cases q1;have B:P.cellsOf e=i.size:=by grind [Program.cellsOf]
   have D:1<=n/P.cellsOf e:=by rw[B];exact Nat.div_pos ae E
   refine⟨_,Lib.run_from_unsafe w ⟨r,0,none⟩ (f.und _ _ k) (f.und _ _ g) q k2 (jY ae _ D),?_⟩;simp_all [Ag]
def Se(args:List V):Option V:=
 match args with
 |[.nils]=>some .nilp
 |[.sl b off _ cap _]=>bif zj 0 cap then some (.ptr b off)else none
 |_=>none
theorem lE{ts:Array TypeId}{t:TypeId}{args:List V}{args':Array Value}(e:AB p args args'.toList){v:V}(d:Se args=some v):
  ∃v',(Builtin.unsafeSliceData_ ts t args').run P w=.ok v' w/\Ag p v v':=by
 unfold Se at d;split at d
 case h_3=>cases d
 case h_1=>
  cases d;obtain⟨x,i,f⟩:=e.one;have:args'= #[x]:=ah;simp_all [Ag,Lib.run_unsafeSliceData_nil]
 case h_2=>
  rename_i b off len cap o;cases g:zj 0 cap with
  |false=>grind
  |true=>
   rw[g]at d;cases d;rw[z8]at g;obtain⟨x,i,f⟩:=e.one;have:args'= #[x]:=ah;subst this;obtain⟨r,n,c,g1,rfl,g2,g3,_⟩:=f;exact⟨_,Lib.run_unsafeSliceData_row w ts t _ len c ae,by simp_all [Ag]⟩
def US:V->Option UInt8
 | .int .u8 (.ofNat n)=>bif zj n 256 then some (UInt8.ofNat n)else none
 |_=>none
def IX:List V->Option Z
 |[]=>some []
 |v::vs=>
  match US v,IX vs with
  |some b,some c=>some (b::c)
  |_,_=>none
theorem wQ{c:V}{b:UInt8}(h:US c=some b):c=.int .u8 (b.toNat:Int):=by
 unfold US at h;split at h
 case h_2=>cases h
 rename_i n;cases d:zj n 256 with
 |false=>grind
 |true=>
  rw[z8]at d;have:(UInt8.ofNat n).toNat=n:=by simp;omega
  grind
theorem Mu:∀ {cs:List V} {l:Z},IX cs=some l->cs=l.map fun b=>V.int .u8 (b.toNat:Int)
 |[],l,d=>by cases d;rfl
 |c::cs,l,d=>by
  unfold IX at d;split at d
  case h_2=>cases d
  rename_i b tl f e;cases d;rw[wQ f,Mu e];rfl
def XW(T:Co)(h:H)(ts:List TypeId)(args:List V):Option (V×H):=
 match ts,args with
 |[pt,_],[.ptr b 0,.int .i64<|.ofNat n]=>
  match T.und pt,h.get b with
  |some (.pointer e),some (.cells cs c fz)=>
   match T.inf e,IX (cs.take n)with
   |some i,some l=>bif zq i.size 1&&zq e c&&zj 0 n&&zu n cs.length&&zu n 9223372036854775807&&zu fz.2 fz.1 then some (.str l,h.kill b)else none
   |_,_=>none
  |_,_=>none
 |_,_=>none
theorem Ext.gone{w':World}(hr:R p h w){b r n:Nat}{o:O}{x':Obj}(i:h.get b=some o)(hp:p[b]?=some (r,n))
  (q:w'.heap=w.heap.setIfInBounds r x') (D:w'.os=w.os) (A:w'.output=w.output) (x:w'.tape=w.tape) (G:∀cs t fz,o=.cells cs t fz->¬Lk n fz):Ext p h w p (h.kill b) w':=by
 refine⟨(by simp),⟨hr.len,fun c k d=>?_,(hr.kill b).inj⟩,by simp[q],fun s E I=>?_,fun s K=>?_,D,A,x,fun s E z=>?_⟩
 ·rw[H.Ea]at d;by_cases e:c=b
  ·grind
  ·rw[wc e]at d;obtain⟨s,m,y,l,L,J⟩:=hr.obj c k d;have g:r≠s:=fun f=>e<|hr.inj c b k o s m n d i l<|f▸hp
   grind
 ·grind [Im]
 ·grind [H.Ea,Im]
 ·obtain⟨c,m,cs,t,fz,B,j,u⟩:=z;by_cases e:c=b
  ·grind
  ·have g:r≠s:=fun f=>e<|hr.inj c b _ o s m n B i j<|f▸hp
   refine⟨by grind,.inl ⟨c,m,cs,t,fz,by simp_all,j,u⟩⟩
theorem Yq{w:World}{r n:Nat}{c:Array Value}{e:TypeId}{fz:Nat×Nat}(b:w.heap[r]?=some (.cells c e fz))(h0:n≠0):
  ∃fz',(w.freeze ⟨r,0,none⟩ n).heap=w.heap.setIfInBounds r (.cells c e fz'):=by
 refine⟨if fz.1==fz.2 then(0,0+n)else(min fz.1 0,max fz.2<|0+n),?_⟩;simp_all [World.freeze,Sz]
theorem wJ(K:T.Ok P)(hr:R p h w){ts:Array TypeId}{t:TypeId}{args:List V}{args':Array Value}(L:AB p args args'.toList){v:V}{h':H}(d:XW T h ts.toList args=some (v,h')):
  ∃v' w',(Builtin.unsafeString_ ts t args').run P w=.ok v' w'/\Ag p v v'/\Ext p h w p h' w':=by
 unfold XW at d;split at d
 case h_2=>cases d
 rename_i pt G b n s;have s:ts= #[pt,G]:=ah;subst s;split at d
 case h_2=>cases d
 rename_i e cs Q fz W I;split at d
 case h_2=>cases d
 rename_i i l O N;cases J:(zq i.size 1&&zq e Q&&zj 0 n&&zu n cs.length&&zu n 9223372036854775807&&zu fz.2 fz.1)with
 |false=>grind
 |true=>
  rw[J]at d;cases d;simp only[zr,z8,yp,Bz,w5]at J;obtain⟨x,y,D,u,U⟩:=L.two;have:args'= #[x,y]:=ah;subst this;obtain⟨r,m,u,rfl⟩:=u;subst U;obtain⟨r',m',ob,k1,k2,c,fz',rfl,k4,k5,k6,k7⟩:=hr.obj b _ I;rw[u]at k1;cases k1;obtain⟨j,z,j1,j2,_⟩:=K.inf e i O;have B:P.cellsOf e=1:=by grind [Program.cellsOf]
  have k:=Mu N;have q:l.length=n:=by
   have:=wi List.length k;grind
  have E:w.shape? r=some (e,m):=by grind [World.shape?]
  have f:∀j x,l[j]?=some x->w.cell? ((⟨r,0,none⟩:Addr).add j)=some (.int .u8 x.toNat):=by
   intro j x Z;have M:cs[j]?=some (.int .u8 (x.toNat:Int)):=by
    have:=wi (·[j]?) k;grind
   obtain⟨v,hv,Y⟩:=k6.get M rfl;grind [Ag,Addr.Of,World.cell?]
  have o:=Lib.run_unsafeString_row w pt G t e (K.und _ _ W) B r m E l ah ae ae f;obtain⟨X,A⟩:=Yq (n:=l.length) k2 ae;refine⟨.string<|bytesOf l,w.freeze ⟨r,0,none⟩ l.length,?_,by rfl,?_⟩
  ·rw[<-q];exact o
  ·have g:(w.freeze ⟨r,0,none⟩ l.length).os=w.os/\(w.freeze ⟨r,0,none⟩ l.length).output=w.output/\(w.freeze ⟨r,0,none⟩ l.length).tape=w.tape:=by
    unfold World.freeze;grind
   exact Ext.gone hr I u A g.1 g.2.1 g.2.2 (by
    grind [Lk])
end
mutual
def cv:Value->Option V
 | .bool b=>some<|.bool b
 | .int k n=>some<|.int k n
 | .string s=>some<|.str s.data.toList
 | .pointer none=>some .nilp
 | .slice none 0 0=>some .nils
 | .map none=>some .nilm
 | .nilFunc=>some .nilf
 | .nilIface=>some .nili
 | .func f ⟨[]⟩ ⟨[]⟩=>some<|.fn f [] []
 | .agg ⟨cs⟩=>(cvs cs).map .agg
 | .tuple ⟨cs⟩=>(cvs cs).map .tup
 |_=>none
def cvs:List Value->Option (List V)
 |[]=>some []
 |v::vs=>match cv v,cvs vs with
  |some x,some b=>some (x::b)
  |_,_=>none
end
mutual
theorem bQ(p:Pl):∀ {v:Value} {x:V},cv v=some x->Ag p x v
 | .bool b,x,h=>by grind [cv,Ag]
 | .int k n,x,h=>by grind [cv,Ag]
 | .string s,x,h=>by simp[cv]at h;subst h;rfl
 | .pointer none,x,h=>by grind [cv,Ag]
 | .pointer (some a),x,h=>by simp[cv]at h
 | .slice none 0 0,x,h=>by grind [cv,Ag]
 | .slice none 0 (_+1),x,h=>by simp[cv]at h
 | .slice none (_+1) _,x,h=>by simp[cv]at h
 | .slice (some a) _ _,x,h=>by simp[cv]at h
 | .map none,x,h=>by grind [cv,Ag]
 | .map (some a),x,h=>by simp[cv]at h
 | .nilFunc,x,h=>by grind [cv,Ag]
 | .nilIface,x,h=>by grind [cv,Ag]
 | .func f ⟨[]⟩ ⟨[]⟩,x,h=>by simp[cv]at h;subst h;simp[Ag]
 | .func f ⟨_::_⟩ _,x,h=>by simp[cv]at h
 | .func f ⟨[]⟩ ⟨_::_⟩,x,h=>by simp[cv]at h
 | .agg ⟨cs⟩,x,h=>by
  simp only[cv,zi]at h;obtain⟨d,c,rfl⟩:=h;exact⟨_,rfl,VN p c⟩
 | .tuple ⟨cs⟩,x,h=>by
  simp only[cv,zi]at h;obtain⟨d,c,rfl⟩:=h;exact⟨_,rfl,VN p c⟩
 | .float _ _,x,h=>by simp[cv]at h
 | .complex _ _ _,x,h=>by simp[cv]at h
 | .chan _,x,h=>by simp[cv]at h
 | .iface _ _,x,h=>by simp[cv]at h
theorem VN(p:Pl):∀ {vs:List Value} {b:List V},cvs vs=some b->AB p b vs
 |[],b,h=>by simp_all [cvs]
 |v::vs,b,h=>by
  unfold cvs at h;split at h
  case h_2=>cases h
  rename_i x c e d;cases h;exact(BE ..).2 ⟨bQ p e,VN p d⟩
end
structure Fn where
 ntmps:Nat
 results:Array ResultVar
 body:Code
 cert:Bool
structure Ctx where
 T:Co
 ng:Nat
 fn:FuncId->Option Fn
 prim:FuncId->Option (List V->H->Option (V×H))
 spec:FuncId->Option (List V->H->Option (V×H))
 mg:Bool
def Gl(_:Ctx)(p:Pl):Prop:=Gp p
theorem Gl.ext{C:Ctx}{p p':Pl}{h h':H}{w w':World}(b:Gl C p)(e:Ext p h w p' h' w'):Gl C p':=by
 obtain⟨q,rfl⟩:=e.pre;exact Gp.app b q
def ev(_:Ctx)(fr:Fr):Operand->Option V
 | .tmp t=>some<|fr.get t
 | .const v=>cv v
 | .global g=>bif gin g Hd then some (.ptr g 0)else none
 | .func f=>some<|.fn (.func f) [] []
theorem Bj{C:Ctx}{p:Pl}{fr:Fr}{a:Act}(e:Gl C p)(i:CS p fr a){x:Operand}{v:V}(b:ev C fr x=some v):Ag p v (a.eval x):=by
 cases x with
 |tmp t=>grind [ev,Act.eval,CS]
 |const v=>exact bQ p b
 |global g=>
  simp only[ev]at b;cases c:gin g Hd with
  |true=>
   rw[c]at b;simp only[we,ze]at b;subst b;obtain⟨o,d⟩:=gA c;exact⟨g,_,e _ d,rfl⟩
  |false=>grind
 |func f=>simp only[ev,ze]at b;subst b;simp[Ag,Act.eval]
def Xp(C:Ctx)(fr:Fr):List Operand->Option (List V)
 |[]=>some []
 |x::b=>match ev C fr x,Xp C fr b with
  |some v,some vs=>some (v::vs)
  |_,_=>none
theorem KW{C:Ctx}{p:Pl}{fr:Fr}{a:Act}(d:Gl C p)(c:CS p fr a):∀ {b:List Operand} {vs:List V},Xp C fr b=some vs->AB p vs (b.map a.eval)
 |[],vs,h=>by simp_all [Xp]
 |x::b,vs,h=>by
  unfold Xp at h;split at h
  case h_2=>cases h
  rename_i v g f e;cases h;exact(BE ..).2 ⟨Bj d c f,KW d c e⟩
def YV(C:Ctx)(fr:Fr):Option Operand->Option (Option V)
 |none=>some none
 |some x=>(ev C fr x).map some
theorem PU{C:Ctx}{p:Pl}{fr:Fr}{a:Act}(e:Gl C p)(c:CS p fr a){x:Option Operand}{v:Option V}(b:YV C fr x=some v):Is p v (x.map a.eval):=by
 cases x with
 |none=>simp[YV]at b;subst b;rfl
 |some x=>
  simp only[YV,zi]at b;obtain⟨u,d,rfl⟩:=b;exact⟨_,rfl,Bj e c d⟩
def aJ(C:Ctx)(fr:Fr):List (Nat×Operand)->Option (List<|Nat×V)
 |[]=>some []
 |(i,x)::b=>match ev C fr x,aJ C fr b with
  |some v,some vs=>some ((i,v)::vs)
  |_,_=>none
theorem P9{C:Ctx}{p:Pl}{fr:Fr}{a:Act}(d:Gl C p)(c:CS p fr a):∀ {b:List (Nat×Operand)} {vs:List (Nat×V)},aJ C fr b=some vs->WK p vs (b.map fun(i,x)=>(i,a.eval x))
 |[],vs,h=>by simp[aJ]at h;subst h;exact .nil
 |(i,x)::b,vs,h=>by
  unfold aJ at h;split at h
  case h_2=>cases h
  rename_i v f e g;cases h;exact .cons (Bj d c e)<|P9 d c g
inductive OR where
 |val (v:V) (h:H)
 |skip (h:H)
 |enter (f:FuncId) (args:List V)
 |round (b:Nat) (l:LS) (fr:Fr)
 |alts (l:List (V×H))
def Fr.iV(f:Fr)(t:Nat)(v:V):Fr:=bif zj t f.n then⟨f.n,f.m.set t<|some v⟩else f
def Ik:List Tmp->List V->Fr->Fr
 |t::ts,v::vs,f=>Ik ts vs<|f.iV t v
 |_,_,f=>f
theorem Ff.iV{p:Pl}{f:Fr}{tmps:Array Value}(c:Ff p f tmps){v:V}{v':Value}(g:Ag p v v')(t:Nat):Ff p (f.iV t v) (tmps.setIfInBounds t v'):=by
 unfold Fr.iV;simp only[H4];by_cases b:t<f.n
 ·simp only[b,decide_true,we];refine⟨by simp[c.1],fun s=>?_⟩;have d:t<tmps.size:=c.1▸b;by_cases e:s=t
  ·simp_all [Fr.get]
  ·have:=c.2 s;simp only[Fr.get,PM.DZ,wc e]at this ⊢;rw[zl,zy ae, <-zl];omega
 ·grind [Ff]
theorem Ff.Ik{p:Pl}:∀ {ts:List Tmp} {vs:List V} {b:List Value},AB p vs b->∀ {f:Fr} {tmps:Array Value},Ff p f tmps->Ff p (Ik ts vs f) ((ts.zip b).foldl (fun tmps (t,a)=>tmps.setIfInBounds t a) tmps)
 |[],vs,b,_,f,tmps,c=>by simpa [Det.Ik]using c
 |t::ts,[],b,d,f,tmps,c=>by simp_all [Det.Ik]
 |t::ts,v::vs,b,d,f,tmps,c=>by
  obtain⟨u,i,rfl,e,g⟩:=d;exact Ff.Ik g<|c.iV e t
def BT(h:H):Option V->Option OR
 |some v=>some<|.val v h
 |none=>none
def Gm:Option (V×H)->Option OR
 |some (v,h)=>some<|.val v h
 |none=>none
def vH:Option H->Option OR
 |some h=>some<|.skip h
 |none=>none
def FR(C:Ctx)(h:H)(b:Builtin)(ts:Array TypeId)(args:List V):Option OR:=
 match b with
 | .len=>BT h<|Ha C.T h ts args
 | .append=>Gm<|Hl C.T h ts args
 | .copy=>Gm<|yZ C.T h ts args
 | .max=>BT h<|HB nM args
 | .min=>BT h<|HB Ac6 args
 | .cap=>BT h<|AeY C.T ts args
 | .delete=>Gm<|M8 C.T h ts args
 | .clear=>Gm<|GO C.T h ts args
 | .unsafeSliceData=>BT h<|Se args
 | .unsafeString=>Gm<|XW C.T h ts.toList args
 |_=>none
def Je(C:Ctx)(h:H)(f:V)(args:List V):Option OR:=
 match f with
 | .fn (.func g) first captured=>
  match C.prim g with
  |some q=>Gm<|q (first++args++captured) h
  |none=>match C.fn g with
   |some _=>some<|.enter g<|first++args++captured
   |none=>none
 | .yld b=>match h.get b with
  |some (.loop l)=>bif zq args.length l.ps.size then some (.round b l<|Ik l.ps.toList args l.fr)else none
  |_=>none
 |_=>none
def Qp(C:Ctx)(h:H)(x:V)(name:String)(args:List V):Option OR:=
 match x with
 | .iface t v=>match C.T.mth t name with
  |some g=>Je C h (.fn (.func g) [] []) (v::args)
  |none=>none
 |_=>none
def eQ:Operand->Bool
 | .const _=>true
 |_=>false
def AaY(T:Co)(op:BinOp)(t:TypeId)(x y:Operand)(v u:V):Option V:=
 match op,v,u,T.und t with
 | .eql,.nili,.nili,some (.interface _)=>bif eQ x||eQ y then some (.bool true)else none
 | .neq,.nili,.nili,some (.interface _)=>bif eQ x||eQ y then some (.bool false)else none
 |_,_,_,_=>none
def Lm(T:Co)(op:BinOp)(t:TypeId)(x y:Operand)(v u:V):Option V:=
 match AaY T op t x y v u with
 |some r=>some r
 |none=>LZ T op t v u
def HT(C:Ctx)(fr:Fr)(h:H)(o:Oper):Option OR:=
 let ρ:=ev C fr
 match o.op with
 | .move x| .assign x=>BT h<|ρ x
 | .pick c a b=>match ρ c with
  |some (.bool t)=>BT h<|if t then ρ a else ρ b
  |_=>none
 | .alloc t=>Gm<|HM C.T h t
 | .box t x=>Gm<|(ρ x).map fun v=>kF h t v
 | .build t e=>match aJ C fr e.toList with
  |some ps=>BT h<|LI C.T t ps
  |none=>none
 | .buildSlice t n e=>match aJ C fr e.toList with
  |some ps=>Gm<|FC C.T h t n ps
  |none=>none
 | .load t x=>match ρ x with
  |some v=>BT h<|F4 C.T h t v
  |none=>none
 | .store t x y=>match ρ x,ρ y with
  |some v,some u=>vH<|I9 C.T h t v u
  |_,_=>none
 | .nilCheck x=>match ρ x with
  |some (.ptr b i)=>BT h<|some<|.ptr b i
  |some (.iface t v)=>BT h<|some<|.iface t v
  |_=>none
 | .binOp op t x y _=>match ρ x,ρ y with
  |some v,some u=>BT h<|Lm C.T op t x y v u
  |_,_=>none
 | .unOp op _ x=>match ρ x with
  |some v=>BT h<|dun op v
  |none=>none
 | .convert s d x=>match ρ x with
  |some v=>BT h<|GU C.T h s d v
  |none=>none
 | .makeInterface t x=>match ρ x,C.T.und t with
  |some v,some d=>match d with
   | .interface _=>none
   |_=>BT h<|some<|.iface t v
  |_,_=>none
 | .makeFunc f first captured=>match Xp C fr first.toList,Xp C fr captured.toList with
  |some a,some b=>BT h<|some<|.fn f a b
  |_,_=>none
 | .makeMap _ r=>match YV C fr r with
  |some v=>Gm<|JZ h v
  |none=>none
 | .makeSlice t l c=>match ρ l,ρ c with
  |some v,some u=>Gm<|Q0 C.T h t v u
  |_,_=>none
 | .slice t x lo q mx=>match ρ x,YV C fr lo,YV C fr q,YV C fr mx with
  |some v,some l,some r,some m=>BT h<|Ex C.T t v l r m
  |_,_,_,_=>none
 | .fieldAddr t x f=>match ρ x with
  |some v=>BT h<|LD C.T t v f
  |none=>none
 | .field t x f=>match ρ x with
  |some v=>BT h<|Mc C.T t v f
  |none=>none
 | .indexAddr t x i=>match ρ x,ρ i with
  |some v,some u=>BT h<|Gi C.T t v u
  |_,_=>none
 | .index t x i=>match ρ x,ρ i with
  |some v,some u=>BT h<|Kb C.T t v u
  |_,_=>none
 | .lookup t x i ok=>match ρ x,ρ i with
  |some v,some u=>BT h<|FA C.T h t v u ok
  |_,_=>none
 | .mapUpdate t m k x| .insert t m k x=>match ρ m,ρ k,ρ x with
  |some a,some b,some c=>vH<|IQ C.T h t a b c
  |_,_,_=>none
 | .range t x=>match ρ x with
  |some v=>Gm<|IY C.T h t v
  |none=>none
 | .next x j=>match ρ x with
  |some v=>bif j then Gm (Pk h v j)else(V2 h v j).map .alts
  |none=>none
 | .entry x=>match ρ x with
  |some v=>BT h<|Va h v
  |none=>none
 | .extract x i=>match ρ x with
  |some v=>BT h<|Ir v i
  |none=>none
 | .call c=>match c.callee,Xp C fr c.args.toList with
  | .builtin b,some args=>FR C h b c.argTypes args
  | .value f,some args=>match ρ f with
   |some g=>Je C h g args
   |none=>none
  | .invoke x z,some args=>match ρ x with
   |some v=>Qp C h v z args
   |none=>none
  |_,_=>none
 |_=>none
abbrev Hg:=Ctx->Fr->H->Option OR
def Agr(a0:Operand):Hg:=fun C fr h=>BT h<|ev C fr a0
def rS(a0:Operand):Hg:=fun C fr h=>BT h<|ev C fr a0
def AeU(a0:Operand)(a1:Operand)(a2:Operand):Hg:=fun C fr h=>match ev C fr a0 with|some (.bool t)=>BT h (if t then ev C fr a1 else ev C fr a2)|_=>none
def Abq(a0:TypeId):Hg:=fun C _fr h=>Gm<|HM C.T h a0
def AhT(a0:TypeId)(a1:Operand):Hg:=fun C fr h=>Gm<|(ev C fr a1).map fun v=>kF h a0 v
def AcH(a0:TypeId)(a1:Array (Nat×Operand)):Hg:=fun C fr h=>match aJ C fr a1.toList with|some ps=>BT h (LI C.T a0 ps)|none=>none
def UL(a0:TypeId)(a1:Nat)(a2:Array (Nat×Operand)):Hg:=fun C fr h=>match aJ C fr a2.toList with|some ps=>Gm (FC C.T h a0 a1 ps)|none=>none
def pX(a0:TypeId)(a1:Operand)(a2:Operand)(a3:Operand):Hg:=fun C fr h=>match ev C fr a1,ev C fr a2,ev C fr a3 with|some a,some b,some c=>vH (IQ C.T h a0 a b c)|_,_,_=>none
def Aef(a0:TypeId)(a1:Operand):Hg:=fun C fr h=>match ev C fr a1 with|some v=>BT h (F4 C.T h a0 v)|none=>none
def AcF(a0:TypeId)(a1:Operand)(a2:Operand):Hg:=fun C fr h=>match ev C fr a1,ev C fr a2 with|some v,some u=>vH (I9 C.T h a0 v u)|_,_=>none
def Ab6(_a0:Nat):Hg:=fun _ _ _=>none
def Acp(_a0:Nat):Hg:=fun _ _ _=>none
def Y5(a0:Operand):Hg:=fun C fr h=>match ev C fr a0 with|some (.ptr b i)=>BT h (some<|.ptr b i)|some (.iface t v)=>BT h (some<|.iface t v)|_=>none
def Abt(a0:BinOp)(a1:TypeId)(a2:Operand)(a3:Operand)(_a4:TypeId):Hg:=fun C fr h=>match ev C fr a2,ev C fr a3 with|some v,some u=>BT h (Lm C.T a0 a1 a2 a3 v u)|_,_=>none
def Afy(a0:UnOp)(_a1:TypeId)(a2:Operand):Hg:=fun C fr h=>match ev C fr a2 with|some v=>BT h (dun a0 v)|none=>none
def kC(a0:TypeId)(a1:TypeId)(a2:Operand):Hg:=fun C fr h=>match ev C fr a2 with|some v=>BT h (GU C.T h a0 a1 v)|none=>none
def Jm(_a0:TypeId)(_a1:Operand):Hg:=fun _ _ _=>none
def PE(a0:TypeId)(a1:Operand):Hg:=fun C fr h=>match ev C fr a1,C.T.und a0 with|some v,some d=>(match d with| .interface _=>none|_=>BT h<|some<|.iface a0 v)|_,_=>none
def Z3(a0:Go.Fn)(a1:Array Operand)(a2:Array Operand):Hg:=fun C fr h=>match Xp C fr a1.toList,Xp C fr a2.toList with|some a,some b=>BT h (some<|.fn a0 a b)|_,_=>none
def mM(_a0:TypeId)(a1:Option Operand):Hg:=fun C fr h=>match YV C fr a1 with|some v=>Gm (JZ h v)|none=>none
def Ze(_a0:TypeId)(_a1:Operand):Hg:=fun _ _ _=>none
def W6(a0:TypeId)(a1:Operand)(a2:Operand):Hg:=fun C fr h=>match ev C fr a1,ev C fr a2 with|some v,some u=>Gm (Q0 C.T h a0 v u)|_,_=>none
def AcC(a0:TypeId)(a1:Operand)(a2:Option Operand)(a3:Option Operand)(a4:Option Operand):Hg:=fun C fr h=>match ev C fr a1,YV C fr a2,YV C fr a3,YV C fr a4 with|some v,some l,some r,some m=>BT h (Ex C.T a0 v l r m)|_,_,_,_=>none
def WD(a0:TypeId)(a1:Operand)(a2:Nat):Hg:=fun C fr h=>match ev C fr a1 with|some v=>BT h (LD C.T a0 v a2)|none=>none
def AaA(a0:TypeId)(a1:Operand)(a2:Nat):Hg:=fun C fr h=>match ev C fr a1 with|some v=>BT h (Mc C.T a0 v a2)|none=>none
def XD(a0:TypeId)(a1:Operand)(a2:Operand):Hg:=fun C fr h=>match ev C fr a1,ev C fr a2 with|some v,some u=>BT h (Gi C.T a0 v u)|_,_=>none
def AaD(a0:TypeId)(a1:Operand)(a2:Operand):Hg:=fun C fr h=>match ev C fr a1,ev C fr a2 with|some v,some u=>BT h (Kb C.T a0 v u)|_,_=>none
def zP(a0:TypeId)(a1:Operand)(a2:Operand)(a3:Bool):Hg:=fun C fr h=>match ev C fr a1,ev C fr a2 with|some v,some u=>BT h (FA C.T h a0 v u a3)|_,_=>none
def XN(a0:TypeId)(a1:Operand)(a2:Operand)(a3:Operand):Hg:=fun C fr h=>match ev C fr a1,ev C fr a2,ev C fr a3 with|some a,some b,some c=>vH (IQ C.T h a0 a b c)|_,_,_=>none
def aF(_a0:TypeId)(_a1:Operand)(_a2:Operand):Hg:=fun _ _ _=>none
def Vo(_a0:TypeId)(_a1:Operand)(_a2:Operand)(_a3:Operand):Hg:=fun _ _ _=>none
def AaK(a0:TypeId)(a1:Operand):Hg:=fun C fr h=>match ev C fr a1 with|some v=>Gm (IY C.T h a0 v)|none=>none
def AfY(a0:Operand)(a1:Bool):Hg:=fun C fr h=>match ev C fr a0 with|some v=>bif a1 then Gm (Pk h v a1)else(V2 h v a1).map .alts|none=>none
def AbH(a0:Operand):Hg:=fun C fr h=>match ev C fr a0 with|some v=>BT h (Va h v)|none=>none
def Vj(_a0:Operand)(_a1:TypeId)(_a2:TypeId)(_a3:Bool):Hg:=fun _ _ _=>none
def kR(a0:Operand)(a1:Nat):Hg:=fun C fr h=>match ev C fr a0 with|some v=>BT h (Ir v a1)|none=>none
def Aes(a0:Call):Hg:=fun C fr h=>match a0.callee,Xp C fr a0.args.toList with| .builtin b,some args=>FR C h b a0.argTypes args| .value f,some args=>(match ev C fr f with|some g=>Je C h g args|none=>none)| .invoke x c,some args=>(match ev C fr x with|some v=>Qp C h v c args|none=>none)|_,_=>none
def Ajg(_a0:Call):Hg:=fun _ _ _=>none
def AaT(_a0:Call):Hg:=fun _ _ _=>none
def AcQ(_a0:Operand):Hg:=fun _ _ _=>none
def AfD(_a0:Operand)(_a1:Operand):Hg:=fun _ _ _=>none
def AfA(_a0:TypeId)(_a1:Operand)(_a2:Bool):Hg:=fun _ _ _=>none
def wM(_a0:Array SelectCase)(_a1:Bool):Hg:=fun _ _ _=>none
def opF(o:Op):Hg:=@Op.casesOn (fun _=>Hg) o Agr rS AeU Abq AhT AcH UL pX Aef AcF Ab6 Acp Y5 Abt Afy kC Jm PE Z3 mM Ze W6 AcC WD AaA XD AaD zP XN aF Vo AaK AfY AbH Vj kR Aes Ajg AaT AcQ AfD AfA wM
def HN(C:Ctx)(fr:Fr)(h:H)(o:Oper):Option OR:=opF o.op C fr h
theorem Dn(C:Ctx)(fr:Fr)(h:H)(o:Oper):HN C fr h o=HT C fr h o:=by
 unfold HN HT;cases o.op<;>rfl
def JE(C:Ctx)(fr:Fr)(h:H)(o:Oper):Option OR:=
 match HN C fr h o with
 |some r=>some r
 |none=>match o.op with
  | .convert s d x=>match ev C fr x with
   |some v=>match AV C.T h s d v with
    |some u=>some<|.val u h
    |none=>Gm<|VO C.T h s d v
   |none=>none
  |_=>none
structure Ctx.Ok(C:Ctx)(P:Program):Prop where
 T:C.T.Ok P
 fn : ∀ f i, C.fn f = some i -> ∃ fn, P.funcs[f]? = some fn /\ fn.name ≠ "runtime.NumGoroutine" /\ fn.body = some i.body /\ fn.ntmps = i.ntmps /\ fn.results = i.results
 prim:∀f q,C.prim f=some q->∀(p:Pl) (h:H) (w:World) (args:List V) (args':Array Value) v h',R p h w->Gl C p->AB p args args'.toList->q args h=some (v,h')->
  ∃v' p' w',(callFunc f args').run P w=.ok (.value v') w'/\Ag p' v v'/\Ext p h w p' h' w'
 spec:∀f q,C.spec f=some q->∀(p:Pl) (h:H) (w:World) (args:List V) (args':Array Value) v h',R p h w->Gl C p->AB p args args'.toList->q args h=some (v,h')->
  Calls P f args' w fun e w'=>∃v' p',e=.returned v'/\Ag p' v v'/\Ext p h w p' h' w'
def Ta(p:Pl)(h:H)(w:World):OR->Result Next->Prop
 | .val v h',r=>∃v' p' w',r=.ok (.value v') w'/\Ag p' v v'/\Ext p h w p' h' w'
 | .skip h',r=>∃p' w',r=.ok .skip w'/\Ext p h w p' h' w'
 | .enter f args,r=>∃args',r=.ok (.enter f args') w/\AB p args args'.toList
 | .round b l fr,r=>∃k n f tmps,p[b]?=some (k,n)/\h.get b=some (.loop l)/\r=.ok (.round k f tmps l.asg l.body) w/\Ff p fr tmps
 | .alts l,r=>∃v h' v' p' w',(v,h')∈l/\r=.ok (.value v') w'/\Ag p' v v'/\Ext p h w p' h' w'
section
variable {C:Ctx}{P:Program}{p:Pl}{h:H}{w:World}{fr:Fr}{a:Act}
theorem Ci{s:Sem Value}{v:Option V}{r:OR}(hr:R p h w)(b:BT h v=some r)(e:∀x,v=some x->∃v',s.run P w=.ok v' w/\Ag p x v'):Ta p h w r ((do pure (.value<|<-s):Sem Next).run P w):=by
 cases v with
 |none=>simp[BT]at b
 |some x=>
  simp only[BT,ze]at b;subst b;obtain⟨v',d,c⟩:=e x rfl;exact⟨v',p,w,by simp[d],c,zk hr⟩
theorem D2{s:Sem Value}{v:Option (V×H)}{r:OR}(b:Gm v=some r)(c:∀x h',v=some (x,h')->∃v' p' w',s.run P w=.ok v' w'/\Ag p' x v'/\Ext p h w p' h' w'):Ta p h w r ((do pure (.value<|<-s):Sem Next).run P w):=by
 match v,b,c with
 |some (x,h'),b,c=>
  simp only[Gm,ze]at b;subst b;obtain⟨v',p',w',f,e,d⟩:=c x h' rfl;exact⟨v',p',w',by simp[f],e,d⟩
 |none,b,_=>simp[Gm]at b
theorem eE{s:Sem Unit}{v:Option H}{r:OR}(b:vH v=some r)(e:∀h',v=some h'->∃w',s.run P w=.ok () w'/\Ext p h w p h' w'):Ta p h w r ((do s;pure .skip:Sem Next).run P w):=by
 cases v with
 |none=>simp[vH]at b
 |some h'=>
  simp only[vH,ze]at b;subst b;obtain⟨w',d,c⟩:=e h' rfl;exact⟨p,w',by simp[d],c⟩
theorem NS(G:C.Ok P)(hr:R p h w)(N:Gl C p){f:V}{E:Value}{args:List V}{args':Array Value}(B:Ag p f E)(s:AB p args args'.toList){r:OR}(b:Je C h f args=some r):
  Ta p h w r ((do let d<-zt E args';invoke d.target d.args:Sem Next).run P w):=by
 unfold Je at b;split at b
 case h_3=>cases b
 case h_2=>
  split at b
  case h_2=>cases b
  rename_i l A;rw[Bz]at b;by_cases K:args.length=l.ps.size
  ·simp only[K,decide_true,we,ze]at b;subst b;obtain⟨k,n,hp,rfl⟩:=B;obtain⟨k',n',o,z,u,f0,tmps,r,m,j,J,rfl⟩:=hr.obj _ _ A;have Q:=s.length;simp only[zt,zd,zh,zc,invoke];have e:((l.ps.zip args').foldl (fun tmps (t,a)=>tmps.setIfInBounds t a) tmps)=(l.ps.toList.zip args'.toList).foldl (fun tmps (t,a)=>tmps.setIfInBounds t a) tmps:=by
    grind [Array.toList_zip]
   have D:=Ff.Ik (ts:=l.ps.toList) s j;refine⟨k,n,f0,_,hp,A,?_,D⟩;simp_all [run_yield]
  grind
 rename_i g first captured
 obtain⟨x,y,rfl,I,O⟩:=B;have c:AB p (first++args++captured) (x++args'++y).toList:=by
  simpa using(I.append s).append O
 simp only[zt,zd,zh,zc,invoke];split at b
 case h_1=>
  rename_i q M;match hqr:q (first++args++captured) h,b with
  |some (v,h'),b=>
   simp only[Gm,ze]at b;subst b;obtain⟨v',p',w',z,u,j⟩:=G.prim g q M p h w _ _ v h' hr N c hqr;exact⟨v',p',w',z,u,j⟩
  |none,b=>simp[Gm]at b
 case h_2=>
  split at b
  case h_2=>cases b
  rename_i i L;cases b;obtain⟨fn,z,u,j,J,D⟩:=G.fn g i L;refine⟨_,?_,c⟩;simp_all [callFunc]
theorem XX(n:C.Ok P)(hr:R p h w)(s:Gl C p){x:V}{x':Value}{name:String}{args:List V}{args':Array Value}(o:Ag p x x')(A:AB p args args'.toList){r:OR}(c:Qp C h x name args=some r):
  Ta p h w r ((invoke (.fn (.method name) #[])<|#[x']++args').run P w):=by
 unfold Qp at c;split at c
 case h_2=>cases c
 rename_i t v;split at c
 case h_2=>cases c
 rename_i g u;obtain⟨y,rfl,B⟩:=o;obtain⟨j,m,d,h1,h2,h3,h4,h5,h6⟩:=n.T.mth t name g u;have key:(invoke (.fn (.method name) #[])<|#[.iface t y]++args').run P w=((do let d<-zt (.func (.func g) #[] #[]) (#[y]++args');invoke d.target d.args:Sem Next).run P w):=by
  have l:(underlying t).run P w=.ok d w:=by simp_all [underlying]
  have q:(typeInfo t).run P w=.ok j w:=by unfold typeInfo;simp[h1]
  have b:∀k,(method (k+1) t y name).run P w=.ok (g,y) w:=by
   simp_all [method,follow,receiverAt,Place.get]
  have i:=b<|P.types.size+99;have e:P.types.size+Made.depth=P.types.size+99+1:=rfl;have h0:(#[Value.iface t y]++args')[0]?=some (.iface t y):=by
   grind
  have z:(#[Value.iface t y]++args').extract 1 (#[Value.iface t y]++args').size=args':=by
   simp
  simp only[invoke,zt,h0,z];simp[callMethod,e,i]
 rw[key];exact NS n hr s (f:=.fn (.func g) [] []) (by simp[Ag]) (by simp_all) c
theorem W1(f:C.Ok P)(hr:R p h w){b:Builtin}{ts:Array TypeId}{t:TypeId}{cs:Array Bool}{args:List V}{args':Array Value}(e:AB p args args'.toList){r:OR}(d:FR C h b ts args=some r):
  Ta p h w r ((builtin b ts t cs args').run P w):=by
 unfold FR at d;split at d
 case h_1=>exact Ci hr d fun x c=>AcW f.T hr e c
 case h_2=>exact D2 d fun x h' c=>bI f.T hr e c
 case h_3=>exact D2 d fun x h' c=>pM f.T hr e c
 case h_4=>exact Ci hr d fun x c=>AbY e c
 case h_5=>exact Ci hr d fun x c=>AaZ e c
 case h_6=>exact Ci hr d fun x c=>AaX f.T e c
 case h_7=>exact D2 d fun x h' c=>YX f.T hr e c
 case h_8=>exact D2 d fun x h' c=>lU f.T hr e c
 case h_9=>exact Ci hr d fun x c=>lE e c
 case h_10=>
  refine D2 d fun x h' c=>?_
  obtain⟨v',w',j,i,g⟩:=wJ (t:=t) f.T hr e c;grind
 grind
theorem zE{T:Co}(k:T.Ok P){op:BinOp}{t:TypeId}{x y:Operand}{v u:V}{v' j:Value}(f:Ag p v v')(o:Ag p u j){z:V}(i:Lm T op t x y v u=some z):
  ∃l,(do eqGuard op t x y v' j;binOp op t v' j:Sem Value).run P w=.ok l w/\Ag p z l:=by
 unfold Lm at i;split at i
 case h_2=>
  simp only[zd,lH k f o i,zc];exact Acb k f o i
 case h_1=>
  rename_i r hr;have A:∀ {b:Bool},(bif eQ x||eQ y then some (V.bool b)else none)=some z->z=.bool b/\((∃c,x=.const c)\/∃c,y=.const c):=by
   intro b g;cases d:(eQ x||eQ y)with
   |false=>grind
   |true=>
    simp only[d,we,ze]at g;refine⟨g.symm,?_⟩;simp only[Bool.or_eq_true]at d;rcases d with d|d
    ·left;cases x<;>first|exact⟨_,rfl⟩|cases d
    ·right;cases y<;>first|exact⟨_,rfl⟩|cases d
  have B:∀op,(op=.eql\/op=.neq)->((∃c,x=.const c)\/∃c,y=.const c)->(eqGuard op t x y .nilIface .nilIface).run P w=.ok () w:=by
   intro op q d;rcases q with rfl|rfl<;>unfold eqGuard<;>rcases d with⟨c,rfl⟩|⟨c,rfl⟩<;>simp
  have s:∀ {n},T.und t=some (.interface n)->(Op.equal t .nilIface .nilIface).run P w=.ok true w:=by
   intro n e;unfold Op.equal Op.maxDepth Op.equalIn;rw[zd,AF k e];rfl
  unfold AaY at hr;split at hr
  case h_1=>
   have g:=(P1 (t:=t) (y':=.nilIface) f rfl).1;simp_all [Ag]
  case h_2=>
   have g:=(P1 (t:=t) (y':=.nilIface) f rfl).2;simp_all [Ag]
  grind
theorem tB(E:C.Ok P)(hr:R p h w)(q:Gl C p)(A:CS p fr a){o:Oper}{r:OR}(e:HN C fr h o=some r):Ta p h w r ((execOp a.eval o).run P w):=by
 rw[Dn]at e;unfold HT at e;unfold execOp;cases Z:o.op<;>simp only[Z]at e ⊢<;>try (cases e;done)
 case move x|assign x=>
  cases j:ev C fr x with
  |none=>simp[j,BT]at e
  |some v=>simp[j,BT]at e;subst e;exact⟨_,p,w,rfl,Bj q A j,zk hr⟩
 case pick c x y=>
  split at e
  case h_2=>cases e
  rename_i t hc;have O:=Bj q A hc;simp only[Ag]at O;simp only[zd,O,asBool,zh,zc];cases t
  ·cases j:ev C fr y with
   |none=>simp[j,BT]at e
   |some v=>simp[j,BT]at e;subst e;exact⟨_,p,w,by simp,Bj q A j,zk hr⟩
  ·cases j:ev C fr x with
   |none=>simp[j,BT]at e
   |some v=>simp[j,BT]at e;subst e;exact⟨_,p,w,by simp,Bj q A j,zk hr⟩
 case alloc t=>exact D2 e fun x h' j=>kG E.T hr j
 case box t x=>
  refine D2 e fun v h' j=>?_
  rw[zi]at j;obtain⟨u,I,N⟩:=j;have:=AbF (P:=P) (t:=t) hr<|Bj q A I;grind
 case build t K=>
  split at e
  case h_2=>cases e
  rename_i ps L;refine Ci hr e fun x j=>iY E.T ?_ j
  have:=P9 q A L;simp_all
 case buildSlice t n K=>
  split at e
  case h_2=>cases e
  rename_i ps L;refine D2 e fun x h' j=>bR E.T hr ?_ j
  have:=P9 q A L;simp_all
 case load t x=>
  split at e
  case h_2=>cases e
  rename_i v B;exact Ci hr e fun x j=>X3 E.T hr (Bj q A B) j
 case store t x y=>
  split at e
  case h_2=>cases e
  rename_i v u B I;exact eE e fun h' j=>lW E.T hr (Bj q A B) (Bj q A I) j
 case nilCheck x=>
  split at e
  case h_3=>cases e
  case h_1=>
   rename_i b i B;have j:=Bj q A B;have J:=j;simp only[Ag]at J;obtain⟨Y,n,hp,N⟩:=J;simp only[BT,ze]at e;subst e;rw[N];exact⟨_,p,w,rfl,N▸j,zk hr⟩
  case h_2=>
   rename_i t v B;have j:=Bj q A B;have J:=j;simp only[Ag]at J;obtain⟨y,N,_⟩:=J;simp only[BT,ze]at e;subst e;rw[N];exact⟨_,p,w,rfl,N▸j,zk hr⟩
 case binOp op t x y t2=>
  split at e
  case h_2=>cases e
  rename_i v u B I;refine Ci hr e fun z M=>?_
  exact zE E.T (Bj q A B) (Bj q A I) M
 case unOp op t x=>
  split at e
  case h_2=>cases e
  rename_i v B;exact Ci hr e fun x j=>Agi (Bj q A B) j
 case convert s d x=>
  split at e
  case h_2=>cases e
  rename_i v B;exact Ci hr e fun x j=>wX E.T hr (Bj q A B) j
 case makeInterface t x=>
  split at e
  case h_2=>cases e
  rename_i v d B X;split at e
  case h_1=>cases e
  case h_2=>
   refine Ci hr e fun z M=>?_
   cases M;refine⟨.iface t<|a.eval x,?_,by exact⟨_,rfl,Bj q A B⟩⟩;unfold Instr.makeInterface;simp only[zd,AF E.T X,zc];rfl
 case makeFunc f first captured=>
  split at e
  case h_2=>cases e
  rename_i x y j hy;refine Ci hr e fun z M=>?_
  cases M;exact⟨_,rfl,by exact⟨_,_,rfl,by simpa using KW q A j,by simpa using KW q A hy⟩⟩
 case makeMap t x=>
  split at e
  case h_2=>cases e
  rename_i v B;exact D2 e fun x h' j=>YO hr (PU q A B) j
 case makeSlice t l c=>
  split at e
  case h_2=>cases e
  rename_i v u B I;exact D2 e fun x h' j=>zW E.T hr (Bj q A B) (Bj q A I) j
 case slice t x lo hi mx=>
  split at e
  case h_2=>cases e
  rename_i v l Y m B U Q hm;exact Ci hr e fun x j=>lN E.T (Bj q A B) (PU q A U) (PU q A Q) (PU q A hm) j
 case fieldAddr t x f=>
  split at e
  case h_2=>cases e
  rename_i v B;exact Ci hr e fun x j=>lG E.T (Bj q A B) j
 case field t x f=>
  split at e
  case h_2=>cases e
  rename_i v B;exact Ci hr e fun x j=>mO E.T (Bj q A B) j
 case indexAddr t x i=>
  split at e
  case h_2=>cases e
  rename_i v u B I;exact Ci hr e fun x j=>mI E.T (Bj q A B) (Bj q A I) j
 case index t x i=>
  split at e
  case h_2=>cases e
  rename_i v u B I;exact Ci hr e fun x j=>kO E.T (Bj q A B) (Bj q A I) j
 case lookup t x i ok=>
  split at e
  case h_2=>cases e
  rename_i v u B I;exact Ci hr e fun x j=>Zp E.T hr (Bj q A B) (Bj q A I) j
 case mapUpdate t m k x|insert t m k x=>
  split at e
  case h_2=>cases e
  rename_i v u z B I M;exact eE e fun h' j=>Zi E.T hr (Bj q A B) (Bj q A I) (Bj q A M) j
 case range t x=>
  split at e
  case h_2=>cases e
  rename_i v B;exact D2 e fun x h' j=>Zk E.T hr (Bj q A B) j
 case next x b=>
  split at e
  case h_2=>cases e
  rename_i v B;cases b with
  |true=>exact D2 e fun x h' j=>sZ hr (Bj q A B) j
  |false=>
   simp only[wg,zi]at e;obtain⟨l,U,rfl⟩:=e;obtain⟨v,h',v',p',w',g1,g2,g3,g4⟩:=lJ (P:=P) (t:=o.type) hr (Bj q A B) U;grind [zd,zc,zh,Ta]
 case entry x=>
  split at e
  case h_2=>cases e
  rename_i v B;exact Ci hr e fun x j=>iM hr (Bj q A B) j
 case extract x i=>
  split at e
  case h_2=>cases e
  rename_i v B;exact Ci hr e fun x j=>WQ (Bj q A B) j
 case call c=>
  split at e
  case h_4=>cases e
  case h_1=>
   rename_i b args G D;have:=KW q A D;unfold resolve;simp only[G,zd,zh,zc,invoke];exact W1 E hr (by simp_all) e
  case h_2=>
   rename_i f args G D;split at e
   case h_2=>cases e
   rename_i g W;have:=KW q A D;unfold resolve;simp only[G];exact NS E hr q (Bj q A W) (by simp_all) e
  case h_3=>
   rename_i x nm args G D;split at e
   case h_2=>cases e
   rename_i v B;have:=KW q A D;unfold resolve;simp only[G,zd,zh,zc];exact XX E hr q (Bj q A B) (by simp_all) e
theorem M9(i:C.Ok P)(hr:R p h w)(g:Gl C p)(e:CS p fr a){o:Oper}{r:OR}(b:JE C fr h o=some r):Ta p h w r ((execOp a.eval o).run P w):=by
 unfold JE at b;split at b
 case h_1=>
  grind [tB]
 case h_2=>
  split at b
  case h_2=>cases b
  rename_i s d x j;split at b
  case h_2=>cases b
  rename_i v f;unfold execOp;simp only[j];split at b
  case h_1=>
   rename_i u k;exact Ci (v:=some u) hr b fun x c=>by cases c;exact Aaz i.T hr (Bj g e f) k
  exact D2 b fun x h' c=>lF i.T hr (Bj g e f) c
end
def Bl(fr:Fr)(ops:Array Oper)(o:Oper):Bool:=
 match o.guard with
 |none=>true
 |some (j,c)=>
  match (ops[j]?).bind (·.dst)with
  |some t=>bif zj t fr.n then(match fr.get t with| .bool b=>b==c|_=>false)else false
  |none=>false
inductive Cl where
 |fn (f:FuncId) (args:List V)
 |rnd (b:Nat) (l:LS) (fr:Fr)
abbrev D4:=Cl->H->Option (List<|V×H)
def bl{α d:Type}:List α->(α->Option (List d))->Option (List d)
 |[],_=>some []
 |a::c,f=>match f a with
  |none=>none
  |some x=>match c with
   |[]=>some x
   |b::e=>match bl (b::e) f with
    |some y=>some<|x++y
    |none=>none
theorem J3{α g:Type}{f:α->Option (List g)}:∀ {l:List α} {r:List g},bl l f=some r->∀a∈l,∃x,f a=some x/\∀b∈x,b∈r
 |[],r,_,a,e=>by cases e
 |[c],r,h,a,e=>by
  grind [bl]
 |c::d::j,r,h,a,e=>by
  unfold bl at h;split at h
  ·cases h
  simp only at h;split at h
  case h_2=>cases h
  rename_i y i;rcases yo.1 e with rfl|e
  ·grind
  ·obtain⟨z,k,n⟩:=J3 i a e;grind
def IE(fr:Fr)(d:Option Nat):List (V×H)->Option (List<|Fr×H)
 |[]=>some []
 |(v,h)::l=>match fr.put d v with
  |some f=>match IE fr d l with
   |some r=>some ((f,h)::r)
   |none=>none
  |none=>none
theorem SG{fr:Fr}{d:Option Nat}:∀ {l:List (V×H)} {r:List (Fr×H)},IE fr d l=some r->∀v h,(v,h)∈l->∃f,fr.put d v=some f/\(f,h)∈r
 |[],r,_,v,h,hm=>by cases hm
 |(u,k)::l,r,b,v,h,hm=>by
  unfold IE at b;split at b
  case h_2=>cases b
  split at b
  case h_2=>cases b
  rename_i c hr;rcases yo.1 hm with e|hm
  ·grind
  ·obtain⟨g,i,j⟩:=SG hr v h hm;grind
def step1(C:Ctx)(call:D4)(ops:Array Oper)(o:Oper)(fr:Fr)(h:H):Option (List<|Fr×H):=
 bif Bl fr ops o then
  match JE C fr h o with
  |some (.val v h')=>match fr.put o.dst v with
   |some fr'=>some [(fr',h')]
   |none=>none
  |some (.skip h')=>match fr.put o.dst (.tup [])with
   |some fr'=>some [(fr',h')]
   |none=>none
  |some (.enter f args)=>match call (.fn f args) h with
   |some l=>IE fr o.dst l
   |none=>none
  |some (.round b ls f)=>match call (.rnd b ls f) h with
   |some l=>IE fr o.dst l
   |none=>none
  |some (.alts l)=>IE fr o.dst l
  |none=>none
 else match fr.put o.dst (.tup [])with
  |some fr'=>some [(fr',h)]
  |none=>none
def We(C:Ctx)(call:D4)(ops:Array Oper):List Oper->Fr->H->Option (List<|Fr×H)
 |[],fr,h=>some [(fr,h)]
 |o::b,fr,h=>match step1 C call ops o fr h with
  |some l=>bl l fun x=>We C call ops b x.1 x.2
  |none=>none
def FW(ro:Option Nat):Fence:={ ya with round:=ro }
theorem aX{ro:Option Nat}{n:Nat}{P:Program}{f:FuncId}{args:Array Value}{w:World}{R:Ending->World->Prop}:CallsIn (FW ro) n P f args w R↔Calls P f args w R:=by
 have:CallsIn (FW ro) n P f args w R↔CallsIn ya n P f args w R:=Iff.rfl;grind [callsIn_wide]
theorem AfL{ro:Option Nat}{n:Nat}{P:Program}{k:Nat}{f:FuncId}{tmps:Array Value}{asg body:Code}{w:World}{R:Ending->World->Prop}(h:RoundIn ya 0 P k f tmps asg body w R):RoundIn (FW ro) n P k f tmps asg body w R:=
 ⟨trivial,fun c cs _=>h.2 c cs<|room_wide _⟩
inductive DX where
 |normal
 |exit (id:Nat)
 |ret
def DX.VT:DX->Exit
 | .normal=>.normal
 | .exit id=>.exit id
 | .ret=>.ret
section
variable {C:Ctx}{P:Program}{p:Pl}{h:H}{w:World}{fr:Fr}{a:Act}
theorem CS.put(f:CS p fr a){d:Option Nat}{v:V}{v':Value}(i:Ag p v v'){fr':Fr}(c:fr.put d v=some fr'):CS p fr' (a.put d v'):=by
 unfold Fr.put at c;cases d with
 |none=>cases c;exact f
 |some t=>
  simp only[H4]at c;by_cases b:t<fr.n
  ·simp only[b,decide_true,we,ze]at c;subst c;refine⟨by simp[yq,f.1],fun s=>?_⟩;have g:t<a.tmps.size:=f.1▸b;by_cases e:s=t
   ·simp_all [Fr.get,yq]
   ·have:=f.2 s;simp only[Fr.get,PM.DZ,wc e,yq]at this ⊢;rw[zl,zy ae, <-zl];omega
  grind
theorem CS.mono(b:CS p fr a){p':Pl}(hp:∃q,p'=p++q):CS p' fr a:=by
 obtain⟨q,rfl⟩:=hp;exact⟨b.1,fun t=>(b.2 t).mono q⟩
theorem CS.ext(b:CS p fr a){p':Pl}{h':H}{w':World}(e:Ext p h w p' h' w'):CS p' fr a:=b.mono e.pre
theorem Ac2{p:Pl}{v:V}{b:Bool}(c:Ag p v (.bool b)):v=.bool b:=by
 cases v<;>simp only[Ag]at c<;>first|(cases c;rfl)|(simp at c;done)|(done)|(done)|(done)|(done)|(done)
theorem TA(k:CS p fr a)(ops:Array Oper)(o:Oper):yf o (yielded ops a.tmps)=Bl fr ops o:=by
 unfold yf Bl;cases r:o.guard with
 |none=>rfl
 |some q=>
  obtain⟨j,i⟩:=q;simp only;unfold yielded;cases s:(ops[j]?).bind (·.dst)with
  |none=>simp
  |some t=>
   simp only[Option.bind_some,H4];by_cases c:t<fr.n
   ·have g:t<a.tmps.size:=k.1▸c;have f:=k.2 t;simp only[c,decide_true,we];have e:a.tmps[t]?=some (a.tmps.getD t undef):=by simp[g]
    rw[e];cases d:a.tmps.getD t undef with
    |bool b=>
     rw[d]at f;have:=Ac2 f;grind
    |_=>
     rw[d]at f;cases l:fr.get t with
     |bool b=>rw[l]at f;simp[Ag]at f
     |_=>cases i<;>rfl
   ·have:a.tmps[t]?=none:=Array.getElem?_eq_none<|Nat.le_of_not_lt<|k.1▸c;grind
def HX(p:Pl)(h:H)(w:World)(l:List (V×H))(e:Ending)(w':World):Prop:=
 ∃v h' v' p',(v,h')∈l/\e=.returned v'/\Ag p' v v'/\Ext p h w p' h' w'
structure D4.Ok(C:Ctx)(P:Program)(call:D4):Prop where
 fn:∀f args h l,call (.fn f args) h=some l->∀(p:Pl) (w:World) (args':Array Value),R p h w->Gl C p->AB p args args'.toList->Calls P f args' w (HX p h w l)
 rnd:∀b ls fr h l,call (.rnd b ls fr) h=some l->∀(p:Pl) (w:World) (k n:Nat) (f:FuncId) (tmps:Array Value),R p h w->Gl C p->h.get b=some (.loop ls)->p[b]?=some (k,n)->Ff p fr tmps->
  RoundIn ya 0 P k f tmps ls.asg ls.body w (HX p h w l)
theorem Ix{o:Oper}{r:OR}(b:HN C fr h o=some r):∀c,o.op≠ .defer c:=by
 grind [Dn,HT]
theorem GS{o:Oper}{r:OR}(b:JE C fr h o=some r):∀c,o.op≠ .defer c:=by
 grind [JE,Ix]
theorem VR{p':Pl}{l:List (V×H)}{r:List (Fr×H)}{d:Option Nat}(hp:IE fr d l=some r)(e:CS p fr a){K:Act->World->Prop}
  (k:∀x∈r,∀p' b w',CS p' x.1 b->Ext p h w p' x.2 w'->b.defers=a.defers->K b w') {v:V} {h':H} {v':Value} {w':World} (j:(v,h')∈l) (g:Ag p' v v') (c:Ext p h w p' h' w'):K (a.put d v') w':=by
 obtain⟨f,i,n⟩:=SG hp v h' j;exact k _ n p' _ w' ((e.ext c).put g i) c (by cases d<;>rfl)
theorem kJ(B:C.Ok P){call:D4}(q:call.Ok C P)(hr:R p h w)(u:Gl C p)(j:CS p fr a){ops:Array Oper}{i:Nat}{o:Oper}(O:ops[i]?=some o){l:List (Fr×H)}
  (d:step1 C call ops o fr h=some l) {ro:Option Nat} {n:Nat} {Q:Exit->Act->World->Prop} {K:Act->World->Prop}
  (z:∀x∈l,∀p' G w',CS p' x.1 G->Ext p h w p' x.2 w'->G.defers=a.defers->K G w'):wpOpIn (FW ro) n P ops Q i K a w:=by
 have y:∀v,(a.put o.dst v).defers=a.defers:=by intro v;cases o.dst<;>rfl
 unfold step1 at d;unfold wpOpIn;simp only[O];rw[TA j];cases L:Bl fr ops o with
 |false=>
  simp only[L,wg]at d;refine⟨fun _ _=>trivial,?_⟩;split at d
  case h_2=>cases d
  rename_i D hp;cases d;exact z _ (zn.2 rfl) p _ w (j.put (by simp[Ag,undef]) hp) (zk hr)<|y _
 |true=>
  simp only[L,we]at d;refine⟨fun _ _=>trivial,?_⟩;split at d
  case h_6=>cases d
  case h_1=>
   rename_i v N c;split at d
   case h_2=>cases d
   rename_i D hp;cases d;obtain⟨v',p',w',r,t,s⟩:=M9 B hr u j c;rw[z7 _ _ _<|GS c,r,Oper.uponIn_value];exact z _ (zn.2 rfl) p' _ w' ((j.ext s).put t hp) s<|y _
  case h_2=>
   rename_i N c;split at d
   case h_2=>cases d
   rename_i D hp;cases d;obtain⟨p',w',r,s⟩:=M9 B hr u j c;rw[z7 _ _ _<|GS c,r,Oper.uponIn_skip];exact z _ (zn.2 rfl) p' _ w' ((j.ext s).put (by simp[Ag,undef]) hp) s<|y _
  case h_3=>
   rename_i f args c;split at d
   case h_2=>cases d
   rename_i l1 J;obtain⟨args',r,t⟩:=M9 B hr u j c;rw[z7 _ _ _<|GS c,r,Oper.uponIn_enter];refine⟨(by grind [FW,ya]),aX.2<|(q.fn f args h l1 J p w args' hr u t).mono ?_⟩;rintro e w' ⟨v,h',v',p',A,rfl,E,I⟩;exact VR d j z A E I
  case h_4=>
   rename_i b ls f c;split at d
   case h_2=>cases d
   rename_i l1 J;obtain⟨k,m,g,tmps,r,t,s,M⟩:=M9 B hr u j c;rw[z7 _ _ _<|GS c,s,Oper.uponIn_round];refine⟨(by grind [FW,ya]),(AfL<|q.rnd b ls f h l1 J p w k m g tmps hr u t r M).mono ?_⟩;rintro e w' ⟨v,h',v',p',A,rfl,E,I⟩;exact VR d j z A E I
  case h_5=>
   rename_i l1 c;obtain⟨v,h',v',p',w',A,r,t,s⟩:=M9 B hr u j c;rw[z7 _ _ _<|GS c,r,Oper.uponIn_value];exact VR d j z A t s
theorem WV(A:C.Ok P){call:D4}(b:call.Ok C P){ops:Array Oper}{ro:Option Nat}{n:Nat}{Q:Exit->Act->World->Prop}:
  ∀(l:List Oper) (k:Nat),(∀j,l[j]?=ops[k+j]?)->∀ {p:Pl} {h:H} {w:World} {fr:Fr} {a:Act},R p h w->Gl C p->CS p fr a->∀ {L:List (Fr×H)},We C call ops l fr h=some L->
  (∀x∈L,∀p' r w',CS p' x.1 r->Ext p h w p' x.2 w'->r.defers=a.defers->Q .normal r w')->wpOpsIn (FW ro) n P ops Q (List.range' k l.length) a w
 |[],k,_,p,h,w,fr,a,hr,q,f,L,d,s=>by
  cases d;exact s _ (zn.2 rfl) p a w f (zk hr) rfl
 |o::l,k,t,p,h,w,fr,a,hr,q,f,L,d,s=>by
  unfold We at d;split at d
  case h_2=>cases d
  rename_i l1 I;refine kJ A b hr q f (by simpa using(t 0).symm) I (K:=wpOpsIn (FW ro) n P ops Q<|List.range' (k+1) l.length) fun x D p1 a1 M i c z=>?_
  obtain⟨L1,B,E⟩:=J3 d x D;exact WV A b l (k+1) (fun j=>by have:=t<|j+1;grind) c.rel (q.ext c) i B
   fun y J p2 a2 G g e u=>s y (E y J) p2 a2 G g (c.trans e) ah
theorem Z5(e:C.Ok P){call:D4}(b:call.Ok C P){ops:Array Oper}{ro:Option Nat}{n:Nat}{Q:Exit->Act->World->Prop}(hr:R p h w)(i:Gl C p)(d:CS p fr a){L:List (Fr×H)}
  (g:We C call ops ops.toList fr h=some L) {id:Nat}
  (f:∀x∈L,∀p' c w',CS p' x.1 c->Ext p h w p' x.2 w'->c.defers=a.defers->Q .normal c w'):(Code.region id ops false).wpIn (FW ro) n P Q a w:=by
 refine wpIn_region ?_;have:=WV (Q:=Q) (ro:=ro) (n:=n) e b ops.toList 0 (by simp) hr i d g f;grind [List.range_eq_range']
end
theorem NR{C:Ctx}{fr fr':Fr}:∀ {b:List Operand},(∀x∈b,ev C fr x=ev C fr' x)->Xp C fr b=Xp C fr' b
 |[],_=>rfl
 |x::b,h=>by
  unfold Xp;rw[h x (by simp),NR<|fun y c=>h y<|by simp[c]]
theorem Ku{C:Ctx}{fr fr':Fr}:∀ {b:List (Nat×Operand)},(∀x∈b,ev C fr x.2=ev C fr' x.2)->aJ C fr b=aJ C fr' b
 |[],_=>rfl
 |(i,x)::b,h=>by
  unfold aJ;rw[h (i,x) (by simp),Ku<|fun y c=>h y<|by simp[c]]
theorem Tv{C:Ctx}{fr fr':Fr}{x:Option Operand}(h:∀y,x=some y->ev C fr y=ev C fr' y):YV C fr x=YV C fr' x:=by
 cases x with
 |none=>rfl
 |some y=>simp[YV,h y rfl]
theorem lC{C:Ctx}{fr fr':Fr}{h:H}{o:Oper}(d:∀x∈o.op.operands,ev C fr x=ev C fr' x):HN C fr h o=HN C fr' h o:=by
 obtain⟨dst,op,b,pos,after,guard⟩:=o;cases op<;>simp only[ym]at d<;>simp only[Dn,HT]
 case build t ps=>grind [Ku]
 case buildSlice t n ps=>grind [Ku]
 case makeFunc f first captured=>grind [NR]
 case makeMap t r=>grind [Tv]
 case slice t x lo e mx=>
  grind [Tv]
 case call c=>
  grind [NR,Call.operands]
 all_goals (first|rfl|(simp_all;done))
def reads(ops:Array Oper)(o:Oper):List Tmp:=o.looksAt ops
theorem Ab0{C:Ctx}{fr fr':Fr}{x:Operand}(h:∀t,x=.tmp t->fr.get t=fr'.get t):ev C fr x=ev C fr' x:=by
 cases x with
 |tmp t=>simp only[ev,h t rfl]
 |_=>rfl
theorem mem_reads{ops:Array Oper}{o:Oper}{t:Tmp}(h:Operand.tmp t∈o.op.operands):t∈reads ops o:=
 List.mem_append_left _ (List.mem_filterMap.2 ⟨.tmp t,by grind,rfl⟩)
theorem Ws{fr fr':Fr}{ops:Array Oper}{o:Oper}(c:fr.n=fr'.n)(h:∀t∈reads ops o,fr.get t=fr'.get t):Bl fr ops o=Bl fr' ops o:=by
 unfold Bl;cases f:o.guard with
 |none=>rfl
 |some d=>
  obtain⟨j,b⟩:=d;simp only;cases e:(ops[j]?).bind (·.dst)with
  |none=>rfl
  |some t=>
   simp only[c];rw[h t<|List.mem_append_right _ ah]
def Tn(l:List Tmp)(fr:Fr):Fr:=⟨fr.n,l.foldr (fun t m=>m.set t<|some<|fr.get t) .leaf⟩
def RZ(l:List Tmp)(a:Act):Act:={ a with tmps:=Array.ofFn (n:=a.tmps.size) fun t=>if l.contains t.1 then a.tmps.getD t undef else undef }
theorem NZ(l:List Tmp)(fr:Fr)(t:Tmp):(Tn l fr).get t=if t∈l then fr.get t else .tup []:=by
 unfold Tn Fr.get;induction l with
 |nil=>simp
 |cons x l b=>
  simp only[List.foldr_cons,PM.DZ,yo];grind
theorem T8(l:List Tmp)(a:Act)(t:Tmp):(RZ l a).tmps.getD t undef=if t∈l then a.tmps.getD t undef else undef:=by
 unfold RZ;by_cases h:t<a.tmps.size
 ·simp[h]
 simp_all
section
variable {C:Ctx}{P:Program}{p:Pl}{h:H}{w:World}{fr:Fr}{a:Act}
structure FOn(p:Pl)(fr:Fr)(a:Act)(l:List Tmp):Prop where
 n:fr.n=a.tmps.size
 get:∀t∈l,Ag p (fr.get t) (a.tmps.getD t undef)
theorem FOn.Sx{l:List Tmp}(b:FOn p fr a l):CS p (Tn l fr) (RZ l a):=by
 refine⟨by simp[Tn,RZ,b.n],fun t=>?_⟩;rw[NZ,T8];by_cases c:t∈l
 ·simp only[c,wk];exact b.get t c
 simp_all [Ag,undef]
theorem OM{ops:Array Oper}{o:Oper}{x:Operand}(b:x∈o.op.operands):(RZ (reads ops o) a).eval x=a.eval x:=by
 cases x with
 |tmp t=>
  have:=T8 (reads ops o) a t;rw[wd<|mem_reads b]at this;exact this
 |_=>rfl
theorem Wa{ops:Array Oper}{o:Oper}{x:Operand}(c:x∈o.op.operands):ev C (Tn (reads ops o) fr) x=ev C fr x:=by
 refine Ab0 fun t b=>?_
 simp_all [NZ,mem_reads]
theorem Kp(d:C.Ok P)(hr:R p h w)(e:Gl C p){ops:Array Oper}{o:Oper}(c:FOn p fr a (reads ops o))(i:∀cs b,o.op≠ .select cs b){r:OR}(f:HN C fr h o=some r):
  Ta p h w r ((execOp a.eval o).run P w):=by
 have g:=tB d hr e c.Sx (o:=o) (r:=r) (by grind [lC,Wa]);grind [execOp_congr,OM]
theorem Ti{ops:Array Oper}{o:Oper}(d:FOn p fr a (reads ops o)):yf o (yielded ops a.tmps)=Bl fr ops o:=by
 have b:=TA d.Sx ops o;rw[Ws (fr:=Tn (reads ops o) fr) (fr':=fr) (ops:=ops) (o:=o) rfl (by simp_all [NZ])]at b;rw[<-b];unfold yf;cases g:o.guard with
 |none=>rfl
 |some f=>
  obtain⟨j,c⟩:=f;simp only;unfold yielded;cases k:(ops[j]?).bind (·.dst)with
  |none=>rfl
  |some t=>
   have i:t∈reads ops o:=List.mem_append_right _ ah;by_cases e:t<a.tmps.size
   ·simp_all [RZ]
   simp_all [RZ]
end
def Fe(o:Oper):Bool:=
 match o.op with
 | .move _| .assign _| .pick .. | .build .. | .load .. | .nilCheck _| .binOp .. | .unOp .. | .convert .. | .makeInterface .. | .makeFunc .. | .slice .. | .fieldAddr .. | .field .. | .indexAddr .. | .index .. | .lookup .. | .extract .. =>true
 | .call { callee:=.builtin .len,.. }| .call { callee:=.builtin .max,.. }| .call { callee:=.builtin .min,.. }| .call { callee:=.builtin .unsafeSliceData,.. }=>true
 |_=>false
def S8(o:Oper):Bool:=
 match o.op with
 | .load .. | .convert .. | .lookup .. =>true
 | .call { callee:=.builtin .len,.. }=>true
 |_=>false
def C8(o:Oper):Bool:=
 match o.op with
 | .alloc _| .box .. | .buildSlice .. =>true
 |_=>false
theorem HA{h:H}{v:Option V}{r:OR}(b:BT h v=some r):∃x,v=some x/\r=.val x h:=by
 cases v with
 |none=>cases b
 |some x=>cases b;simp
theorem rd_val{C:Ctx}{fr:Fr}{h:H}{o:Oper}(e:Fe o=true){r:OR}(d:HN C fr h o=some r):∃v,r=.val v h:=by
 obtain⟨dst,op,g,pos,after,guard⟩:=o;cases op<;>simp only[Fe]at e<;>simp only[Dn,HT]at d<;>try (cases e;done)
 case call c=>
  obtain⟨callee,args,ts⟩:=c;cases callee with
  |builtin b=>
   cases i:Xp C fr args.toList with
   |none=>grind
   |some j=>
    simp only[i]at d;cases b<;>first|(cases e;done)|(obtain⟨x,_,rfl⟩:=HA d;simp)
  |value f=>cases e
  |invoke=>cases e
 all_goals
  repeat' split at d
  all_goals first
   |(cases d;done)
   |(obtain⟨x,_,rfl⟩:=HA d;exact⟨x,rfl⟩)
theorem wV{C:Ctx}{fr:Fr}{h:H}{o:Oper}(d:Fe o=true)(k:S8 o=false){v:V}(g:HN C fr h o=some (.val v h))(h':H):HN C fr h' o=some (.val v h'):=by
 have key:∀ {x:Option V},BT h x=some (.val v h)->BT h' x=some (.val v h'):=by
  intro x j;obtain⟨y,rfl,e⟩:=HA j;cases e;rfl
 obtain⟨dst,op,i,pos,after,guard⟩:=o;cases op<;>simp only[Fe]at d<;>simp only[S8]at k<;>simp only[Dn,HT]at g ⊢<;>try (first|(done)|(done))
 case call c=>
  obtain⟨callee,args,ts⟩:=c;cases callee with
  |builtin b=>
   cases n:Xp C fr args.toList with
   |none=>grind
   |some l=>
    grind [FR]
  |value f=>cases d
  |invoke=>cases d
 all_goals
  repeat' split at g
  all_goals first
   |(done)
   |exact key g
   |grind
section
variable {C:Ctx}{P:Program}{p:Pl}{h:H}{w:World}{fr:Fr}{a:Act}
def Zl(T:Co)(t:TypeId)(len:Nat)(b:List (Nat×V)):Option (List V×TypeId):=
 match T.und t with
 |some (.slice e)=>match T.inf e with
  |some i=>
   bif zu (len*i.size) 16777216&&zj 0 (i.zero.length)&&zq i.zero.length i.size then
    (JC (fun k=>some (k*i.size,i.size)) (Gq i.zero<|len*i.size) b).map fun cs=>(cs,e)
   else none
  |none=>none
 |_=>none
def dal(C:Ctx)(fr:Fr)(o:Oper):Option (O×(Nat->V)):=
 match o.op with
 | .alloc t=>match C.T.inf t with
  |some i=>some (.cells i.zero t (0,0),fun b=>.ptr b 0)
  |none=>none
 | .box t x=>match ev C fr x with
  |some v=>some (.cells v.cells t (0,0),fun b=>.ptr b 0)
  |none=>none
 | .buildSlice t n c=>match aJ C fr c.toList with
  |some ps=>match Zl C.T t n ps with
   |some (cs,e)=>some (.cells cs e (0,0),fun b=>.sl b 0 n n 0)
   |none=>none
  |none=>none
 |_=>none
theorem Afr(A:C.Ok P)(J:Gl C p){ops:Array Oper}{o:Oper}(I:FOn p fr a (reads ops o)){ob:O}{f:Nat->V}(l:dal C fr o=some (ob,f)):
  ∃x n v',(execOp a.eval o).run P w=.ok (.value v') { w with heap:=w.heap.push x }/\Mt p n ob x/\∀(q:Pl) b,q[b]?=some (w.heap.size,n)->Ag q (f b) v':=by
 have K:=I.Sx;have d:∀(t:TypeId) (cs:List V) (c:Array Value),AB p cs c.toList->Mt p c.size (.cells cs t (0,0)) (.cells c t):=by
  intro t cs c u;refine⟨c,(0,0),rfl,rfl,by have:=u.length;grind,?_,ae⟩;have:=u.length;rw[List.take_of_length_le ae];exact u.toC
 unfold dal at l;split at l
 case h_4=>cases l
 case h_1=>
  rename_i t D;split at l
  case h_2=>cases l
  rename_i i B;cases l;obtain⟨z,M,s⟩:=E1 A.T B;refine⟨.cells z.cells t,_,.pointer<|some ⟨w.heap.size,0,none⟩,?_,d _ _ _<|s p,(by simp_all [Ag])⟩;simp_all [execOp,Instr.alloc,newVar,C4]
 case h_2=>
  rename_i t x D;split at l
  case h_2=>cases l
  rename_i v N;cases l;have u:Ag p v (a.eval x):=by
   have:=Bj (C:=C) J K (x:=x) (v:=v) (by grind [Wa,ym]);grind [OM,ym]
  refine⟨.cells (a.eval x).cells t,_,.pointer<|some ⟨w.heap.size,0,none⟩,?_,d _ _ _ u.cells,(by simp_all [Ag])⟩;simp_all [execOp,Instr.box,newVar,C4]
 case h_3=>
  rename_i t len r D;split at l
  case h_2=>cases l
  rename_i ps L;split at l
  case h_2=>cases l
  rename_i cs e g;cases l;have hp:WK p ps (r.map fun(i,x)=>(i,a.eval x)).toList:=by
   grind [P9,Ku,Wa,ym,Array.toList_map,List.map_congr_left,OM]
  unfold Zl at g;split at g
  case h_2=>cases g
  rename_i G E;split at g
  case h_2=>cases g
  rename_i i B;cases j:(zu (len*i.size) 16777216&&zj 0 (i.zero.length)&&zq i.zero.length i.size)with
  |false=>grind
  |true=>
   simp only[j,we,zi,yc]at g;obtain⟨cs',y,rfl,rfl⟩:=g;simp only[zr,yp,z8,Bz,w5]at j;obtain⟨⟨c1,c2⟩,c3⟩:=j;obtain⟨z,M,s⟩:=E1 A.T B;obtain⟨oo,h1,h2⟩:=No (p:=p) (place:=fun k=>some (k*i.size,i.size)) hp (K8 (s p) c2<|len*i.size) y;refine⟨.cells oo G,_,.slice (some ⟨w.heap.size,0,none⟩) len len,?_,d _ _ _ h2,(by simp_all [Ag])⟩;unfold execOp;simp only[D];unfold Instr.buildSlice;simp only[zd,AF A.T E,zc,BK A.T B];by_cases h0:len*i.size=0
   ·grind [zd,zh,zc,C4]
   simp_all [C4]
theorem Ext.sG{l p:Pl}{k h:H}{i w:World}(j:Ext l k i p h w){r n:Nat}{o:O}{x:Obj}(W:w.heap[r]?=some x)(Z:Mt p n o x)(hi:¬Im p h r)(U:i.heap.size<=r):
  Ext l k i (p++[(r,n)]) (h.push o) w:=by
 have hr:=j.rel;have B:(p++[(r,n)])[h.nx]?=some (r,n):=by rw[<-hr.len];simp
 have g:∀b,b<h.nx->(p++[(r,n)])[b]?=p[b]?:=ah;have d:∀c f,(h.push o).get c=some f->(c=h.nx/\f=o)\/(c<h.nx/\h.get c=some f):=by
  intro c f z;rw[H.C2]at z;by_cases e:c=h.nx
  ·grind
  ·rw[wc e]at z;exact .inr ⟨hr.lt z,z⟩
 refine⟨?_,⟨by simp[hr.len],fun c f z=>?_,fun c J f G s m m' z Q E R=>?_⟩,j.size,j.same,fun s N=>?_,j.os,j.out,j.tape,fun s N X=>?_⟩
 ·obtain⟨q,rfl⟩:=j.pre;simp
 ·rcases d c f z with⟨rfl,rfl⟩|⟨D,I⟩
  ·exact⟨r,n,x,B,W,Z.mono _⟩
  ·obtain⟨s,m,y,A,u,K⟩:=hr.obj c f I;exact⟨s,m,y,by grind,u,K.mono _⟩
 ·rcases d c f z with⟨rfl,rfl⟩|⟨D,I⟩<;>rcases d J G Q with⟨rfl,rfl⟩|⟨M,L⟩
  ·rfl
  ·grind [Im]
  ·grind [Im]
  ·rw[g c D]at E;rw[g J M]at R;exact hr.inj c J f G s m m' I L E R
 ·obtain⟨c,f,m,A,u⟩:=N;rcases d c f A with⟨rfl,rfl⟩|⟨D,I⟩
  ·grind
  ·rw[g c D]at u;exact j.im s ⟨c,f,m,I,u⟩
 ·obtain⟨D,E⟩:=j.lock s N X;refine⟨D,?_⟩;rcases E with⟨c,m,cs,t,fz,A,u,K⟩|E
  ·have Y:=hr.lt A;exact .inl ⟨c,m,cs,t,fz,by rw[H.C2,wc ae];exact A,by grind,K⟩
  ·refine .inr ?_;rintro⟨c,f,m,A,u⟩;rcases d c f A with⟨rfl,rfl⟩|⟨M,L⟩
   ·grind
   ·rw[g c M]at u;exact E ⟨c,f,m,L,u⟩
theorem Ext.aside{e p:Pl}{d h:H}{f w:World}(c:Ext e d f p h w)(x:Obj):Ext e d f p h { w with heap:=w.heap.push x }:=by
 have hr:=c.rel;refine⟨c.pre,⟨hr.len,fun b o j=>?_,hr.inj⟩,by have:=c.size;grind,fun r g l=>?_,c.im,c.os,c.out,c.tape,fun r g k=>?_⟩
 ·obtain⟨r,n,y,i,q,s⟩:=hr.obj b o j;grind
 ·have i:=c.same r g l;grind
 ·obtain⟨i,q⟩:=c.lock r g k;grind
end
def EG(C:Ctx)(call:D4)(fr:Fr)(h:H)(o:Oper):Option (V×H):=
 match HN C fr h o with
 |some (.val v h')=>some (v,h')
 |some (.skip h')=>some (.tup [],h')
 |some (.enter f args)=>match call (.fn f args) h with
  |some [x]=>some x
  |_=>none
 |_=>none
def Df(o:Oper):Bool:= !Fe o&& !C8 o
structure Stat(ops:Array Oper)(anc:Nat->Nat->Bool)(ord pos:Nat->Nat)(sc:Nat->Option Nat):Prop where
 sel:Region.noSelect ops=true
 ordp:∀q,q<ops.size->ord q<ops.size/\pos (ord q)=q
 posp:∀i,i<ops.size->pos i<ops.size/\ord (pos i)=i
 edge:∀j i,anc j i=true->∃(o:Oper) (e:Edge),ops[j]?=some o/\e∈o.after/\Region.binds .any e=true/\(e.on=i\/anc e.on i=true)
 dir:∀(j:Nat) (o:Oper) (e:Edge),ops[j]?=some o->e∈o.after->Region.binds .any e=true->anc j e.on=true/\e.on<ops.size
 apos:∀j i,anc j i=true->pos i<pos j
 s1:∀(i j:Nat) (o o':Oper),ops[i]?=some o->ops[j]?=some o'->Df o=true->Df o'=true->i≠j->anc i j=true\/anc j i=true
 s2:∀(i j:Nat) (o o':Oper),ops[i]?=some o->ops[j]?=some o'->Df o=true->Fe o'=true->anc j i=true\/pos j<pos i
 q1:∀(i k:Nat),sc i=some k->∃(o ok:Oper) (t:Tmp),ops[i]?=some o/\ops[k]?=some ok/\(o.op=.assign (.tmp t)\/o.op=.move (.tmp t))/\o.guard=none/\C8 ok=true/\ok.dst=some t/\anc i k=true
 s3:∀(j k:Nat) (o o':Oper) (t:Tmp),ops[j]?=some o->ops[k]?=some o'->(C8 o=true\/(sc j).isSome=true)->Df o'=false->o.dst=some t->t∈reads ops o'->anc k j=true->
  sc k=some j\/∃(i:Nat) (oi:Oper),ops[i]?=some oi/\Df oi=true/\anc i j=true/\anc k i=true
 s4:∀(i j:Nat) (o o':Oper),ops[i]?=some o->ops[j]?=some o'->Df o=true->C8 o'=true->anc i j=true\/pos i<pos j
 s5:∀(i j:Nat) (o o':Oper),ops[i]?=some o->ops[j]?=some o'->Fe o=true->S8 o=true->C8 o'=true->pos j<pos i->∃(k:Nat) (ok:Oper),ops[k]?=some ok/\Df ok=true/\pos j<pos k/\pos k<pos i
 s6:∀(i j:Nat) (o o':Oper) (t:Tmp),ops[i]?=some o->ops[j]?=some o'->i≠j->o.dst=some t->o'.dst≠some t/\(t∈reads ops o'->anc j i=true\/anc i j=true)
structure Canon(C:Ctx)(call:D4)(ops:Array Oper)(anc:Nat->Nat->Bool)(ord pos:Nat->Nat)(fr0:Fr)(h0:H)(v:Nat->V)(Hh:Nat->H)(F:Nat->Fr):Prop where
 h0:Hh 0=h0
 f0:F 0=fr0
 fn:∀q,q<=ops.size->(F q).n=fr0.n
 fget:∀q,q<ops.size->∀(o:Oper),ops[ord q]?=some o->∀t,(F (q+1)).get t=if o.dst=some t then v (ord q)else(F q).get t
 dst:∀(i:Nat) (o:Oper) (t:Tmp),ops[i]?=some o->o.dst=some t->t<fr0.n
 step:∀(i:Nat) (o:Oper),ops[i]?=some o->
  (Bl (F (pos i)) ops o=false/\v i=.tup []/\Hh (pos i+1)=Hh (pos i))\/
  (Bl (F (pos i)) ops o=true/\
   ((Fe o=true/\HN C (F (pos i)) (Hh (pos i)) o=some (.val (v i) (Hh (pos i)))/\Hh (pos i+1)=Hh (pos i))\/
    (C8 o=true/\∃ob f,dal C (F (pos i)) o=some (ob,f)/\v i=f (Hh (pos i)).nx/\Hh (pos i+1)=(Hh (pos i)).push ob)\/
    (Df o=true/\EG C call (F (pos i)) (Hh (pos i)) o=some (v i,Hh (pos i+1)))))
 stable:∀(i j:Nat) (o oj:Oper),ops[i]?=some o->ops[j]?=some oj->Df o=true->Fe oj=true->S8 oj=true->Bl (F (pos j)) ops oj=true->pos j<pos i->anc i j=false->
  HN C (F (pos j)) (Hh (pos i+1)) oj=some (.val (v j) (Hh (pos i+1)))
theorem kinds(o:Oper):Fe o=true\/C8 o=true\/Df o=true:=by
 grind [Df]
theorem KM{o:Oper}(h:Fe o=true):C8 o=false:=by
 grind [Fe,C8]
theorem V9{o:Oper}(h:Df o=true):Fe o=false/\C8 o=false:=by
 grind [Df]
section
variable {C:Ctx}{P:Program}{call:D4}{ops:Array Oper}{anc:Nat->Nat->Bool}{ord pos:Nat->Nat}{sc:Nat->Option Nat}{fr0:Fr}{h0:H}{v:Nat->V}{Hh:Nat->H}{F:Nat->Fr}
theorem Fw(st:Stat ops anc ord pos sc)(i:Canon C call ops anc ord pos fr0 h0 v Hh F){k:Nat}{o:Oper}{t:Tmp}(c:ops[k]?=some o)(j:o.dst=some t):
  ∀q,q<=ops.size->pos k<q->(F q).get t=v k
 |0,_,h=>by omega
 |q+1,l,h=>by
  have b:q<ops.size:=ae
  obtain⟨g,n⟩:=st.ordp q b;rw[i.fget q b (ops[ord q]) (by simp[g]) t];have d:=(zf.1 c).1;by_cases e:pos k=q
  ·have r:ord q=k:=by rw[<-e];exact(st.posp k d).2
   grind
  ·have f:ord q≠k:=ah;have:=(st.s6 k (ord q) o (ops[ord q]) t c (by simp[g]) (Ne.symm f) j).1;rw[wc this];exact Fw st i c j q ae ae
theorem Fz(st:Stat ops anc ord pos sc)(c:Canon C call ops anc ord pos fr0 h0 v Hh F){t:Tmp}:
  ∀q,q<=ops.size->(∀k o,ops[k]?=some o->o.dst=some t->¬pos k<q)->(F q).get t=fr0.get t
 |0,_,_=>by rw[c.f0]
 |q+1,e,h=>by
  have b:q<ops.size:=ae
  obtain⟨d,f⟩:=st.ordp q b;rw[c.fget q b (ops[ord q]) (by simp[d]) t,wc]
  ·exact Fz st c q ae ah
  grind
theorem Ae5(st:Stat ops anc ord pos sc)(d:Canon C call ops anc ord pos fr0 h0 v Hh F){i k:Nat}(h:sc i=some k):v i=v k:=by
 obtain⟨o,ok,t,c,j,q,g,r,e,f⟩:=st.q1 i k h;have b:=(zf.1 c).1;have s:=Fw st d j e (pos i) (Nat.le_of_lt (st.posp i b).1)<|st.apos i k f;have n:Bl (F<|pos i) ops o=true:=by unfold Bl;rw[g]
 have l:Fe o=true:=by grind [Fe]
 rcases d.step i o c with⟨u,_⟩|⟨_,⟨_,u,_⟩|⟨u,_⟩|⟨u,_⟩⟩
 ·grind
 ·grind [Dn,HT,ev,BT]
 ·grind [KM]
 grind [V9]
structure Inv(C:Ctx)(ops:Array Oper)(pos:Nat->Nat)(sc:Nat->Option Nat)(fr0:Fr)(v:Nat->V)(Hh:Nat->H)(F:Nat->Fr)(p0:Pl)(h0:H)(w0:World)(df:List Deferred)
  (S:Nat->Prop) (m:Nat) (fl:Nat->Nat) (p:Pl) (a:Act) (w:World):Prop where
 ext:Ext p0 h0 w0 p (Hh m) w
 gl:Gl C p
 mn:m<=ops.size
 mh:∀(k:Nat) (o:Oper),ops[k]?=some o->Df o=true->(S k↔pos k<m)
 ma:∀(k:Nat) (o:Oper),ops[k]?=some o->C8 o=true->pos k<m->S k
 sz:a.tmps.size=fr0.n
 df:a.defers=df
 slot:∀t,(∀(i:Nat) (o:Oper),S i->ops[i]?=some o->o.dst≠some t)->Ag p (fr0.get t) (a.tmps.getD t undef)
 slotw:∀(i:Nat) (o:Oper) (t:Tmp),S i->ops[i]?=some o->o.dst=some t->((C8 o=true\/(sc i).isSome=true)->Bl (F (pos i)) ops o=true->pos i<m)->Ag p (v i) (a.tmps.getD t undef)
 flt:∀(i:Nat) (o:Oper),S i->ops[i]?=some o->C8 o=true->Bl (F (pos i)) ops o=true->m<=pos i->
  ∃n x ob f v',dal C (F (pos i)) o=some (ob,f)/\w.heap[fl i]?=some x/\w0.heap.size<=fl i/\¬Im p (Hh m) (fl i)/\Mt p n ob x/\
   (∀(q:Pl) b,q[b]?=some (fl i,n)->Ag q (f b) v')/\(∀t,o.dst=some t->a.tmps.getD t undef=v')
 inj:∀(i j:Nat) (o o':Oper),S i->S j->ops[i]?=some o->ops[j]?=some o'->C8 o=true->C8 o'=true->Bl (F (pos i)) ops o=true->Bl (F (pos j)) ops o'=true->
  m<=pos i->m<=pos j->fl i=fl j->i=j
structure Ot(ops:Array Oper)(pos:Nat->Nat)(sc:Nat->Option Nat)(S:Nat->Prop)(m:Nat)(a:Act):Prop where
 eq:∀(i k:Nat) (o ok:Oper) (t tk:Tmp),S i->ops[i]?=some o->sc i=some k->ops[k]?=some ok->o.dst=some t->ok.dst=some tk->m<=pos i->a.tmps.getD t undef=a.tmps.getD tk undef/\S k
theorem Inv.adv(st:Stat ops anc ord pos sc)(Z:Canon C call ops anc ord pos fr0 h0 v Hh F){p0:Pl}{w0:World}{df:List Deferred}{S:Nat->Prop}{fl:Nat->Nat}{a:Act}{w:World}:
  ∀(d m:Nat) {p:Pl},Inv C ops pos sc fr0 v Hh F p0 h0 w0 df S m fl p a w->Ot ops pos sc S m a->m+d<=ops.size->
  (∀q,m<=q->q<m+d->∀(o:Oper),ops[ord q]?=some o->Df o=false/\(C8 o=true->S (ord q)))->
  ∃p',Inv C ops pos sc fr0 v Hh F p0 h0 w0 df S (m+d) fl p' a w
 |0,m,p,g,_,_,_=>⟨p,g⟩
 |d+1,m,p,g,K,hn,hq=>by
  have hm:m<ops.size:=ae
  obtain⟨g1,Y⟩:=st.ordp m hm;obtain⟨R,hj⟩:∃R,ops[ord m]?=some R:=(by simp_all);obtain⟨q1,q2⟩:=hq m ae ae _ hj;have one:∃p',Inv C ops pos sc fr0 v Hh F p0 h0 w0 df S (m+1) fl p' a w:=by
   have O:∀(k:Nat) (o:Oper),ops[k]?=some o->Df o=true->(S k↔pos k<m+1):=by
    intro k o u hv;rw[g.mh k o u hv];constructor
    ·omega
    ·intro h;by_cases e:pos k=m
     ·have D:=(zf.1 u).1;have J:ord m=k:=by rw[<-e];exact(st.posp k D).2
      grind
     ·omega
   have Q:∀(k:Nat) (o:Oper),ops[k]?=some o->C8 o=true->pos k<m+1->S k:=by
    intro k o u M hlt;by_cases e:pos k=m
    ·have D:=(zf.1 u).1;have J:ord m=k:=by rw[<-e];exact(st.posp k D).2
     grind
    ·exact g.ma k o u M ae
   have same:Hh (m+1)=Hh m->(C8 R=true->Bl (F<|pos<|ord m) ops R=false)->(Bl (F<|pos<|ord m) ops R=false->v (ord m)=.tup [])->
     Inv C ops pos sc fr0 v Hh F p0 h0 w0 df S (m+1) fl p a w:=by
    intro hh M _;refine⟨by rw[hh];exact g.ext,g.gl,by omega,O,Q,g.sz,g.df,g.slot,fun i o t l c I hc=>?_,fun i o l c s r B=>?_,fun i j o o' l G c z s A r y B N he=>?_⟩
    ·by_cases hcp:(sc i).isSome=true/\pos i=m
     ·obtain⟨k,u⟩:=Option.isSome_iff_exists.1 hcp.1;obtain⟨o2,ok,tk,h1,h2,h3,h4,h5,h6,h7⟩:=st.q1 i k u;obtain⟨e1,J⟩:=K.eq i k o ok t tk l c u h2 I h6 ae;rw[Ae5 st Z u,e1];have:=st.apos _ _ h7;exact g.slotw k ok tk J h2 h6 ae
     ·refine g.slotw i o t l c I fun s r=>?_
      have h1:=hc s r;by_cases e:pos i=m
      ·have E:=(zf.1 c).1;have J:ord m=i:=by rw[<-e];exact(st.posp i E).2
       grind
      ·omega
    ·obtain⟨n,x,ob,f,v',W,k2,k3,k4,k5⟩:=g.flt i o l c s r ae;exact⟨n,x,ob,f,v',W,k2,k3,by grind,k5⟩
    ·exact g.inj i j o o' l G c z s A r y ae ae he
   rcases Z.step (ord m) _ hj with⟨u1,u2,X⟩|⟨u1,⟨u2,X,u4⟩|⟨u2,ob,f,X,u4,u5⟩|⟨u2,X⟩⟩
   ·grind
   ·grind [KM]
   ·
    obtain⟨n,x,L,f',v',W,k2,k3,k4,k5,k6,k7⟩:=g.flt (ord m) _ (q2 u2) hj u2 u1 ae;rw[X]at W;cases W;rw[Y]at u4 u5;have hx:=g.ext.sG k2 k5 k4 k3;rw[<-u5]at hx;have hnew:(p++[(fl<|ord m,n)])[(Hh m).nx]?=some (fl<|ord m,n):=by rw[<-g.ext.rel.len];simp
    refine⟨p++[(fl<|ord m,n)],hx,?_,by omega,O,Q,g.sz,g.df,fun t I=>(g.slot t I).mono _,fun i o t l c I hc=>?_,fun i o l c s r B=>?_,fun i j o o' l G c z s A r y B N he=>?_⟩
    ·exact Gp.app g.gl _
    ·by_cases e:i=ord m
     ·grind
     ·refine(g.slotw i o t l c I fun s r=>?_).mono _;have h1:=hc s r;have E:=(zf.1 c).1;have:pos i≠m:=fun J=>e (by rw[<-J];exact(st.posp i E).2.symm)
      omega
    ·obtain⟨n',x',L,f',v'',l1,l2,l3,l4,l5,l6,l7⟩:=g.flt i o l c s r ae;refine⟨n',x',L,f',v'',l1,l2,l3,?_,l5.mono _,l6,l7⟩;rintro⟨b,ob2,n2,U,m2⟩;rw[u5,H.C2]at U;by_cases e:b=(Hh m).nx
     ·have:fl (ord m)=fl i:=ah;have:=g.inj (ord m) i _ o (q2 u2) l hj c u2 s u1 r ae ae this;grind
     ·rw[wc e]at U;have hb:=g.ext.rel.lt U;rw[List.getElem?_append_left ah]at m2;exact l4 ⟨b,ob2,n2,U,m2⟩
    ·exact g.inj i j o o' l G c z s A r y ae ae he
   grind
  obtain⟨p',c⟩:=one;obtain⟨p'',hi''⟩:=Inv.adv st Z d (m+1) c ⟨fun i k o ok t tk g1 Y g3 g4 g5 g6 g7=>K.eq i k o ok t tk g1 Y g3 g4 g5 g6 ae⟩ ae ah;grind
end
section
variable {C:Ctx}{P:Program}{call:D4}{ops:Array Oper}{anc:Nat->Nat->Bool}{ord pos:Nat->Nat}{sc:Nat->Option Nat}{fr0:Fr}{h0:H}{v:Nat->V}{Hh:Nat->H}{F:Nat->Fr}
 {p0:Pl} {w0:World} {df:List Deferred} {S:Nat->Prop} {m:Nat} {fl:Nat->Nat} {p:Pl} {a:Act} {w:World}
structure Uj(anc:Nat->Nat->Bool)(S:Nat->Prop)(i:Nat):Prop where
 fresh:¬S i
 all:∀k,anc i k=true->S k
def Down(anc:Nat->Nat->Bool)(S:Nat->Prop):Prop:=∀i k,S i->anc i k=true->S k
theorem operands(st:Stat ops anc ord pos sc)(q:Canon C call ops anc ord pos fr0 h0 v Hh F)(r:Inv C ops pos sc fr0 v Hh F p0 h0 w0 df S m fl p a w)(G:Down anc S){i:Nat}{o:Oper}(x:ops[i]?=some o)(hr:Uj anc S i)
  (E:∀(k:Nat) (ok:Oper) (t:Tmp),ops[k]?=some ok->(C8 ok=true\/(sc k).isSome=true)->ok.dst=some t->t∈reads ops o->anc i k=true->pos k<m):FOn p (F<|pos i) a (reads ops o):=by
 have u:=(zf.1 x).1;have D:=(st.posp i u).1;refine⟨by rw[q.fn _ ae,r.sz],fun t B=>?_⟩;by_cases A:∃(k:Nat) (ok:Oper),k≠i/\ops[k]?=some ok/\ok.dst=some t
 ·obtain⟨k,ok,s,n,c⟩:=A;rcases(st.s6 k i ok o t n x s c).2 B with l|l
  ·have g:=hr.all k l;rw[Fw st q n c (pos i) ae<|st.apos i k l];exact r.slotw k ok t g n c ah
  ·have g:¬S k:=fun h=>hr.fresh<|G k i h l
   have d:∀(j:Nat) (oj:Oper),ops[j]?=some oj->oj.dst=some t->j=k:=by
    intro j oj f b;by_cases e:j=k
    ·exact e
    ·exact wh b (st.s6 k j ok oj t n f ae c).1
   rw[Fz st q (pos i) ae fun j oj f b z=>by
    have:=d j oj f b;subst this;have:=st.apos _ _ l;omega]
   refine r.slot t fun j oj y f b=>?_
   grind
 ·have d:∀(j:Nat) (oj:Oper),ops[j]?=some oj->oj.dst=some t->j=i:=by
   grind
  rw[Fz st q (pos i) ae ah];refine r.slot t fun j oj y f b=>?_
  have:=d j oj f b;subst this;exact hr.fresh y
def Rest(ops:Array Oper)(pos:Nat->Nat)(S:Nat->Prop)(m:Nat):Prop:=m=0\/∃(k:Nat) (o:Oper),ops[k]?=some o/\Df o=true/\S k/\m=pos k+1
theorem QK(st:Stat ops anc ord pos sc)(s:Down anc S)(t:Inv C ops pos sc fr0 v Hh F p0 h0 w0 df S m fl p a w)(b:Rest ops pos S m){k:Nat}{o:Oper}(j:ops[k]?=some o)(hr:¬S k):
  m<=pos k\/∃(i:Nat) (oi:Oper),ops[i]?=some oi/\Df oi=true/\S i/\m=pos i+1/\pos k<pos i/\anc i k=false:=by
 by_cases l:m<=pos k
 ·omega
 ·right;rcases b with rfl|⟨i,oi,g,r,q,n⟩
  ·omega
  ·refine⟨i,oi,g,r,q,n,?_,?_⟩
   ·have d:k≠i:=ah;have c:=(zf.1 j).1;have f:=(zf.1 g).1;have:pos k≠pos i:=fun e=>d (by rw[<-(st.posp k c).2,e,(st.posp i f).2])
    omega
   grind [Down]
theorem RI(st:Stat ops anc ord pos sc)(l:Inv C ops pos sc fr0 v Hh F p0 h0 w0 df S m fl p a w){i:Nat}{o:Oper}(j:ops[i]?=some o)(hr:Uj anc S i)(g:C8 o=false){k:Nat}{ok:Oper}(d:ops[k]?=some ok)
  (f:Df ok=true) (n:m<=pos k) (q:pos k<pos i):False:=by
 have c:¬S k:=fun h=>by have:=(l.mh k ok d f).1 h;omega
 have e:k≠i:=ah;rcases kinds o with h|h|h
 ·rcases st.s2 k i ok o d j f h with b|b
  ·exact c<|hr.all k b
  ·omega
 ·grind
 ·rcases st.s1 k i ok o d j f h e with b|b
  ·have:=st.apos _ _ b;omega
  ·exact c<|hr.all k b
theorem Zm(st:Stat ops anc ord pos sc)(s:Canon C call ops anc ord pos fr0 h0 v Hh F)(G:Down anc S)(A:Inv C ops pos sc fr0 v Hh F p0 h0 w0 df S m fl p a w)(b:Rest ops pos S m){i:Nat}{o:Oper}(f:ops[i]?=some o)
  (hr:Uj anc S i) (g:Fe o=true) (j:Bl (F<|pos i) ops o=true) (n:HN C (F<|pos i) (Hh<|pos i) o=some (.val (v i)<|Hh<|pos i)):HN C (F<|pos i) (Hh m) o=some (.val (v i)<|Hh m):=by
 have r:=KM g;cases c:S8 o with
 |false=>grind [wV]
 |true=>
  rcases QK st G A b f hr.fresh with y|⟨k,ok,D,z,K,x,B,t⟩
  ·have l:=(zf.1 f).1;have E:=(st.posp i l).1;have key:∀d,m+d<=pos i->Hh (m+d)=Hh m:=by
    intro d;induction d with
    |zero=>simp
    |succ d L=>
     intro q;obtain⟨I,O⟩:=st.ordp (m+d) ae;obtain⟨e,hq⟩:∃e,ops[ord<|m+d]?=some e:=ah;rcases s.step _ e hq with⟨_,_,u⟩|⟨_,⟨_,_,u⟩|⟨u1,_⟩|⟨u1,_⟩⟩
     ·grind
     ·grind
     ·obtain⟨k,ok,N,Q,J,M⟩:=st.s5 i _ o e f hq g c u1 ae;grind [RI]
     grind [RI]
   have:=key (pos i-m) ae;grind
  ·rw[x];exact s.stable k i ok o D f z g c j B t
theorem EL{a:Act}{d:Option Tmp}{x:Value}{t:Tmp}(h:d≠some t):(a.put d x).tmps.getD t undef=a.tmps.getD t undef:=by
 cases d with
 |none=>rfl
 |some s=>
  simp_all [yq]
theorem GF{a:Act}{x:Value}{t:Tmp}(h:t<a.tmps.size):(a.put (some t) x).tmps.getD t undef=x:=by
 simp[yq,h]
theorem SF{a:Act}{d:Option Tmp}{x:Value}:(a.put d x).tmps.size=a.tmps.size:=by cases d<;>simp[yq]
theorem Rv{a:Act}{d:Option Tmp}{x:Value}:(a.put d x).defers=a.defers:=by cases d<;>rfl
theorem Ot.put(st:Stat ops anc ord pos sc){S:Nat->Prop}{m s:Nat}{a:Act}(D:Ot ops pos sc S m a){i:Nat}{o:Oper}(f:ops[i]?=some o)(g:¬S i)(hr:Uj anc S i){x:Value}(Q:m<=s)
  (E:∀(k:Nat) (ok:Oper) (t tk:Tmp),sc i=some k->ops[k]?=some ok->o.dst=some t->ok.dst=some tk->s<=pos i->(a.put o.dst x).tmps.getD t undef=a.tmps.getD tk undef):
  Ot ops pos sc (fun k=>S k\/k=i) s (a.put o.dst x):=by
 refine⟨fun j k oj ok t tk u d q b l c z=>?_⟩;obtain⟨o1,O,t2,q1,G,N,I,R,M,B⟩:=st.q1 j k q;by_cases e:j=i
 ·subst e;rw[f]at d;cases d;have y:S k:=hr.all k B;refine⟨?_,.inl y⟩;rw[E k ok t tk q b l c z];have r:k≠j:=ah;have:o.dst≠some tk:=(st.s6 k j ok o tk b f r c).1;rw[EL this]
 ·have A:=u.resolve_right e;obtain⟨K,U⟩:=D.eq j k oj ok t tk A d q b l c ae;have n:k≠i:=ah;have L:o.dst≠some t:=(st.s6 j i oj o t d f e l).1;have J:o.dst≠some tk:=(st.s6 k i ok o tk b f n c).1;grind [EL]
theorem Inv.quiet(st:Stat ops anc ord pos sc)(Y:Canon C call ops anc ord pos fr0 h0 v Hh F)(c:Inv C ops pos sc fr0 v Hh F p0 h0 w0 df S m fl p a w){i:Nat}{o:Oper}(D:ops[i]?=some o)(q:¬S i)(G:Df o=false)
  (Z:C8 o=true->Bl (F<|pos i) ops o=false) {x:Value} (hx:((sc i).isSome=true->Bl (F<|pos i) ops o=true->pos i<m)->Ag p (v i) x):Inv C ops pos sc fr0 v Hh F p0 h0 w0 df (fun k=>S k\/k=i) m fl p (a.put o.dst x) w:=by
 have J:∀(k:Nat) (ok:Oper) (t:Tmp),k≠i->ops[k]?=some ok->ok.dst=some t->o.dst≠some t:=fun k ok t B b g=>(st.s6 k i ok o t b D B g).1
 refine⟨c.ext,c.gl,c.mn,fun k ok b L=>?_,fun k ok b A z=>.inl<|c.ma k ok b A z,by rw[SF,c.sz],by rw[Rv,c.df],fun t g=>?_,fun k ok t I b g hc=>?_,fun k ok I b s r d=>?_,
  fun k j ok oj I O b K s E r u d l M=>?_⟩
 ·rw[<-c.mh k ok b L];grind
 ·have X:o.dst≠some t:=ah;rw[EL X];exact c.slot t ah
 ·by_cases e:k=i
  ·subst e;rw[D]at b;cases b;rw[g,GF<|by rw[c.sz];exact Y.dst k o t D g];grind
  ·rw[EL ah];exact c.slotw k ok t ah b g hc
 ·obtain⟨n,y,ob,f,v',R,k2,N,Q,U,W,k7⟩:=c.flt k ok ah b s r d;exact⟨n,y,ob,f,v',R,k2,N,Q,U,W,(by grind [EL])⟩
 ·exact c.inj k j ok oj ah ah b K s E r u d l M
theorem Inv.made(st:Stat ops anc ord pos sc)(c:Inv C ops pos sc fr0 v Hh F p0 h0 w0 df S m fl p a w){i:Nat}{o:Oper}(L:ops[i]?=some o)(s:C8 o=true)(hwd:Bl (F<|pos i) ops o=true)(g:m<=pos i)
  (cn:Canon C call ops anc ord pos fr0 h0 v Hh F) {ob:O} {f:Nat->V} (u:dal C (F<|pos i) o=some (ob,f)) {x:Obj} {n:Nat} {v':Value} (Y:Mt p n ob x) (Q:∀(q:Pl) b,q[b]?=some (w.heap.size,n)->Ag q (f b) v'):
  Inv C ops pos sc fr0 v Hh F p0 h0 w0 df (fun k=>S k\/k=i) m (fun k=>if k=i then w.heap.size else fl k) p (a.put o.dst v') { w with heap:=w.heap.push x }:=by
 have W:∀(k:Nat) (ok:Oper) (t:Tmp),k≠i->ops[k]?=some ok->ok.dst=some t->o.dst≠some t:=fun k ok t K d r=>(st.s6 k i ok o t d L K r).1
 have M:Df o=false:=by simp[Df,s]
 refine⟨c.ext.aside x,c.gl,c.mn,fun k ok d Q=>?_,fun k ok d s G=>.inl<|c.ma k ok d s G,by rw[SF,c.sz],by rw[Rv,c.df],fun t r=>?_,fun k ok t U d r hc=>?_,fun k ok U d D B g=>?_,
  fun k j ok oj U Z d N D A B z g l R=>?_⟩
 ·rw[<-c.mh k ok d Q];grind
 ·have h1:o.dst≠some t:=ah;rw[EL h1];exact c.slot t ah
 ·by_cases e:k=i
  ·grind
  ·rw[EL ah];exact c.slotw k ok t ah d r hc
 ·by_cases e:k=i
  ·subst e;rw[L]at d;cases d;refine⟨n,x,ob,f,v',u,by simp,by simpa using c.ext.size,fun I=>?_,Y,by grind,fun t r=>?_⟩
   ·have:=c.ext.rel.cL I;grind
   ·rw[r,GF<|by rw[c.sz];exact cn.dst k o t L r]
  ·obtain⟨n',y,J,f',E,k1,X,k3,k4,k5,k6,k7⟩:=c.flt k ok ah d D B g;refine⟨n',y,J,f',E,k1,?_,by grind,by grind,k5,by grind,(by grind [EL])⟩;grind
 ·by_cases e:k=i<;>by_cases e':j=i
  ·omega
  ·obtain⟨_,_,_,_,_,_,X,_⟩:=c.flt j oj ah N A z l;grind
  ·obtain⟨_,_,_,_,_,_,X,_⟩:=c.flt k ok ah d D B g;grind
  ·simp only[e,vf,e']at R;exact c.inj k j ok oj ah ah d N D A B z g l R
end
end Go.Det
