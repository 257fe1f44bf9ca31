import Derived.Test.YtbmofcgiokkikaaGreatDoorX01
import Derived.Laws.IdiomStrings
import Derived.Lib.UnsafeStr
import Derived.Lib.Builder
import Derived.RangeFuncRecord
import Derived.LoopNIn
import Derived.OrdersIn
import Derived.RangeFuncLeaves
/- A part of a proof; no law is stated here. -/
noncomputable section
open Go.Result renaming andThen_ok -> zc
open Go.Sem renaming run_bind -> zd, run_pure -> zf, run -> zr
open Option.some renaming injEq -> ze
open Array renaming getElem?_eq_some_iff -> zg, getElem?_setIfInBounds_ne -> zi, getD_eq_getD_getElem? -> zj, getElem?_eq_none -> zn, toList_inj -> zo, getElem?_toList -> zq, getElem?_push -> yc
open Option renaming map_eq_some_iff -> zh, map_some -> yu
open List renaming mem_singleton -> zk, getElem?_append_left -> zy, getElem?_take_of_lt -> zz, mem_append_right -> z7, getElem?_eq_some_iff -> yg, getElem?_map -> yj, mem_cons -> yx
open Nat renaming blt -> zl, beq -> zt, le_of_not_lt -> zx, ble -> z6, blt_eq -> ye, le_refl -> yi, ble_eq -> yy
open Go.Det.Ext renaming refl -> zm, put -> yw
open Go.Instr renaming sameBits -> zp, findAsking -> z8, findNow -> ya, range -> yh, sameNow -> yn, findKey -> yo, next -> yq, lookup -> yr, checkKey -> yv
open Bool renaming and_eq_true -> zu, false_eq_true -> yd
open Go.Deferred renaming ofValue -> zw
open Go.Oper renaming semAt_eq -> yb
open Go.Fence renaming wide -> yf
open Go.Op renaming operands -> yk
open Prod.mk renaming injEq -> ym
open Go.Region renaming wanted -> yp
open Go.Question renaming forced -> yt
namespace Go.Det
section
variable {T:Cg}{P:Program}{p:Pl}{h:H}{w:World}
def qA(T:Cg)(h:H)(ts:Array TypeId)(args:List V):Option (V×H):=
 match ts[0]?,args with
 |some t,[d,x]=>
  match T.und t,Qu d,Qu x with
  |some (.slice e),some c,some n=>
   match T.inf e with
   |some i=>
    match src h i.size x (Nat.min n c)with
    |some new=>
     match d with
     | .nils=>some (i64<|Nat.min n c,h)
     | .sl b off _ _ _=>(wr h b off new).map fun h'=>(i64<|Nat.min n c,h')
     |_=>none
    |none=>none
   |none=>none
  |_,_,_=>none
 |_,_=>none
theorem mI(y:T.Ok P)(hr:R p h w){ts:Array TypeId}{t:TypeId}{args:List V}{args':Array Value}(E:Ax p args args'.toList){v:V}{h':H}(b:qA T h ts args=some (v,h')):
  ∃v' p' w',(Builtin.copy_ ts t args').run P w=.ok v' w'/\Ad p' v v'/\Ext p h w p' h' w':=by
 unfold qA at b;split at b
 case h_2=>cases b
 rename_i t0 d x u;obtain⟨B,x',s,g,o⟩:=E.two;have q:args'= #[B,x']:=ah
 subst q;split at b
 case h_2=>cases b
 rename_i e G n D f A;split at b
 case h_2=>cases b
 rename_i i z;split at b
 case h_2=>cases b
 rename_i new k;obtain⟨vn,l,j⟩:=Ms (P:=P) hr o k;unfold Builtin.copy_;simp only[u,List.getElem?_toArray,List.getElem?_cons_zero,List.getElem?_cons_succ,zd,AE y D,zc];split at b
 case h_3=>cases b
 case h_1=>
  subst g;simp only[Qu,ze]at f;subst f;cases b;simp only[zd,QM o A,BK y z,zc,l];refine⟨_,p,w,(by rfl),?_,zm hr⟩;rfl
 case h_2=>
  simp only[Qu,ze]at f;subst f;obtain⟨r,m,c,hp,rfl,_⟩:=g;rw[zh]at b;obtain⟨h1,hw,he⟩:=b;cases he;obtain⟨r',m',w',g1,g2,g3⟩:=TO (P:=P) hr j hw;rw[hp]at g1;cases g1;simp only[zd,QM o A,BK y z,zc,l,g2];refine⟨_,p,w',(by rfl),?_,g3⟩;rfl
def Ti(T:Cg)(h:H)(t:TypeId)(x:V):Option (V×H):=
 match T.und t,x with
 |some .string,.str s=>some (.ptr h.nx 0,h.push<|.siter s 0)
 |_,_=>none
theorem fR(f:T.Ok P)(hr:R p h w){t:TypeId}{x:V}{x':Value}(e:Ad p x x'){v:V}{h':H}(b:Ti T h t x=some (v,h')):
  ∃v' p' w',(yh t x').run P w=.ok v' w'/\Ad p' v v'/\Ext p h w p' h' w':=by
 unfold Ti at b;split at b
 case h_2=>cases b
 rename_i s c;cases b;subst e;have d:=Ext.push (n:=0) hr (o:=.siter s 0) (x:=.stringIter (bytesOf s) 0) rfl;refine⟨.pointer<|some ⟨w.heap.size,0,none⟩,_,_,?_,?_,d⟩
 ·unfold yh;simp only[zd,AE f c,zc,zf,run_newObj]
 ·exact⟨w.heap.size,0,by rw[<-hr.len];simp,rfl⟩
def Oi(h:H)(d:V)(c:Bool):Option (V×H):=
 match d,c with
 | .ptr b 0,true=>
  match h.get b with
  |some (.siter s pos)=>
   bif zl pos s.length then
    some (.tup [.bool true,i64 pos,.int .i32 (Utf8.decode (bytesOf s) pos).1],h.put b<|.siter s<|pos+(Utf8.decode (bytesOf s) pos).2)
   else some (.tup [.bool false],h)
  |_=>none
 |_,_=>none
theorem tO(hr:R p h w){g:V}{e:Value}{b:Bool}{t:TypeId}(l:Ad p g e){v:V}{h':H}(c:Oi h g b=some (v,h')):
  ∃v' p' w',(yq e b t).run P w=.ok v' w'/\Ad p' v v'/\Ext p h w p' h' w':=by
 unfold Oi at c;split at c
 case h_2=>cases c
 obtain⟨r,n,hp,rfl⟩:=l;split at c
 case h_2=>cases c
 rename_i s pos i;obtain⟨m,n',x,f,j,k⟩:=hr.obj _ _ i;rw[hp]at f;cases f;subst k;rw[HE]at c;unfold yq;simp only[zd,getObj,zr,j,zc,BV];by_cases d:pos<s.length
 ·simp only[d,decide_true,we,ze,ym]at c;obtain⟨rfl,rfl⟩:=c;simp only[d,wk,zd,setObj,zr,j,zc];refine⟨_,p,_,zf ..,?_,yw hr i hp (o':=.siter s<|pos+(Utf8.decode (bytesOf s) pos).2) rfl rfl rfl rfl rfl⟩;simp[Ad,i64,goInt]
 ·simp only[d,decide_false,wg,ze,ym]at c;obtain⟨rfl,rfl⟩:=c;simp only[d,vf];exact⟨_,p,w,(by rfl),by simp[Ad],zm hr⟩
def Js(h:H)(r:Option V):Option (V×H):=
 match r with
 |none=>some (.map h.nx,h.push<|.map [] 0)
 |some _=>none
theorem V3(hr:R p h w){t:TypeId}{r:Option V}{c:Option Value}(e:HM p r c){v:V}{h':H}(b:Js h r=some (v,h')):
  ∃v' p' w',(Instr.makeMap t c).run P w=.ok v' w'/\Ad p' v v'/\Ext p h w p' h' w':=by
 unfold Js at b;split at b
 case h_2=>cases b
 cases b;subst e;have d:=Ext.push (n:=0) hr (o:=.map [] 0) (x:=.map #[] 0) ⟨#[],rfl,.nil⟩;refine⟨.map<|some w.heap.size,_,_,?_,?_,d⟩
 ·rfl
 ·exact⟨w.heap.size,0,by rw[<-hr.len];simp,rfl⟩
def lC(T:Cg)(d:TypeId)(a b:V):Option Bool:=
 match T.und d,a,b with
 |some (.int _),.int k x,.int c y=>if k=c then some (x==y)else none
 |some .string,.str x,.str y=>some<|x==y
 |some .bool,.bool x,.bool y=>some<|x==y
 |_,_,_=>none
def Ma(T:Cg)(b:TypeId)(k:V):List (V×V×Nat)->Nat->Option (Option<|Nat×V)
 |[],_=>some none
 |(a,v,_)::es,i=>
  match lC T b k a with
  |some true=>some<|some (i,v)
  |some false=>Ma T b k es<|i+1
  |none=>none
def plainKey:V->Bool
 | .int .. | .str _| .bool _=>true
 |_=>false
theorem bytes_beq(x y:ByteArray):(x==y)=(x.data==y.data):=rfl
theorem cA{k:TypeId}{a b:V}{f b':Value}(i:Ad p a f)(j:Ad p b b'){r:Bool}(e:lC T k a b=some r){d:TypeDesc}(g:T.und k=some d):
  yn d f b'=some r/\(r=true->f=b'):=by
 unfold lC at e;split at e
 case h_1=>
  grind [Ad,yn]
 case h_2=>
  rename_i c;rw[g]at c;simp only[Ad]at i j;cases e;simp_all [yn,bytes_beq,bytesOf]
 case h_3=>
  rename_i c;rw[g]at c;cases c;subst i j;cases e;exact⟨rfl,(by simp)⟩
 grind
theorem sJ{m:TypeId}{k:V}{f:Value}(n:Ad p k f){d:TypeDesc}(t:T.und m=some d):
  ∀ {es:List (V×V×Nat)} {l:List MapEntry},D2 p es l->∀ {i:Nat} {r:Option (Nat×V)},Ma T m k es i=some r->
  ∃g,ya d f l i=some g/\(match r with|none=>g=none|some (j,v)=>∃v',g=some (j,v')/\Ad p v v'/\i<=j/\∃e,l[j-i]?=some e/\e.key=f):=by
 intro es l q;induction q with
 |nil=>intro i r c;simp only[Ma,ze]at c;subst c;exact⟨none,rfl,rfl⟩
 |@cons a v b es e l o A u _ z=>
  intro i r c;unfold Ma at c;split at c
  case h_1=>
   rename_i s;cases c;obtain⟨y,x⟩:=cA n o s t;simp_all [ya]
  case h_2=>
   grind [cA,ya]
  grind
theorem run_checkKey{k:V}{c:Value}(g:Ad p k c)(hp:plainKey k=true)(l:T.Ok P){e:TypeId}{d:TypeDesc}(f:T.und e=some d)(j:EV d=false)(m:∀i,d≠ .interface i)(b:Bool):
  (yv b 10000 e c).run P w=.ok () w:=by
 unfold yv;rw[zd,AE l f];cases k<;>simp only[plainKey]at hp<;>simp only[Ad]at g
 case bool|int|str=>
  cases d<;>first|rfl|(cases j;done)|grind
 all_goals cases hp
def jZ:TypeDesc->Bool
 | .int _| .string| .bool=>true
 |_=>false
theorem dD{d:TypeDesc}(h:jZ d=true):EV d=false/\∀b,d≠ .interface b:=by
 cases d<;>first|(cases h;done)|exact⟨rfl,fun b e=>by cases e⟩
theorem RO{k:V}{b:Value}(c:Ad p k b)(hp:plainKey k=true):zp 10000 b b=true:=by
 cases k<;>simp only[plainKey]at hp<;>simp only[Ad]at c
 case bool=>grind [zp]
 case int=>grind [zp]
 case str=>grind [zp,bytes_beq]
 all_goals cases hp
theorem Wg{a b:V}{c b':Value}(d:Ad p a c)(e:Ad p b b')(h:EU a b=some true):c=b':=by
 unfold EU at h;grind [Ad]
theorem MO:∀ {xs c:List V} {x y:List Value},Ax p xs x->Ax p c y->B8 xs c=some true->x=y
 |[],[],x,y,d,e,_=>by simp_all
 |[],_::_,_,_,_,_,h=>by simp[B8]at h
 |_::_,[],_,_,_,_,h=>by simp[B8]at h
 |a::g,b::l,x,y,d,e,h=>by
  obtain⟨u,k,rfl,f,j⟩:=d;obtain⟨v,vs,rfl,h3,h4⟩:=e;unfold B8 at h;split at h
  case h_1=>
   rename_i i;rw[Wg f h3 i,MO j h4 h]
  case h_2=>grind
  grind
theorem WY:∀ {ks:List FK} {xs:List V} {x:List Value},fit ks xs=true->Ax p xs x->(x.zip x).all (fun(a,b)=>zp 9999 a b)=true
 |[],[],x,_,d=>by simp_all
 |[],_::_,_,h,_=>by simp[fit]at h
 |_::_,[],_,h,_=>by simp_all
 |k::ks,v::vs,x,h,d=>by
  obtain⟨u,i,rfl,g,f⟩:=d;unfold fit at h;cases c:k.ok v with
  |false=>grind
  |true=>
   simp only[c,we]at h;have e:=WY h f;simp only[List.zip_cons_cons,List.all_cons,e,Bool.and_true];unfold FK.ok at c;grind [Ad,zp,bytes_beq]
def QY(ks:List FK)(k:List V):List (V×V×Nat)->Nat->Option (Option<|Nat×V)
 |[],_=>some none
 |(a,v,_)::es,i=>
  match a with
  | .agg b=>match Ps (some ks) k b with
   |some true=>some<|some (i,v)
   |some false=>QY ks k es<|i+1
   |none=>none
  |_=>none
def Jm(T:Cg)(b:TypeId)(d:TypeDesc)(k:V):Bool:=
 match k with
 | .agg xs=>match T.flat b with
  |some ks=>fit ks xs
  |none=>false
 |k=>plainKey k&&jZ d
def Lb(T:Cg)(b:TypeId)(k:V)(es:List (V×V×Nat)):Option (Option<|Nat×V):=
 match k with
 | .agg xs=>match T.flat b with
  |some ks=>QY ks xs es 0
  |none=>none
 |k=>Ma T b k es 0
theorem QN(A:T.Ok P){g:TypeId}{ks:List FK}(u:T.flat g=some ks){xs:List V}{x:Array Value}(t:Ax p xs x.toList):
  ∀ {es:List (V×V×Nat)} {l:List MapEntry},D2 p es l->∀ {i:Nat} {r:Option (Nat×V)},QY ks xs es i=some r->
  ∃d,(z8 g (.agg x) l i).run P w=.ok d w/\(match r with|none=>d=none|some (j,v)=>∃v',d=some (j,v')/\Ad p v v'/\i<=j/\∃e,l[j-i]?=some e/\e.key=.agg x):=by
 intro es l B;induction B with
 |nil=>intro i r c;simp only[QY,ze]at c;subst c;exact⟨none,rfl,rfl⟩
 |@cons a v b es e l f E I _ D=>
  intro i r c;unfold QY at c;split at c
  case h_2=>cases c
  rename_i s;obtain⟨y,z,f⟩:=f;split at c
  case h_3=>cases c
  case h_1=>
   rename_i o;cases c;obtain⟨l',k,n,m,q⟩:=H2 o;cases k;refine⟨some (i,e.val),?_,e.val,rfl,E,yi _,e,by simp,?_⟩
   ·simp only[z8,zd,z,A.flat g ks u p xs s x y true w n m t f q,zc,wk,zf]
   grind [MO,zo]
  case h_2=>
   rename_i o;obtain⟨l',k,n,m,q⟩:=H2 o;cases k;obtain⟨d,k1,k2⟩:=D c;refine⟨d,?_,?_⟩
   ·simp only[z8,zd,z,A.flat g ks u p xs s x y false w n m t f q,zc,yd,vf];exact k1
   ·cases r with
    |none=>exact k2
    |some G=>
     grind
theorem Kh(l:T.Ok P){e:TypeId}{d:TypeDesc}(m:T.und e=some d){k:V}{f:Value}(i:Ad p k f)(c:Jm T e d k=true)(b:Bool):
  (yv b 10000 e f).run P w=.ok () w:=by
 unfold Jm at c;split at c
 case h_1=>
  rename_i xs;split at c
  case h_2=>cases c
  rename_i ks g;obtain⟨x,rfl,j⟩:=i;exact l.key e ks g p xs x b w c j
 case h_2=>
  grind [dD,run_checkKey]
theorem YE{f:TypeId}{d:TypeDesc}{k:V}{c:Value}(e:Ad p k c)(b:Jm T f d k=true):zp 10000 c c=true:=by
 unfold Jm at b;split at b
 case h_1=>
  split at b
  case h_2=>cases b
  obtain⟨x,rfl,g⟩:=e;have:=WY b g;simp_all [zp]
 case h_2=>
  grind [RO]
def entries(h:H)(m:V):Option (List<|V×V×Nat):=
 match m with
 | .nilm=>some []
 | .map b=>match h.get b with
  |some (.map es _)=>some es
  |_=>none
 |_=>none
def Fq(T:Cg)(h:H)(t:TypeId)(m k:V)(ok:Bool):Option V:=
 match T.und t with
 |some (.map b e)=>
  match T.und b,entries h m with
  |some d,some es=>
   bif Jm T b d k then
    match Lb T b k es with
    |some (some (_,v))=>some<|bif ok then .tup [v,.bool true]else v
    |some none=>match T.inf e with
     |some i=>some<|bif ok then .tup [i.zv,.bool false]else i.zv
     |none=>none
    |none=>none
   else none
  |_,_=>none
 |_=>none
theorem Nn(hr:R p h w){m:V}{d:Value}(f:Ad p m d){es:List (V×V×Nat)}(c:entries h m=some es):
  (d=.map none/\es=[])\/∃r l e b n,m=.map b/\d=.map (some r)/\p[b]?=some (r,n)/\h.get b=some (.map es e)/\w.heap[r]?=some (.map l e)/\D2 p es l.toList:=by
 unfold entries at c;split at c
 case h_1=>simp_all [Ad]
 case h_2=>
  simp only[Ad]at f;split at c
  case h_2=>cases c
  rename_i g e i;obtain⟨s,n',o,j,t,l,k,q⟩:=hr.obj _ _ i;grind
 grind
theorem run_findKey(n:T.Ok P){c:TypeId}{k:V}{g:Value}(o:Ad p k g){d:TypeDesc}(m:T.und c=some d){es:List (V×V×Nat)}{l:List MapEntry}(s:D2 p es l)
  {r:Option (Nat×V)} (f:Lb T c k es=some r):
  ∃b,(yo c g l).run P w=.ok b w/\(match r with|none=>b=none|some (j,v)=>∃v',b=some (j,v')/\Ad p v v'/\∃e,l[j]?=some e/\e.key=g):=by
 by_cases i:∃xs,k=.agg xs
 ·obtain⟨xs,rfl⟩:=i;simp only[Lb]at f;cases t:T.flat c with
  |none=>grind
  |some ks=>
   simp only[t]at f;obtain⟨x,rfl,y⟩:=o;obtain⟨b,q,z⟩:=QN (P:=P) (w:=w) n t y s f;refine⟨b,?_,?_⟩
   ·unfold yo;simp only[zd,AE n m,zc];cases l with
    |nil=>grind [ya,z8]
    |cons e l=>grind [ya,yn]
   grind
 ·have u:Lb T c k es=Ma T c k es 0:=by cases k<;>first|rfl|grind
  rw[u]at f;obtain⟨b,q,z⟩:=sJ o m s f;refine⟨b,?_,?_⟩
  ·unfold yo;simp only[zd,AE n m,zc,q,zf]
  grind
theorem Xy(g:T.Ok P)(hr:R p h w){t:TypeId}{m k:V}{x s:Value}{ok:Bool}(N:Ad p m x)(u:Ad p k s){v:V}(c:Fq T h t m k ok=some v):
  ∃v',(yr t x s ok).run P w=.ok v' w/\Ad p v v':=by
 unfold Fq at c;split at c
 case h_2=>cases c
 rename_i E e G;split at c
 case h_2=>cases c
 rename_i d es f A;cases B:Jm T E d k with
 |false=>grind
 |true=>
  simp only[B,we]at c;obtain⟨l,q,o⟩:∃l:List MapEntry,D2 p es l/\(yr t x s ok).run P w=((yo E s l).run P w).andThen fun r w'=>
    match r with
    |some (_,v)=>.ok (if ok then .tuple #[v,.bool true]else v) w'
    |none=>((zeroValue e).run P w').andThen fun z w'=>.ok (if ok then .tuple #[z,.bool false]else z) w':=by
   rcases Nn hr N A with⟨rfl,rfl⟩|⟨r,l,O,b,n,rfl,rfl,hp,Q,I,M⟩
   ·refine⟨[],.nil,?_⟩;unfold yr;simp only[zd,AE g G,zc,zf,Kh g f u B];congr 1;funext r w'
    cases r<;>simp
   ·refine⟨l.toList,M,?_⟩;unfold yr;simp only[zd,AE g G,zc,zf,Kh g f u B,getObj,zr,I];congr 1;funext r w'
    cases r<;>simp
  rw[o];split at c
  case h_3=>cases c
  case h_1=>
   rename_i j v0 y;cases c;obtain⟨L,D,v',rfl,S,_⟩:=run_findKey (P:=P) (w:=w) g u f q y;simp only[D,zc];cases ok
   ·grind
   simp_all [Ad]
  case h_2=>
   rename_i y;split at c
   case h_2=>cases c
   rename_i i K;cases c;obtain⟨L,D,J⟩:=run_findKey (P:=P) (w:=w) g u f q y;subst J;obtain⟨z,hz,hzr⟩:=AbS g K;simp only[D,zc,hz];cases ok
   ·grind
   simp_all [Ad]
def XR(es:List (V×V×Nat))(i:Nat)(k v:V):List (V×V×Nat):=es.modify i fun e=>(k,v,e.2.2)
theorem D2.modify{es:List (V×V×Nat)}{l:List MapEntry}(j:D2 p es l){k v:V}{c v':Value}(f:Ad p k c)(m:Ad p v v')(i:Nat):
  D2 p (XR es i k v) (l.modify i fun e=>{ e with key:=c,val:=v' }):=by
 unfold XR;induction j generalizing i with
 |nil=>simp;exact .nil
 |@cons a x b es e l g q d n o=>
  cases i with
  |zero=>simp;exact .cons f m d n
  |succ i=>simp;exact .cons g q d<|o i
theorem D2.snoc{es:List (V×V×Nat)}{l:List MapEntry}(f:D2 p es l){k v:V}{e:MapEntry}(b:Ad p k e.key)(g:Ad p v e.val):D2 p (es++[(k,v,e.born)]) (l++[e]):=by
 induction f with
 |nil=>exact .cons b g rfl .nil
 |cons c j d _ i=>exact .cons c j d i
def H7(T:Cg)(h:H)(t:TypeId)(m k v:V):Option H:=
 match T.und t,m with
 |some (.map c _),.map b=>
  match T.und c,h.get b with
  |some d,some (.map es e)=>
   bif Jm T c d k then
    match Lb T c k es with
    |some (some (i,_))=>some<|h.put b<|.map (XR es i k v) e
    |some none=>some<|h.put b<|.map (es++[(k,v,e)])<|e+1
    |none=>none
   else none
  |_,_=>none
 |_,_=>none
theorem XT(u:T.Ok P)(hr:R p h w){t:TypeId}{m k v:V}{G i v':Value}(I:Ad p m G)(g:Ad p k i)(E:Ad p v v'){h':H}(c:H7 T h t m k v=some h'):
  ∃w',(Instr.mapUpdate t G i v').run P w=.ok () w'/\Ext p h w p h' w':=by
 unfold H7 at c;split at c
 case h_2=>cases c
 rename_i L e b O;split at c
 case h_2=>cases c
 rename_i d es s f x;cases B:Jm T L d k with
 |false=>grind
 |true=>
  simp only[B,we]at c;rcases Nn (es:=es) hr I (by simp only[entries,x])with⟨rfl,_⟩|⟨r,l,N,b',n,K,rfl,hp,o,z,y⟩
  ·simp[Ad]at I
  ·cases K;rw[x]at o;cases o;unfold Instr.mapUpdate;simp only[zd,AE u O,zc,Kh u f g B,getObj,zr,z];split at c
   case h_3=>cases c
   case h_1=>
    rename_i j v0 A;cases c;obtain⟨M,D,v1,rfl,W,U,Q,S⟩:=run_findKey (P:=P) (w:=w) u g f y A;simp only[D,zc];have q:(l[j]?.map (·.key)).getD i=i:=by
     grind
    rw[q];unfold Instr.keyThatStays;simp only[YE g B,wk,zd,zf,zc,setObj,zr,z];refine⟨_,rfl,yw hr x hp (o':=.map (XR es j k v) s) ⟨_,rfl,?_⟩ rfl rfl rfl rfl⟩;have:=y.modify g E j;grind
   case h_2=>
    rename_i A;cases c;obtain⟨M,D,J⟩:=run_findKey (P:=P) (w:=w) u g f y A;subst J;simp only[D,zc,setObj,zr,z];refine⟨_,rfl,yw hr x hp (o':=.map (es++[(k,v,s)])<|s+1) ⟨_,rfl,?_⟩ rfl rfl rfl rfl⟩;have:=y.snoc (e:={ key:=i,val:=v',born:=s }) g E;grind
def H9(T:Cg)(h:H)(t:TypeId)(x:V):Option (V×H):=
 match T.und t,x with
 |some (.map _ _),.nilm=>some (.ptr h.nx 0,h.push<|.miter none 0 [] 0)
 |some (.map _ _),.map b=>match h.get b with
  |some (.map _ c)=>some (.ptr h.nx 0,h.push<|.miter (some b) c [] c)
  |_=>none
 |_,_=>Ti T h t x
theorem XU(i:T.Ok P)(hr:R p h w){t:TypeId}{x:V}{x':Value}(g:Ad p x x'){v:V}{h':H}(c:H9 T h t x=some (v,h')):
  ∃v' p' w',(yh t x').run P w=.ok v' w'/\Ad p' v v'/\Ext p h w p' h' w':=by
 unfold H9 at c;split at c
 case h_1=>
  rename_i f;cases c;subst g;have e:=Ext.push (n:=0) hr (o:=.miter none 0 [] 0) (x:=.mapIter none 0 #[] 0) rfl;refine⟨.pointer<|some ⟨w.heap.size,0,none⟩,_,_,?_,?_,e⟩
  ·unfold yh;simp only[zd,AE i f,zc,zf,run_newObj]
  ·exact⟨w.heap.size,0,by rw[<-hr.len];simp,rfl⟩
 case h_2=>
  rename_i b f;split at c
  case h_2=>cases c
  rename_i es d j;cases c;obtain⟨r,n,hp,rfl⟩:=g;obtain⟨r',n',o,h1,h2,l,h3,h4⟩:=hr.obj _ _ j;rw[hp]at h1;cases h1;subst h3;have e:=Ext.push (n:=0) hr (o:=.miter (some b) d [] d) (x:=.mapIter (some r) d #[] d) ⟨r,n,hp,rfl⟩;refine⟨.pointer<|some ⟨w.heap.size,0,none⟩,_,_,?_,?_,e⟩
  ·unfold yh;simp only[zd,AE i f,zc,zf,getObj,zr,h2,run_newObj]
  ·exact⟨w.heap.size,0,by rw[<-hr.len];simp,rfl⟩
 grind [fR]
def UY(h:H)(f:V)(c:Bool):Option (List<|V×H):=
 match f,c with
 | .ptr b 0,false=>
  match h.get b with
  |some (.miter none _ _ _)=>some [(.tup [.bool false],h)]
  |some (.miter (some m) since seen last)=>
   match h.get m with
   |some (.map es d)=>
    bif es.all (fun e=>zl e.2.2 since)&&z6 since last then
     match es.filter (fun e=> !seen.contains e.2.2)with
     |[]=>some [(.tup [.bool false],h)]
     |left=>some (left.map fun e=>(.tup [.bool true,e.1,e.2.1],h.put b<|.miter (some m) since (seen++[e.2.2]) d))
    else none
   |_=>none
  |_=>none
 |_,_=>none
theorem D2.get{es:List (V×V×Nat)}{l:List MapEntry}(c:D2 p es l):∀ {i:Nat} {e:MapEntry},l[i]?=some e->∃k v,es[i]?=some (k,v,e.born)/\Ad p k e.key/\Ad p v e.val:=by
 induction c with
 |nil=>simp
 |@cons k v b es g l d m f _ j=>
  grind
theorem D2.filter{es:List (V×V×Nat)}{l:List MapEntry}(g:D2 p es l)(q:Nat->Bool):D2 p (es.filter fun e=>q e.2.2) (l.filter fun e=>q e.born):=by
 induction g with
 |nil=>exact .nil
 |@cons k v b es j l f i c _ d=>
  simp only[List.filter_cons,c];cases q b with
  |false=>exact d
  |true=>exact .cons f i c d
theorem D2.all{es:List (V×V×Nat)}{l:List MapEntry}(c:D2 p es l)(q:Nat->Bool):(es.all fun e=>q e.2.2)=l.all fun e=>q e.born:=by
 induction c with
 |nil=>rfl
 |@cons k v b es g l d j f _ i=>grind
theorem D2.find{es:List (V×V×Nat)}{l:List MapEntry}(d:D2 p es l)(q:Nat->Bool){e:V×V×Nat}(j:es.find? (fun e=>q e.2.2)=some e):∃c,l.find? (fun e=>q e.born)=some c/\Ad p e.1 c.key/\Ad p e.2.1 c.val:=by
 induction d with
 |nil=>grind
 |@cons k v b es i l f n g _ m=>
  grind
theorem rE(n:Nat)(b:0<n):∃i d,(choose<|.mapNext n).run P w=.ok i { w with drawn:=d }/\i<n:=by
 rw[run_choose];by_cases c:n<=1
 ·refine⟨0,w.drawn,?_,b⟩;simp[yt,c]
 ·refine⟨w.tape w.drawn (.mapNext n) % n,w.drawn+1,?_,Nat.mod_lt _ b⟩;grind [yt,Question.cut]
theorem fJ(hr:R p h w){O:V}{y:Value}{g:Bool}{t:TypeId}(J:Ad p O y){l:List (V×H)}(f:UY h O g=some l):
  ∃v h' v' p' w',(v,h')∈l/\(yq y g t).run P w=.ok v' w'/\Ad p' v v'/\Ext p h w p' h' w':=by
 unfold UY at f;split at f
 case h_2=>cases f
 rename_i b;simp only[Ad]at J;obtain⟨r,n,hp,rfl⟩:=J;split at f
 case h_3=>cases f
 case h_1=>
  rename_i since seen last A;cases f;obtain⟨X,n',x,j,D,B⟩:=hr.obj _ _ A;rw[hp]at j;cases j;simp only[Mp]at B;subst B;refine⟨_,_,.tuple #[.bool false],p,w,zk.2 rfl,?_,by simp[Ad],zm hr⟩;unfold yq;simp only[zd,getObj,zr,D,zc];rfl
 case h_2=>
  rename_i m since seen last A;split at f
  case h_2=>cases f
  rename_i es E hm;cases G:(es.all (fun e=>zl e.2.2 since)&&z6 since last)with
  |false=>grind
  |true=>
   simp only[G,we]at f;simp only[zu,yy]at G;obtain⟨M,c2⟩:=G;obtain⟨X,n',x,j,D,B⟩:=hr.obj _ _ A;rw[hp]at j;cases j;obtain⟨rm,nm,hpm,rfl⟩:=B;obtain⟨r2,n2,x2,k1,k2,l2,k3,k4⟩:=hr.obj _ _ hm;rw[hpm]at k1;cases k1;subst k3;rw[k4.all fun b=>zl b since]at M;have K:∀e∈l2.toList,e.born<since:=by
    intro e Z;have:=List.all_eq_true.1 M e Z;simp_all
   have U:(!seen.toArray.isEmpty&& !l2.isEmpty&&l2.all (·.born>=last))=false:=by
    cases hl:l2.toList with
    |nil=>
     simp_all
    |cons e0 Q=>
     grind
   have z:(l2.filter fun e=> !seen.toArray.contains e.born).toList=l2.toList.filter fun e=> !seen.contains e.born:=by
    simp
   have c:=k4.filter fun b=> !seen.contains b
   have S:((l2.filter fun e=> !seen.toArray.contains e.born).filter (·.born<since))=l2.filter fun e=> !seen.toArray.contains e.born:=by
    grind [zo,Array.toList_filter,List.filter_eq_self]
   have Y:((l2.filter fun e=> !seen.toArray.contains e.born).filter (·.born>=since))= #[]:=by
    apply zo.1;grind [List.filter_eq_nil_iff]
   unfold yq;simp only[zd,getObj,zr,D,zc,k2];rw[wc ah];simp only[S,Y,Array.append_empty];generalize hL:(l2.filter fun e=> !seen.toArray.contains e.born)=L at*;rw[<-z]at c;have I:=c.length;split at f
   case h_1=>
    cases f;have hL0:L= #[]:=by
     grind
    refine⟨_,_,.tuple #[.bool false],p,w,zk.2 rfl,?_,by simp[Ad],zm hr⟩;simp_all [yt]
   case h_2=>
    have q:0<L.size:=by
     grind
    have s:L.isEmpty=false:=ah
    simp only[s,yd,vf,Array.empty_append,Array.size_map];obtain⟨i,d,g1,N⟩:=rE (P:=P) (w:=w) L.size q;simp only[zd,g1,zc];have W:L[i]?=some L[i]:=by simp[N]
    obtain⟨k,v,q1,q2,q3⟩:=c.get (i:=i) (e:=L[i]) (by simp[N]);simp only[Array.getElem?_map,W,yu,zd];have o:=Ext.drew hr d;have u:=yw o.rel A hp (o':=.miter (some m) since (seen++[L[i].born]) E) (x':=.mapIter (some rm) since (seen.toArray.push L[i].born) E) ⟨rm,nm,hpm,by simp⟩
     (w':={ { w with drawn:=d }with heap:=w.heap.setIfInBounds r (.mapIter (some rm) since (seen.toArray.push L[i].born) E) }) rfl rfl rfl rfl
    refine⟨.tup [.bool true,k,v],_,.tuple #[.bool true,L[i].key,L[i].val],p,_,ah,?_,?_,o.trans u⟩
    ·simp[setObj,zr,D]
    simp_all [Ad]
def U5(h:H)(c:V):Option V:=
 match c with
 | .ptr b 0=>
  match h.get b with
  |some (.miter (some m) _ seen last)=>
   match h.get m with
   |some (.map es d)=>
    bif zt d last then
     match seen.getLast? with
     |some s=>match es.find? (fun e=>zt e.2.2 s)with
      |some e=>some<|.tup [e.1,e.2.1]
      |none=>none
     |none=>none
    else none
   |_=>none
  |_=>none
 |_=>none
theorem eV(hr:R p h w){i:V}{d:Value}(k:Ad p i d){v:V}(c:U5 h i=some v):∃v',(Instr.entry d).run P w=.ok v' w/\Ad p v v':=by
 unfold U5 at c;split at c
 case h_2=>cases c
 simp only[Ad]at k;split at c
 case h_2=>cases c
 rename_i m since seen last q;split at c
 case h_2=>cases c
 rename_i es l n;rw[BA]at c;by_cases f:l=last
 ·simp only[f,decide_true,we]at c;split at c
  case h_2=>cases c
  rename_i s t;split at c
  case h_2=>cases c
  rename_i e o;cases c;obtain⟨y,n',x,r,u,j⟩:=hr.obj _ _ q;simp only[Mp]at j;obtain⟨r2,n2,x2,k1,k2,l2,k3,k4⟩:=hr.obj _ _ n;obtain⟨e',q1,q2,q3⟩:=k4.find (fun b=>zt b s) o;refine⟨.tuple #[e'.key,e'.val],?_,by simp_all [Ad]⟩;unfold Instr.entry;have g:l2.find? (fun e=>e.born==s)=some e':=by
   rw[<-Array.find?_toList, <-q1];congr 1;funext e
   rw[BA];rfl
  simp_all [getObj,zr]
 grind
theorem D2.erase{es:List (V×V×Nat)}{l:List MapEntry}(e:D2 p es l)(i:Nat):D2 p (es.eraseIdx i) (l.eraseIdx i):=by
 induction e generalizing i with
 |nil=>simp;exact .nil
 |@cons k v b es m l c g d j f=>
  cases i with
  |zero=>grind
  |succ i=>simp;exact .cons c g d<|f i
def Mq(T:Cg)(h:H)(ts:Array TypeId)(args:List V):Option (V×H):=
 match ts[0]?,args with
 |some f,[.map b,k]=>
  match T.und f with
  |some (.map c _)=>
   match T.und c,h.get b with
   |some d,some (.map es e)=>
    bif Jm T c d k then
     match Lb T c k es with
     |some (some (i,_))=>some (.tup [],h.put b<|.map (es.eraseIdx i) e)
     |some none=>some (.tup [],h.put b<|.map es e)
     |none=>none
    else none
   |_,_=>none
  |_=>none
 |_,_=>none
theorem YP(o:T.Ok P)(hr:R p h w){ts:Array TypeId}{t:TypeId}{args:List V}{args':Array Value}(O:Ax p args args'.toList){v:V}{h':H}(c:Mq T h ts args=some (v,h')):
  ∃v' p' w',(Builtin.delete_ ts t args').run P w=.ok v' w'/\Ad p' v v'/\Ext p h w p' h' w':=by
 unfold Mq at c;split at c
 case h_2=>cases c
 rename_i Y b k M;obtain⟨E,B,f,z,q⟩:=O.two;have x:args'[0]?=some E:=by rw[<-zq,f];rfl
 have y:args'[1]?=some B:=by rw[<-zq,f];rfl
 split at c
 case h_2=>cases c
 rename_i J e N;split at c
 case h_2=>cases c
 rename_i d es i g u;cases A:Jm T J d k with
 |false=>grind
 |true=>
  simp only[A,we]at c;rcases Nn (es:=es) hr z (by simp only[entries,u])with⟨rfl,_⟩|⟨r,l,L,b',n,G,rfl,hp,I,D,m⟩
  ·simp[Ad]at z
  ·cases G;unfold Builtin.delete_;simp only[M,x,y,zd,AE o N,zc,getObj,zr,D,Kh o g q A];split at c
   case h_3=>cases c
   case h_1=>
    rename_i j v0 s;cases c;obtain⟨K,Q,v1,rfl,Z,X,S,W⟩:=run_findKey (P:=P) (w:=w) o q g m s;refine⟨.tuple #[],p,{ w with heap:=w.heap.setIfInBounds r (.map (l.eraseIdxIfInBounds j) i) },?_,by simp[Ad],yw hr u hp (o':=.map (es.eraseIdx j) i) ⟨_,rfl,?_⟩ rfl rfl rfl rfl⟩
    ·simp_all [setObj,zr]
    ·have:=m.erase j;simp_all
   case h_2=>
    rename_i s;cases c;obtain⟨K,Q,U⟩:=run_findKey (P:=P) (w:=w) o q g m s;refine⟨.tuple #[],p,{ w with heap:=w.heap.setIfInBounds r (.map l i) },?_,by simp[Ad],yw hr u hp (o':=.map es i) ⟨_,rfl,m⟩ rfl rfl rfl rfl⟩;simp_all [setObj,zr]
def Gy(T:Cg)(h:H)(ts:Array TypeId)(args:List V):Option (V×H):=
 match ts[0]?,args with
 |some t,[x]=>
  match T.und t,x with
  |some (.map _ _),.nilm=>some (.tup [],h)
  |some (.map _ _),.map b=>match h.get b with
   |some (.map _ c)=>some (.tup [],h.put b<|.map [] c)
   |_=>none
  |some (.slice _),.nils=>some (.tup [],h)
  |some (.slice _),.esl=>some (.tup [],h)
  |some (.slice _),.es0=>some (.tup [],h)
  |some (.slice e),.sl b off len _ _=>
   bif zt len 0 then some (.tup [],h)
   else match T.inf e with
    |some i=>bif zl 0 i.zero.length then
      (wr h b off<|F6 i.zero<|len*i.zero.length).map fun h'=>(.tup [],h')
     else none
    |none=>none
  |_,_=>none
 |_,_=>none
theorem fQ(g:T.Ok P)(hr:R p h w){ts:Array TypeId}{t:TypeId}{args:List V}{args':Array Value}(J:Ax p args args'.toList){v:V}{h':H}(d:Gy T h ts args=some (v,h')):
  ∃v' p' w',(Builtin.clear_ ts t args').run P w=.ok v' w'/\Ad p' v v'/\Ext p h w p' h' w':=by
 unfold Gy at d;split at d
 case h_2=>cases d
 rename_i t0 x I;obtain⟨x',j,k⟩:=J.one;have u:args'[0]?=some x':=by rw[<-zq,j];rfl
 unfold Builtin.clear_;simp only[I,u];split at d
 case h_7=>cases d
 case h_1=>
  rename_i f;cases d;subst k;exact⟨.tuple #[],p,w,by simp[AE g f],by simp[Ad],zm hr⟩
 case h_2=>
  rename_i b f;split at d
  case h_2=>cases d
  rename_i es y A;cases d;obtain⟨r,n,hp,rfl⟩:=k;obtain⟨r',n',o,s,h2,l,h3,h4⟩:=hr.obj _ _ A;rw[hp]at s;cases s;subst h3;refine⟨.tuple #[],p,{ w with heap:=w.heap.setIfInBounds r (.map #[] y) },?_,by simp[Ad],yw hr A hp (o':=.map [] y) ⟨_,rfl,.nil⟩ rfl rfl rfl rfl⟩;simp[zd,AE g f,getObj,setObj,zr,h2]
 case h_3=>
  rename_i e f;cases d;subst k;exact⟨.tuple #[],p,w,by simp[AE g f],by simp[Ad],zm hr⟩
 case h_4=>
  rename_i e f;cases d;obtain⟨_,_,rfl⟩:=k;exact⟨.tuple #[],p,w,by simp[AE g f],by simp[Ad],zm hr⟩
 case h_5=>
  rename_i e f;cases d;obtain⟨_,rfl⟩:=k;exact⟨.tuple #[],p,w,by simp[AE g f],by simp[Ad],zm hr⟩
 case h_6=>
  rename_i e b off len cap o f;obtain⟨r,n,c,hp,rfl,_⟩:=k;rw[BA]at d;by_cases h0:len=0
  ·simp only[h0,decide_true,we,ze,ym]at d;obtain⟨rfl,rfl⟩:=d;subst h0;exact⟨.tuple #[],p,w,by simp[AE g f],by simp[Ad],zm hr⟩
  ·simp only[h0,decide_false,wg]at d;split at d
   case h_2=>cases d
   rename_i i D;cases E:zl 0 i.zero.length with
   |false=>grind
   |true=>
    simp only[E,we,zh]at d;obtain⟨s,B,G⟩:=d;cases G;obtain⟨z,hzz,hzr⟩:=EP g D;have K:=(hzr p).length;have q:=J5 (hzr p) (by simp_all)<|len*i.zero.length;obtain⟨r',m,w',g1,g2,g3⟩:=TO (P:=P) hr q B;rw[hp]at g1;cases g1;refine⟨.tuple #[],p,w',?_,by simp[Ad],g3⟩;have:Builtin.zeroCells z.cells len=(Array.range<|len*i.zero.length).map (fun i=>z.cells[i % z.cells.size]!):=by
     grind [Builtin.zeroCells]
    simp only[zd,AE g f,zc,hzz,this,g2,zf]
def AdC(T:Cg)(ts:Array TypeId)(args:List V):Option V:=
 match ts[0]?,args with
 |some t,[x]=>
  match T.und t,x with
  |some (.slice _),.sl _ _ _ cap 0=>some<|i64 cap
  |some (.slice _),.nils=>some<|i64 0
  |_,_=>none
 |_,_=>none
theorem xV(k:T.Ok P){ts:Array TypeId}{t:TypeId}{args:List V}{args':Array Value}(o:Ax p args args'.toList){v:V}(f:AdC T ts args=some v):
  ∃v',(Builtin.cap_ ts t args').run P w=.ok v' w/\Ad p v v':=by
 unfold AdC at f;split at f
 case h_2=>cases f
 rename_i t0 x m;obtain⟨x',d,i⟩:=o.one;have g:args'[0]?=some x':=by rw[<-zq,d];rfl
 unfold Builtin.cap_;simp only[m,g];split at f
 case h_3=>cases f
 case h_1=>
  rename_i e b off len cap j;cases f;simp only[Ad]at i;obtain⟨r,n,c,hp,rfl,q,u,l,s⟩:=i;have:=l trivial;subst this;exact⟨_,by simp[zd,AE k j];rfl,by rfl⟩
 case h_2=>
  rename_i e j;cases f;subst i;exact⟨_,by simp[zd,AE k j];rfl,by rfl⟩
def UN(T:Cg)(h:H)(src dst:TypeId)(x:V):Option (V×H):=
 match T.und src,T.und dst,x with
 |some .string,some<|.slice e,.str s=>
  match T.und e with
  |some (.int .u8)=>some (.sl h.nx 0 s.length s.length 1,h.push<|.cells (s.map fun b=>.int .u8<|.ofNat b.toNat) e (0,0))
  |_=>none
 |_,_,_=>none
theorem fK(r:T.Ok P)(hr:R p h w){src dst:TypeId}{x:V}{x':Value}(t:Ad p x x'){v:V}{h':H}(f:UN T h src dst x=some (v,h')):
  ∃v' p' w',(convert src dst x').run P w=.ok v' w'/\Ad p' v v'/\Ext p h w p' h' w':=by
 unfold UN at f;split at f
 case h_2=>cases f
 rename_i e s y E;split at f
 case h_2=>cases f
 rename_i z;cases f;simp only[Ad]at t;subst t;have g:=run_bytes_of_string (P:=P) w src dst e (bytesOf s) (r.und _ _ y) (r.und _ _ E)<|r.und _ _ z;generalize D:grownCap w (bytesOf s).size 0 e=c at g;have l:s.length<=c:=by
  rw[<-D,BV];unfold grownCap;simp[Question.cut]
 have j:(bytesRow (bytesOf s) c).size=c:=by
  have:(bytesRow (bytesOf s) c).size=(bytesOf s).size+(c-(bytesOf s).size):=by
   unfold bytesRow;rw[Array.size_append,Array.size_map,Array.size_replicate];rfl
  rw[this,BV];omega
 have m:=Ext.drew hr<|w.drawn+1;have A:=Ext.push (n:=c) m.rel (o:=.cells (s.map fun b=>.int .u8<|.ofNat b.toNat) e (0,0)) (x:=.cells (bytesRow (bytesOf s) c) e ((bytesRow (bytesOf s) c).size,(bytesRow (bytesOf s) c).size+1)) (by
  refine⟨_,_,rfl,j,by simpa using l,?_,fun i q B G=>by simp only[j]at B;omega⟩;refine Ax.toC<|Ax.mk ?_ ?_
  ·have:=j;simp at this ⊢;omega
  ·intro i d v f k;simp only[List.length_map]at k;simp only[yj,zh]at f;obtain⟨b,u,rfl⟩:=f;have q:=(yg.1 u).1;rw[zz q]at k;simp only[bytesRow,Array.toList_append,Array.toList_map,bytesOf]at k;rw[zy<|by simpa using q]at k;simp only[yj,u,yu,ze]at k;subst k;simp[Ad])
 refine⟨_,_,_,g,?_,m.trans A⟩;simp only[Ad];refine⟨w.heap.size,c,c,by rw[<-hr.len];simp,by rw[BV],yi _,l,fun h=>(by cases h),fun _=>ae⟩
def Bb(T:Cg)(h:H)(s d:TypeId)(x:V):Option V:=
 match T.und s,T.und d,x with
 |some (.pointer _),some .unsafePointer,.nilp=>some .nilp
 |some .unsafePointer,some<|.pointer _,.nilp=>some .nilp
 |some (.pointer t),some .unsafePointer,.ptr b off=>
  match T.inf t,h.get b with
  |some i,some (.cells cs _ _)=>bif zl 0 i.size&&zl off cs.length then some (.ptr b off)else none
  |_,_=>none
 |some .unsafePointer,some<|.pointer u,.ptr b off=>
  match T.inf u,h.get b with
  |some i,some (.cells cs e _)=>bif zl 0 i.size&&z6 i.size cs.length&&zt e u&&zt off 0 then some (.ptr b 0)else none
  |_,_=>none
 |_,_,_=>none
theorem Vq(hr:R p h w){b:Nat}{cs:List V}{t:TypeId}{fz:Nat×Nat}(f:h.get b=some (.cells cs t fz)):
  ∃r n,p[b]?=some (r,n)/\w.shape? r=some (t,n)/\cs.length<=n:=by
 obtain⟨r,n,x,d,i,c,fz',rfl,e,g,_⟩:=hr.obj b _ f;exact⟨r,n,d,by simp[World.shape?,i,e],g⟩
theorem gB{u:TypeId}(d:P.cellsOf u≠0)(k:Nat)(c:1<=k):liesAt P P.depth u k 0 u 1=true:=by
 have b:P.depth=(2*(P.types.size+Made.depth)+1)+1:=rfl;rw[b];simp only[liesAt,Bool.or_eq_true];left;rw[b];simp[rowAt,d,c,sameLayout]
theorem zV(f:T.Ok P)(hr:R p h w){s d:TypeId}{x:V}{x':Value}(g:Ad p x x'){v:V}(c:Bb T h s d x=some v):
  ∃v',(convert s d x').run P w=.ok v' w/\Ad p v v':=by
 unfold Bb at c;split at c
 case h_5=>cases c
 case h_1=>
  rename_i l m;simp only[Ad]at g;subst g;cases c;refine⟨.pointer none,?_,by simp[Ad]⟩;simp[convert,AE f l,AE f m,Conv.unsafePointer]
 case h_2=>
  rename_i l m;simp only[Ad]at g;subst g;cases c;refine⟨.pointer none,?_,by simp[Ad]⟩;simp[convert,AE f l,AE f m,Conv.unsafePointer]
 case h_3=>
  rename_i t b off l m;split at c
  case h_2=>cases c
  rename_i i cs e fz q y;cases k:(zl 0 i.size&&zl off cs.length)with
  |false=>rw[k]at c;cases c
  |true=>
   rw[k]at c;cases c;simp only[zu,ye]at k;obtain⟨j,z,o,B,_⟩:=f.inf t i q;obtain⟨r,n,k1,k2,k3⟩:=Vq hr y;simp only[Ad]at g;obtain⟨r',n',q1,rfl⟩:=g;rw[k1]at q1;cases q1;refine⟨_,Lib.run_to_unsafe w ⟨r,off,none⟩ (f.und _ _ l) (f.und _ _ m) o ae k2 (by show off<n;omega),?_⟩;simp only[Ad];exact⟨r,n,k1,rfl⟩
 case h_4=>
  rename_i u b off l m;split at c
  case h_2=>cases c
  rename_i i cs e fz q y;cases k:(zl 0 i.size&&z6 i.size cs.length&&zt e u&&zt off 0)with
  |false=>rw[k]at c;cases c
  |true=>
   rw[k]at c;cases c;simp only[zu,ye,yy,BA,w5]at k;obtain⟨⟨⟨E,G⟩,rfl⟩,rfl⟩:=k;obtain⟨j,z,o,B,_⟩:=f.inf e i q;obtain⟨r,n,k1,k2,k3⟩:=Vq hr y;simp only[Ad]at g;obtain⟨r',n',q1,rfl⟩:=g;rw[k1]at q1;cases q1;have A:P.cellsOf e=i.size:=by simp[Program.cellsOf,o,B]
   have D:1<=n/P.cellsOf e:=by rw[A];exact Nat.div_pos ae E
   refine⟨_,Lib.run_from_unsafe w ⟨r,0,none⟩ (f.und _ _ l) (f.und _ _ m) o k2 (gB ae _ D),?_⟩;simp only[Ad];exact⟨r,n,k1,rfl⟩
def P9(args:List V):Option V:=
 match args with
 |[.nils]=>some .nilp
 |[.sl b off _ cap _]=>bif zl 0 cap then some (.ptr b off)else none
 |_=>none
theorem gX{ts:Array TypeId}{t:TypeId}{args:List V}{args':Array Value}(i:Ax p args args'.toList){v:V}(d:P9 args=some v):
  ∃v',(Builtin.unsafeSliceData_ ts t args').run P w=.ok v' w/\Ad p v v':=by
 unfold P9 at d;split at d
 case h_3=>cases d
 case h_1=>
  cases d;obtain⟨x,f,e⟩:=i.one;have:args'= #[x]:=zo.1 f;subst this;simp only[Ad]at e;subst e;exact⟨_,Lib.run_unsafeSliceData_nil w ts t 0 0,by simp[Ad]⟩
 case h_2=>
  rename_i b off len cap o;cases g:zl 0 cap with
  |false=>rw[g]at d;cases d
  |true=>
   rw[g]at d;cases d;rw[ye]at g;obtain⟨x,f,e⟩:=i.one;have:args'= #[x]:=zo.1 f;subst this;simp only[Ad]at e;obtain⟨r,n,c,g1,rfl,g2,g3,_⟩:=e;exact⟨_,Lib.run_unsafeSliceData_row w ts t _ len c ae,by simp only[Ad];exact⟨r,n,g1,rfl⟩⟩
def Tl:V->Option UInt8
 | .int .u8 (.ofNat n)=>bif zl n 256 then some (UInt8.ofNat n)else none
 |_=>none
def G8:List V->Option Z
 |[]=>some []
 |v::vs=>
  match Tl v,G8 vs with
  |some b,some c=>some (b::c)
  |_,_=>none
theorem pR{c:V}{b:UInt8}(h:Tl c=some b):c=.int .u8 (b.toNat:Int):=by
 unfold Tl at h;split at h
 case h_2=>cases h
 rename_i n;cases d:zl n 256 with
 |false=>rw[d]at h;cases h
 |true=>
  rw[d]at h;cases h;rw[ye]at d;have:(UInt8.ofNat n).toNat=n:=by simp;omega
  rw[this];rfl
theorem MG:∀ {cs:List V} {l:Z},G8 cs=some l->cs=l.map fun b=>V.int .u8 (b.toNat:Int)
 |[],l,d=>by cases d;rfl
 |c::cs,l,d=>by
  unfold G8 at d;split at d
  case h_2=>cases d
  rename_i b tl f e;cases d;rw[pR f,MG e];rfl
def S6(T:Cg)(h:H)(ts:List TypeId)(args:List V):Option (V×H):=
 match ts,args with
 |[pt,_],[.ptr b 0,.int .i64<|.ofNat n]=>
  match T.und pt,h.get b with
  |some (.pointer e),some (.cells cs c fz)=>
   match T.inf e,G8 (cs.take n)with
   |some i,some l=>bif zt i.size 1&&zt e c&&zl 0 n&&z6 n cs.length&&z6 n 9223372036854775807&&z6 fz.2 fz.1 then some (.str l,h.kill b)else none
   |_,_=>none
  |_,_=>none
 |_,_=>none
theorem Ext.gone{w':World}(hr:R p h w){b r n:Nat}{o:O}{x':Obj}(l:h.get b=some o)(hp:p[b]?=some (r,n))
  (i:w'.heap=w.heap.setIfInBounds r x') (A:w'.os=w.os) (L:w'.output=w.output) (G:w'.tape=w.tape) (B:∀cs t fz,o=.cells cs t fz->¬Lk n fz):Ext p h w p (h.kill b) w':=by
 refine⟨⟨[],by simp⟩,⟨hr.len,fun c k g=>?_,(hr.kill b).inj⟩,by simp[i],fun s I K=>?_,fun s E=>?_,A,L,G,fun s I D=>?_⟩
 ·rw[H.C6]at g;by_cases e:c=b
  ·rw[wd e]at g;cases g
  ·rw[wc e]at g;obtain⟨s,m,y,f,x,J⟩:=hr.obj c k g;refine⟨s,m,y,f,?_,J⟩;have d:r≠s:=fun u=>e<|hr.inj c b k o s m n g l f<|u▸hp
   rw[i,zi d];exact x
 ·have d:r≠s:=fun e=>K<|e▸⟨b,o,n,l,hp⟩
  rw[i,zi d]
 ·obtain⟨c,k,m,f,x⟩:=E;rw[H.C6]at f;split at f
  ·cases f
  ·exact .inl ⟨c,k,m,f,x⟩
 ·obtain⟨c,m,cs,t,fz,q,j,z⟩:=D;by_cases e:c=b
  ·subst e;rw[hp]at j;cases j;rw[l]at q;cases q;exact wh z<|B cs t fz rfl
  ·have d:r≠s:=fun u=>e<|hr.inj c b _ o s m n q l j<|u▸hp
   refine⟨by rw[i,zi d],.inl ⟨c,m,cs,t,fz,by rw[H.C6,wc e];exact q,j,z⟩⟩
theorem Ws{w:World}{r n:Nat}{c:Array Value}{e:TypeId}{fz:Nat×Nat}(b:w.heap[r]?=some (.cells c e fz))(h0:n≠0):
  ∃fz',(w.freeze ⟨r,0,none⟩ n).heap=w.heap.setIfInBounds r (.cells c e fz'):=by
 refine⟨if fz.1==fz.2 then(0,0+n)else(min fz.1 0,max fz.2<|0+n),?_⟩;unfold World.freeze;rw[wc h0];dsimp only
 rw[P7 b]
theorem iL(L:T.Ok P)(hr:R p h w){ts:Array TypeId}{t:TypeId}{args:List V}{args':Array Value}(Y:Ax p args args'.toList){v:V}{h':H}(d:S6 T h ts.toList args=some (v,h')):
  ∃v' w',(Builtin.unsafeString_ ts t args').run P w=.ok v' w'/\Ad p v v'/\Ext p h w p h' w':=by
 unfold S6 at d;split at d
 case h_2=>cases d
 rename_i pt K b n g;have g:ts= #[pt,K]:=zo.1 g;subst g;split at d
 case h_2=>cases d
 rename_i e cs U fz M J;split at d
 case h_2=>cases d
 rename_i i l Q O;cases A:(zt i.size 1&&zt e U&&zl 0 n&&z6 n cs.length&&z6 n 9223372036854775807&&z6 fz.2 fz.1)with
 |false=>rw[A]at d;cases d
 |true=>
  rw[A]at d;cases d;simp only[zu,ye,yy,BA,w5]at A;obtain⟨⟨⟨⟨⟨X,rfl⟩,c3⟩,c4⟩,c5⟩,c6⟩:=A;obtain⟨x,y,hargs,g1,g2⟩:=Y.two;have:args'= #[x,y]:=zo.1 hargs;subst this;simp only[Ad]at g1 g2;obtain⟨r,m,g1,rfl⟩:=g1;subst g2;obtain⟨r',m',ob,k1,k2,c,fz',rfl,k4,k5,k6,k7⟩:=hr.obj b _ J;rw[g1]at k1;cases k1;obtain⟨j,z,j1,j2,_⟩:=L.inf e i Q;have D:P.cellsOf e=1:=by simp[Program.cellsOf,j1,j2,X]
  have u:=MG O;have f:l.length=n:=by
   have:=wi List.length u;rw[List.length_take,List.length_map]at this;omega
  have B:w.shape? r=some (e,m):=by simp[World.shape?,k2,k4]
  have o:∀j x,l[j]?=some x->w.cell? ((⟨r,0,none⟩:Addr).add j)=some (.int .u8 x.toNat):=by
   intro j x I;have hj:=(yg.1 I).1;have W:cs[j]?=some (.int .u8 (x.toNat:Int)):=by
    have:=wi (·[j]?) u;simp only[yj,I,yu]at this;rw[zz ae]at this;exact this
   obtain⟨v,G,s⟩:=k6.get W rfl;simp only[Ad]at s;subst s;rw[zz ae]at G;rw[Addr.NL];simp only[World.cell?,k2];simpa using G
  have q:=Lib.run_unsafeString_row w pt K t e (L.und _ _ M) D r m B l (by intro h;subst h;simp at f;omega) ae ae o;obtain⟨Z,E⟩:=Ws (n:=l.length) k2 ae;refine⟨.string<|bytesOf l,w.freeze ⟨r,0,none⟩ l.length,?_,by simp[Ad],?_⟩
  ·rw[<-f];exact q
  ·have k:(w.freeze ⟨r,0,none⟩ l.length).os=w.os/\(w.freeze ⟨r,0,none⟩ l.length).output=w.output/\(w.freeze ⟨r,0,none⟩ l.length).tape=w.tape:=by
    unfold World.freeze;split<;>exact⟨rfl,rfl,rfl⟩
   exact Ext.gone hr J g1 E k.1 k.2.1 k.2.2 (by
    intro cs' t' fz' S N;cases S;obtain⟨q1,q2,q3⟩:=N;omega)
end
mutual
def cv:Value->Option V
 | .bool b=>some<|.bool b
 | .int k n=>some<|.int k n
 | .string s=>some<|.str s.data.toList
 | .pointer none=>some .nilp
 | .slice none 0 0=>some .nils
 | .map none=>some .nilm
 | .nilFunc=>some .nilf
 | .nilIface=>some .nili
 | .func f ⟨[]⟩ ⟨[]⟩=>some<|.fn f [] []
 | .agg ⟨cs⟩=>(cvs cs).map .agg
 | .tuple ⟨cs⟩=>(cvs cs).map .tup
 |_=>none
def cvs:List Value->Option (List V)
 |[]=>some []
 |v::vs=>match cv v,cvs vs with
  |some x,some xs=>some (x::xs)
  |_,_=>none
end
mutual
theorem Yr(p:Pl):∀ {v:Value} {x:V},cv v=some x->Ad p x v
 | .bool b,x,h=>by grind [cv,Ad]
 | .int k n,x,h=>by grind [cv,Ad]
 | .string s,x,h=>by simp[cv]at h;subst h;rfl
 | .pointer none,x,h=>by grind [cv,Ad]
 | .pointer (some a),x,h=>by simp[cv]at h
 | .slice none 0 0,x,h=>by grind [cv,Ad]
 | .slice none 0 (_+1),x,h=>by simp[cv]at h
 | .slice none (_+1) _,x,h=>by simp[cv]at h
 | .slice (some a) _ _,x,h=>by simp[cv]at h
 | .map none,x,h=>by grind [cv,Ad]
 | .map (some a),x,h=>by simp[cv]at h
 | .nilFunc,x,h=>by grind [cv,Ad]
 | .nilIface,x,h=>by grind [cv,Ad]
 | .func f ⟨[]⟩ ⟨[]⟩,x,h=>by simp[cv]at h;subst h;simp[Ad]
 | .func f ⟨_::_⟩ _,x,h=>by simp[cv]at h
 | .func f ⟨[]⟩ ⟨_::_⟩,x,h=>by simp[cv]at h
 | .agg ⟨cs⟩,x,h=>by
  simp only[cv,zh]at h;obtain⟨xs,c,rfl⟩:=h;exact⟨_,rfl,Vb p c⟩
 | .tuple ⟨cs⟩,x,h=>by
  simp only[cv,zh]at h;obtain⟨xs,c,rfl⟩:=h;exact⟨_,rfl,Vb p c⟩
 | .float _ _,x,h=>by simp[cv]at h
 | .complex _ _ _,x,h=>by simp[cv]at h
 | .chan _,x,h=>by simp[cv]at h
 | .iface _ _,x,h=>by simp[cv]at h
theorem Vb(p:Pl):∀ {vs:List Value} {xs:List V},cvs vs=some xs->Ax p xs vs
 |[],xs,h=>by simp_all [cvs]
 |v::vs,xs,h=>by
  unfold cvs at h;split at h
  case h_2=>cases h
  rename_i x c b d;cases h;exact(Bu ..).2 ⟨Yr p b,Vb p d⟩
end
structure Fn where
 ntmps:Nat
 results:Array ResultVar
 body:Code
 cert:Bool
structure Ctx where
 T:Cg
 ng:Nat
 fn:FuncId->Option Fn
 prim:FuncId->Option (List V->H->Option (V×H))
 spec:FuncId->Option (List V->H->Option (V×H))
 mg:Bool
def Gl(_:Ctx)(p:Pl):Prop:=Gp p
theorem Gl.ext{C:Ctx}{p p':Pl}{h h':H}{w w':World}(b:Gl C p)(e:Ext p h w p' h' w'):Gl C p':=by
 obtain⟨q,rfl⟩:=e.pre;exact Gp.app b q
def ev(_:Ctx)(fr:Fr):Operand->Option V
 | .tmp t=>some<|fr.get t
 | .const v=>cv v
 | .global g=>bif gin g GP then some (.ptr g 0)else none
 | .func f=>some<|.fn (.func f) [] []
theorem A9{C:Ctx}{p:Pl}{fr:Fr}{a:Act}(d:Gl C p)(i:CO p fr a){x:Operand}{v:V}(b:ev C fr x=some v):Ad p v (a.eval x):=by
 cases x with
 |tmp t=>grind [ev,Act.eval,CO]
 |const v=>exact Yr p b
 |global g=>
  simp only[ev]at b;cases c:gin g GP with
  |true=>
   rw[c]at b;simp only[we,ze]at b;subst b;obtain⟨o,e⟩:=aU c;exact⟨g,_,d _ e,rfl⟩
  |false=>grind
 |func f=>simp only[ev,ze]at b;subst b;simp[Ad,Act.eval]
def Sv(C:Ctx)(fr:Fr):List Operand->Option (List V)
 |[]=>some []
 |x::xs=>match ev C fr x,Sv C fr xs with
  |some v,some vs=>some (v::vs)
  |_,_=>none
theorem Kn{C:Ctx}{p:Pl}{fr:Fr}{a:Act}(c:Gl C p)(b:CO p fr a):∀ {xs:List Operand} {vs:List V},Sv C fr xs=some vs->Ax p vs (xs.map a.eval)
 |[],vs,h=>by simp_all [Sv]
 |x::xs,vs,h=>by
  unfold Sv at h;split at h
  case h_2=>cases h
  rename_i v e d f;cases h;exact(Bu ..).2 ⟨A9 c b d,Kn c b f⟩
def Xs(C:Ctx)(fr:Fr):Option Operand->Option (Option V)
 |none=>some none
 |some x=>(ev C fr x).map some
theorem Pj{C:Ctx}{p:Pl}{fr:Fr}{a:Act}(e:Gl C p)(c:CO p fr a){x:Option Operand}{v:Option V}(b:Xs C fr x=some v):HM p v (x.map a.eval):=by
 cases x with
 |none=>simp[Xs]at b;subst b;rfl
 |some x=>
  simp only[Xs,zh]at b;obtain⟨u,d,rfl⟩:=b;exact⟨_,rfl,A9 e c d⟩
def XW(C:Ctx)(fr:Fr):List (Nat×Operand)->Option (List<|Nat×V)
 |[]=>some []
 |(i,x)::xs=>match ev C fr x,XW C fr xs with
  |some v,some vs=>some ((i,v)::vs)
  |_,_=>none
theorem O8{C:Ctx}{p:Pl}{fr:Fr}{a:Act}(b:Gl C p)(c:CO p fr a):∀ {xs:List (Nat×Operand)} {vs:List (Nat×V)},XW C fr xs=some vs->V7 p vs (xs.map fun(i,x)=>(i,a.eval x))
 |[],vs,h=>by simp[XW]at h;subst h;exact .nil
 |(i,x)::xs,vs,h=>by
  unfold XW at h;split at h
  case h_2=>cases h
  rename_i v e d f;cases h;exact .cons (A9 b c d)<|O8 b c f
inductive OR where
 |val (v:V) (h:H)
 |skip (h:H)
 |enter (f:FuncId) (args:List V)
 |round (b:Nat) (l:LS) (fr:Fr)
 |alts (l:List (V×H))
def Fr.fW(f:Fr)(t:Nat)(v:V):Fr:=bif zl t f.n then⟨f.n,f.m.set t<|some v⟩else f
def Hz:List Tmp->List V->Fr->Fr
 |t::ts,v::vs,f=>Hz ts vs<|f.fW t v
 |_,_,f=>f
theorem EZ.fW{p:Pl}{f:Fr}{tmps:Array Value}(c:EZ p f tmps){v:V}{v':Value}(g:Ad p v v')(t:Nat):EZ p (f.fW t v) (tmps.setIfInBounds t v'):=by
 unfold Fr.fW;simp only[HE];by_cases b:t<f.n
 ·simp only[b,decide_true,we];refine⟨by simp[c.1],fun s=>?_⟩;have d:t<tmps.size:=c.1▸b;by_cases e:s=t
  ·simp_all [Fr.get]
  ·have:=c.2 s;simp only[Fr.get,PM.Dz,wc e]at this ⊢;rw[zj,zi ae, <-zj];omega
 ·grind [EZ]
theorem EZ.Hz{p:Pl}:∀ {ts:List Tmp} {vs:List V} {b:List Value},Ax p vs b->∀ {f:Fr} {tmps:Array Value},EZ p f tmps->EZ p (Hz ts vs f) ((ts.zip b).foldl (fun tmps (t,a)=>tmps.setIfInBounds t a) tmps)
 |[],vs,b,_,f,tmps,c=>by simpa [Det.Hz]using c
 |t::ts,[],b,d,f,tmps,c=>by simp_all [Det.Hz]
 |t::ts,v::vs,b,d,f,tmps,c=>by
  obtain⟨u,i,rfl,e,g⟩:=d;exact EZ.Hz g<|c.fW e t
def BU(h:H):Option V->Option OR
 |some v=>some<|.val v h
 |none=>none
def FQ:Option (V×H)->Option OR
 |some (v,h)=>some<|.val v h
 |none=>none
def qY:Option H->Option OR
 |some h=>some<|.skip h
 |none=>none
def EJ(C:Ctx)(h:H)(b:Builtin)(ts:Array TypeId)(args:List V):Option OR:=
 match b with
 | .len=>BU h<|GK C.T h ts args
 | .append=>FQ<|Ha C.T h ts args
 | .copy=>FQ<|qA C.T h ts args
 | .max=>BU h<|Hf rG args
 | .min=>BU h<|Hf rB args
 | .cap=>BU h<|AdC C.T ts args
 | .delete=>FQ<|Mq C.T h ts args
 | .clear=>FQ<|Gy C.T h ts args
 | .unsafeSliceData=>BU h<|P9 args
 | .unsafeString=>FQ<|S6 C.T h ts.toList args
 |_=>none
def IG(C:Ctx)(h:H)(f:V)(args:List V):Option OR:=
 match f with
 | .fn (.func g) first captured=>
  match C.prim g with
  |some q=>FQ<|q (first++args++captured) h
  |none=>match C.fn g with
   |some _=>some<|.enter g<|first++args++captured
   |none=>none
 | .yld b=>match h.get b with
  |some (.loop l)=>bif zt args.length l.ps.size then some (.round b l<|Hz l.ps.toList args l.fr)else none
  |_=>none
 |_=>none
def OF(C:Ctx)(h:H)(x:V)(name:String)(args:List V):Option OR:=
 match x with
 | .iface t v=>match C.T.mth t name with
  |some g=>IG C h (.fn (.func g) [] []) (v::args)
  |none=>none
 |_=>none
def Z7:Operand->Bool
 | .const _=>true
 |_=>false
def wW(T:Cg)(op:BinOp)(t:TypeId)(x y:Operand)(v u:V):Option V:=
 match op,v,u,T.und t with
 | .eql,.nili,.nili,some (.interface _)=>bif Z7 x||Z7 y then some (.bool true)else none
 | .neq,.nili,.nili,some (.interface _)=>bif Z7 x||Z7 y then some (.bool false)else none
 |_,_,_,_=>none
def KJ(T:Cg)(op:BinOp)(t:TypeId)(x y:Operand)(v u:V):Option V:=
 match wW T op t x y v u with
 |some r=>some r
 |none=>Ll T op t v u
def Hi(C:Ctx)(fr:Fr)(h:H)(o:Oper):Option OR:=
 let ρ:=ev C fr
 match o.op with
 | .move x| .assign x=>BU h<|ρ x
 | .pick c a b=>match ρ c with
  |some (.bool t)=>BU h<|if t then ρ a else ρ b
  |_=>none
 | .alloc t=>FQ<|Ho C.T h t
 | .box t x=>FQ<|(ρ x).map fun v=>fB h t v
 | .build t e=>match XW C fr e.toList with
  |some ps=>BU h<|Lf C.T t ps
  |none=>none
 | .buildSlice t n e=>match XW C fr e.toList with
  |some ps=>FQ<|Fj C.T h t n ps
  |none=>none
 | .load t x=>match ρ x with
  |some v=>BU h<|FC C.T h t v
  |none=>none
 | .store t x y=>match ρ x,ρ y with
  |some v,some u=>qY<|H4 C.T h t v u
  |_,_=>none
 | .nilCheck x=>match ρ x with
  |some (.ptr b i)=>BU h<|some<|.ptr b i
  |some (.iface t v)=>BU h<|some<|.iface t v
  |_=>none
 | .binOp op t x y _=>match ρ x,ρ y with
  |some v,some u=>BU h<|KJ C.T op t x y v u
  |_,_=>none
 | .unOp op _ x=>match ρ x with
  |some v=>BU h<|dun op v
  |none=>none
 | .convert s d x=>match ρ x with
  |some v=>BU h<|Gz C.T h s d v
  |none=>none
 | .makeInterface t x=>match ρ x,C.T.und t with
  |some v,some d=>match d with
   | .interface _=>none
   |_=>BU h<|some<|.iface t v
  |_,_=>none
 | .makeFunc f first captured=>match Sv C fr first.toList,Sv C fr captured.toList with
  |some a,some b=>BU h<|some<|.fn f a b
  |_,_=>none
 | .makeMap _ r=>match Xs C fr r with
  |some v=>FQ<|Js h v
  |none=>none
 | .makeSlice t l c=>match ρ l,ρ c with
  |some v,some u=>FQ<|Qx C.T h t v u
  |_,_=>none
 | .slice t x lo q mx=>match ρ x,Xs C fr lo,Xs C fr q,Xs C fr mx with
  |some v,some l,some r,some m=>BU h<|En C.T t v l r m
  |_,_,_,_=>none
 | .fieldAddr t x f=>match ρ x with
  |some v=>BU h<|K9 C.T t v f
  |none=>none
 | .field t x f=>match ρ x with
  |some v=>BU h<|Ld C.T t v f
  |none=>none
 | .indexAddr t x i=>match ρ x,ρ i with
  |some v,some u=>BU h<|FY C.T t v u
  |_,_=>none
 | .index t x i=>match ρ x,ρ i with
  |some v,some u=>BU h<|Jq C.T t v u
  |_,_=>none
 | .lookup t x i ok=>match ρ x,ρ i with
  |some v,some u=>BU h<|Fq C.T h t v u ok
  |_,_=>none
 | .mapUpdate t m k x| .insert t m k x=>match ρ m,ρ k,ρ x with
  |some a,some b,some c=>qY<|H7 C.T h t a b c
  |_,_,_=>none
 | .range t x=>match ρ x with
  |some v=>FQ<|H9 C.T h t v
  |none=>none
 | .next x j=>match ρ x with
  |some v=>bif j then FQ (Oi h v j)else(UY h v j).map .alts
  |none=>none
 | .entry x=>match ρ x with
  |some v=>BU h<|U5 h v
  |none=>none
 | .extract x i=>match ρ x with
  |some v=>BU h<|HS v i
  |none=>none
 | .call c=>match c.callee,Sv C fr c.args.toList with
  | .builtin b,some args=>EJ C h b c.argTypes args
  | .value f,some args=>match ρ f with
   |some g=>IG C h g args
   |none=>none
  | .invoke x z,some args=>match ρ x with
   |some v=>OF C h v z args
   |none=>none
  |_,_=>none
 |_=>none
abbrev GU:=Ctx->Fr->H->Option OR
def Ade(a0:Operand):GU:=fun C fr h=>BU h<|ev C fr a0
def sK(a0:Operand):GU:=fun C fr h=>BU h<|ev C fr a0
def AcN(a0:Operand)(a1:Operand)(a2:Operand):GU:=fun C fr h=>match ev C fr a0 with|some (.bool t)=>BU h (if t then ev C fr a1 else ev C fr a2)|_=>none
def yX(a0:TypeId):GU:=fun C _fr h=>FQ<|Ho C.T h a0
def AfG(a0:TypeId)(a1:Operand):GU:=fun C fr h=>FQ<|(ev C fr a1).map fun v=>fB h a0 v
def Aae(a0:TypeId)(a1:Array (Nat×Operand)):GU:=fun C fr h=>match XW C fr a1.toList with|some ps=>BU h (Lf C.T a0 ps)|none=>none
def Uq(a0:TypeId)(a1:Nat)(a2:Array (Nat×Operand)):GU:=fun C fr h=>match XW C fr a2.toList with|some ps=>FQ (Fj C.T h a0 a1 ps)|none=>none
def lG(a0:TypeId)(a1:Operand)(a2:Operand)(a3:Operand):GU:=fun C fr h=>match ev C fr a1,ev C fr a2,ev C fr a3 with|some a,some b,some c=>qY (H7 C.T h a0 a b c)|_,_,_=>none
def Ad4(a0:TypeId)(a1:Operand):GU:=fun C fr h=>match ev C fr a1 with|some v=>BU h (FC C.T h a0 v)|none=>none
def zN(a0:TypeId)(a1:Operand)(a2:Operand):GU:=fun C fr h=>match ev C fr a1,ev C fr a2 with|some v,some u=>qY (H4 C.T h a0 v u)|_,_=>none
def vT(_a0:Nat):GU:=fun _ _ _=>none
def Aag(_a0:Nat):GU:=fun _ _ _=>none
def Xt(a0:Operand):GU:=fun C fr h=>match ev C fr a0 with|some (.ptr b i)=>BU h (some<|.ptr b i)|some (.iface t v)=>BU h (some<|.iface t v)|_=>none
def wN(a0:BinOp)(a1:TypeId)(a2:Operand)(a3:Operand)(_a4:TypeId):GU:=fun C fr h=>match ev C fr a2,ev C fr a3 with|some v,some u=>BU h (KJ C.T a0 a1 a2 a3 v u)|_,_=>none
def AdD(a0:UnOp)(_a1:TypeId)(a2:Operand):GU:=fun C fr h=>match ev C fr a2 with|some v=>BU h (dun a0 v)|none=>none
def gA(a0:TypeId)(a1:TypeId)(a2:Operand):GU:=fun C fr h=>match ev C fr a2 with|some v=>BU h (Gz C.T h a0 a1 v)|none=>none
def IQ(_a0:TypeId)(_a1:Operand):GU:=fun _ _ _=>none
def Ov(a0:TypeId)(a1:Operand):GU:=fun C fr h=>match ev C fr a1,C.T.und a0 with|some v,some d=>(match d with| .interface _=>none|_=>BU h<|some<|.iface a0 v)|_,_=>none
def YG(a0:Go.Fn)(a1:Array Operand)(a2:Array Operand):GU:=fun C fr h=>match Sv C fr a1.toList,Sv C fr a2.toList with|some a,some b=>BU h (some<|.fn a0 a b)|_,_=>none
def fP(_a0:TypeId)(a1:Option Operand):GU:=fun C fr h=>match Xs C fr a1 with|some v=>FQ (Js h v)|none=>none
def X5(_a0:TypeId)(_a1:Operand):GU:=fun _ _ _=>none
def Vx(a0:TypeId)(a1:Operand)(a2:Operand):GU:=fun C fr h=>match ev C fr a1,ev C fr a2 with|some v,some u=>FQ (Qx C.T h a0 v u)|_,_=>none
def uH(a0:TypeId)(a1:Operand)(a2:Option Operand)(a3:Option Operand)(a4:Option Operand):GU:=fun C fr h=>match ev C fr a1,Xs C fr a2,Xs C fr a3,Xs C fr a4 with|some v,some l,some r,some m=>BU h (En C.T a0 v l r m)|_,_,_,_=>none
def WX(a0:TypeId)(a1:Operand)(a2:Nat):GU:=fun C fr h=>match ev C fr a1 with|some v=>BU h (K9 C.T a0 v a2)|none=>none
def AaR(a0:TypeId)(a1:Operand)(a2:Nat):GU:=fun C fr h=>match ev C fr a1 with|some v=>BU h (Ld C.T a0 v a2)|none=>none
def Wa(a0:TypeId)(a1:Operand)(a2:Operand):GU:=fun C fr h=>match ev C fr a1,ev C fr a2 with|some v,some u=>BU h (FY C.T a0 v u)|_,_=>none
def zP(a0:TypeId)(a1:Operand)(a2:Operand):GU:=fun C fr h=>match ev C fr a1,ev C fr a2 with|some v,some u=>BU h (Jq C.T a0 v u)|_,_=>none
def tW(a0:TypeId)(a1:Operand)(a2:Operand)(a3:Bool):GU:=fun C fr h=>match ev C fr a1,ev C fr a2 with|some v,some u=>BU h (Fq C.T h a0 v u a3)|_,_=>none
def Xd(a0:TypeId)(a1:Operand)(a2:Operand)(a3:Operand):GU:=fun C fr h=>match ev C fr a1,ev C fr a2,ev C fr a3 with|some a,some b,some c=>qY (H7 C.T h a0 a b c)|_,_,_=>none
def Zj(_a0:TypeId)(_a1:Operand)(_a2:Operand):GU:=fun _ _ _=>none
def US(_a0:TypeId)(_a1:Operand)(_a2:Operand)(_a3:Operand):GU:=fun _ _ _=>none
def wH(a0:TypeId)(a1:Operand):GU:=fun C fr h=>match ev C fr a1 with|some v=>FQ (H9 C.T h a0 v)|none=>none
def Acd(a0:Operand)(a1:Bool):GU:=fun C fr h=>match ev C fr a0 with|some v=>bif a1 then FQ (Oi h v a1)else(UY h v a1).map .alts|none=>none
def yF(a0:Operand):GU:=fun C fr h=>match ev C fr a0 with|some v=>BU h (U5 h v)|none=>none
def Ua(_a0:Operand)(_a1:TypeId)(_a2:TypeId)(_a3:Bool):GU:=fun _ _ _=>none
def dF(a0:Operand)(a1:Nat):GU:=fun C fr h=>match ev C fr a0 with|some v=>BU h (HS v a1)|none=>none
def Adg(a0:Call):GU:=fun C fr h=>match a0.callee,Sv C fr a0.args.toList with| .builtin b,some args=>EJ C h b a0.argTypes args| .value f,some args=>(match ev C fr f with|some g=>IG C h g args|none=>none)| .invoke x c,some args=>(match ev C fr x with|some v=>OF C h v c args|none=>none)|_,_=>none
def AgI(_a0:Call):GU:=fun _ _ _=>none
def uI(_a0:Call):GU:=fun _ _ _=>none
def wR(_a0:Operand):GU:=fun _ _ _=>none
def AdK(_a0:Operand)(_a1:Operand):GU:=fun _ _ _=>none
def Ac6(_a0:TypeId)(_a1:Operand)(_a2:Bool):GU:=fun _ _ _=>none
def lS(_a0:Array SelectCase)(_a1:Bool):GU:=fun _ _ _=>none
def opF(o:Op):GU:=@Op.casesOn (fun _=>GU) o Ade sK AcN yX AfG Aae Uq lG Ad4 zN vT Aag Xt wN AdD gA IQ Ov YG fP X5 Vx uH WX AaR Wa zP tW Xd Zj US wH Acd yF Ua dF Adg AgI uI wR AdK Ac6 lS
def G3(C:Ctx)(fr:Fr)(h:H)(o:Oper):Option OR:=opF o.op C fr h
theorem Dk(C:Ctx)(fr:Fr)(h:H)(o:Oper):G3 C fr h o=Hi C fr h o:=by
 unfold G3 Hi;cases o.op<;>rfl
def I9(C:Ctx)(fr:Fr)(h:H)(o:Oper):Option OR:=
 match G3 C fr h o with
 |some r=>some r
 |none=>match o.op with
  | .convert s d x=>match ev C fr x with
   |some v=>match Bb C.T h s d v with
    |some u=>some<|.val u h
    |none=>FQ<|UN C.T h s d v
   |none=>none
  |_=>none
structure Ctx.Ok(C:Ctx)(P:Program):Prop where
 T:C.T.Ok P
 fn : ∀ f i, C.fn f = some i -> ∃ fn, P.funcs[f]? = some fn /\ fn.name ≠ "runtime.NumGoroutine" /\ fn.body = some i.body /\ fn.ntmps = i.ntmps /\ fn.results = i.results
 prim:∀f q,C.prim f=some q->∀(p:Pl) (h:H) (w:World) (args:List V) (args':Array Value) v h',R p h w->Gl C p->Ax p args args'.toList->q args h=some (v,h')->
  ∃v' p' w',(callFunc f args').run P w=.ok (.value v') w'/\Ad p' v v'/\Ext p h w p' h' w'
 spec:∀f q,C.spec f=some q->∀(p:Pl) (h:H) (w:World) (args:List V) (args':Array Value) v h',R p h w->Gl C p->Ax p args args'.toList->q args h=some (v,h')->
  Calls P f args' w fun e w'=>∃v' p',e=.returned v'/\Ad p' v v'/\Ext p h w p' h' w'
def RN(p:Pl)(h:H)(w:World):OR->Result Next->Prop
 | .val v h',r=>∃v' p' w',r=.ok (.value v') w'/\Ad p' v v'/\Ext p h w p' h' w'
 | .skip h',r=>∃p' w',r=.ok .skip w'/\Ext p h w p' h' w'
 | .enter f args,r=>∃args',r=.ok (.enter f args') w/\Ax p args args'.toList
 | .round b l fr,r=>∃k n f tmps,p[b]?=some (k,n)/\h.get b=some (.loop l)/\r=.ok (.round k f tmps l.asg l.body) w/\EZ p fr tmps
 | .alts l,r=>∃v h' v' p' w',(v,h')∈l/\r=.ok (.value v') w'/\Ad p' v v'/\Ext p h w p' h' w'
section
variable {C:Ctx}{P:Program}{p:Pl}{h:H}{w:World}{fr:Fr}{a:Act}
theorem Cc{s:Sem Value}{v:Option V}{r:OR}(hr:R p h w)(b:BU h v=some r)(d:∀x,v=some x->∃v',s.run P w=.ok v' w/\Ad p x v'):RN p h w r ((do pure (.value<|<-s):Sem Next).run P w):=by
 cases v with
 |none=>simp[BU]at b
 |some x=>
  simp only[BU,ze]at b;subst b;obtain⟨v',c,e⟩:=d x rfl;exact⟨v',p,w,by simp[c],e,zm hr⟩
theorem DO{s:Sem Value}{v:Option (V×H)}{r:OR}(b:FQ v=some r)(c:∀x h',v=some (x,h')->∃v' p' w',s.run P w=.ok v' w'/\Ad p' x v'/\Ext p h w p' h' w'):RN p h w r ((do pure (.value<|<-s):Sem Next).run P w):=by
 match v,b,c with
 |some (x,h'),b,c=>
  simp only[FQ,ze]at b;subst b;obtain⟨v',p',w',d,f,e⟩:=c x h' rfl;exact⟨v',p',w',by simp[d],f,e⟩
 |none,b,_=>simp[FQ]at b
theorem aZ{s:Sem Unit}{v:Option H}{r:OR}(b:qY v=some r)(d:∀h',v=some h'->∃w',s.run P w=.ok () w'/\Ext p h w p h' w'):RN p h w r ((do s;pure .skip:Sem Next).run P w):=by
 cases v with
 |none=>simp[qY]at b
 |some h'=>
  simp only[qY,ze]at b;subst b;obtain⟨w',c,e⟩:=d h' rfl;exact⟨p,w',by simp[c],e⟩
theorem MZ(G:C.Ok P)(hr:R p h w)(I:Gl C p){f:V}{D:Value}{args:List V}{args':Array Value}(A:Ad p f D)(u:Ax p args args'.toList){r:OR}(b:IG C h f args=some r):
  RN p h w r ((do let d<-zw D args';invoke d.target d.args:Sem Next).run P w):=by
 unfold IG at b;split at b
 case h_3=>cases b
 case h_2=>
  split at b
  case h_2=>cases b
  rename_i l B;rw[BA]at b;by_cases N:args.length=l.ps.size
  ·simp only[N,decide_true,we,ze]at b;subst b;obtain⟨k,n,hp,rfl⟩:=A;obtain⟨k',n',o,s,z,f0,tmps,r,m,j,M,rfl⟩:=hr.obj _ _ B;have Q:=u.length;simp only[zw,zd,zf,zc,invoke];have e:((l.ps.zip args').foldl (fun tmps (t,a)=>tmps.setIfInBounds t a) tmps)=(l.ps.toList.zip args'.toList).foldl (fun tmps (t,a)=>tmps.setIfInBounds t a) tmps:=by
    grind [Array.toList_zip]
   have E:=EZ.Hz (ts:=l.ps.toList) u j;refine⟨k,n,f0,_,hp,B,?_,E⟩;simp_all [run_yield]
  grind
 rename_i g first captured
 obtain⟨x,y,rfl,K,O⟩:=A;have c:Ax p (first++args++captured) (x++args'++y).toList:=by
  simpa using(K.append u).append O
 simp only[zw,zd,zf,zc,invoke];split at b
 case h_1=>
  rename_i q J;match hqr:q (first++args++captured) h,b with
  |some (v,h'),b=>
   simp only[FQ,ze]at b;subst b;obtain⟨v',p',w',s,z,j⟩:=G.prim g q J p h w _ _ v h' hr I c hqr;exact⟨v',p',w',s,z,j⟩
  |none,b=>simp[FQ]at b
 case h_2=>
  split at b
  case h_2=>cases b
  rename_i i L;cases b;obtain⟨fn,s,z,j,M,E⟩:=G.fn g i L;refine⟨_,?_,c⟩;simp_all [callFunc]
theorem W1(n:C.Ok P)(hr:R p h w)(o:Gl C p){x:V}{x':Value}{name:String}{args:List V}{args':Array Value}(q:Ad p x x')(A:Ax p args args'.toList){r:OR}(c:OF C h x name args=some r):
  RN p h w r ((invoke (.fn (.method name) #[])<|#[x']++args').run P w):=by
 unfold OF at c;split at c
 case h_2=>cases c
 rename_i t v;split at c
 case h_2=>cases c
 rename_i g s;obtain⟨y,rfl,B⟩:=q;obtain⟨j,m,d,h1,h2,h3,h4,h5,h6⟩:=n.T.mth t name g s;have key:(invoke (.fn (.method name) #[])<|#[.iface t y]++args').run P w=((do let d<-zw (.func (.func g) #[] #[]) (#[y]++args');invoke d.target d.args:Sem Next).run P w):=by
  have l:(underlying t).run P w=.ok d w:=by simp_all [underlying]
  have z:(typeInfo t).run P w=.ok j w:=by unfold typeInfo;simp[h1]
  have b:∀k,(method (k+1) t y name).run P w=.ok (g,y) w:=by
   simp_all [method,follow,receiverAt,Place.get]
  have i:=b<|P.types.size+99;have e:P.types.size+Made.depth=P.types.size+99+1:=rfl;have h0:(#[Value.iface t y]++args')[0]?=some (.iface t y):=by
   grind
  have u:(#[Value.iface t y]++args').extract 1 (#[Value.iface t y]++args').size=args':=by
   simp
  simp only[invoke,zw,h0,u];simp[callMethod,e,i]
 rw[key];exact MZ n hr o (f:=.fn (.func g) [] []) (by simp[Ad]) (by simp_all) c
theorem WU(f:C.Ok P)(hr:R p h w){b:Builtin}{ts:Array TypeId}{t:TypeId}{cs:Array Bool}{args:List V}{args':Array Value}(e:Ax p args args'.toList){r:OR}(d:EJ C h b ts args=some r):
  RN p h w r ((builtin b ts t cs args').run P w):=by
 unfold EJ at d;split at d
 case h_1=>exact Cc hr d fun x c=>zG f.T hr e c
 case h_2=>exact DO d fun x h' c=>Zg f.T hr e c
 case h_3=>exact DO d fun x h' c=>mI f.T hr e c
 case h_4=>exact Cc hr d fun x c=>vX e c
 case h_5=>exact Cc hr d fun x c=>xN e c
 case h_6=>exact Cc hr d fun x c=>xV f.T e c
 case h_7=>exact DO d fun x h' c=>YP f.T hr e c
 case h_8=>exact DO d fun x h' c=>fQ f.T hr e c
 case h_9=>exact Cc hr d fun x c=>gX e c
 case h_10=>
  refine DO d fun x h' c=>?_
  obtain⟨v',w',j,g,i⟩:=iL (t:=t) f.T hr e c;grind
 grind
theorem nM{T:Cg}(k:T.Ok P){op:BinOp}{t:TypeId}{x y:Operand}{v u:V}{v' j:Value}(f:Ad p v v')(m:Ad p u j){z:V}(i:KJ T op t x y v u=some z):
  ∃n,(do eqGuard op t x y v' j;binOp op t v' j:Sem Value).run P w=.ok n w/\Ad p z n:=by
 unfold KJ at i;split at i
 case h_2=>
  simp only[zd,fV k f m i,zc];exact xR k f m i
 case h_1=>
  rename_i r hr;have s:∀ {b:Bool},(bif Z7 x||Z7 y then some (V.bool b)else none)=some z->z=.bool b/\((∃c,x=.const c)\/∃c,y=.const c):=by
   intro b g;cases d:(Z7 x||Z7 y)with
   |false=>grind
   |true=>
    simp only[d,we,ze]at g;refine⟨g.symm,?_⟩;simp only[Bool.or_eq_true]at d;rcases d with d|d
    ·left;cases x<;>first|exact⟨_,rfl⟩|cases d
    ·right;cases y<;>first|exact⟨_,rfl⟩|cases d
  have A:∀op,(op=.eql\/op=.neq)->((∃c,x=.const c)\/∃c,y=.const c)->(eqGuard op t x y .nilIface .nilIface).run P w=.ok () w:=by
   intro op o d;rcases o with rfl|rfl<;>unfold eqGuard<;>rcases d with⟨c,rfl⟩|⟨c,rfl⟩<;>simp
  have q:∀ {l},T.und t=some (.interface l)->(Op.equal t .nilIface .nilIface).run P w=.ok true w:=by
   intro l e;unfold Op.equal Op.maxDepth Op.equalIn;rw[zd,AE k e];rfl
  unfold wW at hr;split at hr
  case h_1=>
   have g:=(O2 (t:=t) (y':=.nilIface) f rfl).1;simp_all [Ad]
  case h_2=>
   have g:=(O2 (t:=t) (y':=.nilIface) f rfl).2;simp_all [Ad]
  grind
theorem kV(E:C.Ok P)(hr:R p h w)(q:Gl C p)(A:CO p fr a){o:Oper}{r:OR}(e:G3 C fr h o=some r):RN p h w r ((execOp a.eval o).run P w):=by
 rw[Dk]at e;unfold Hi at e;unfold execOp;cases Z:o.op<;>simp only[Z]at e ⊢<;>try (cases e;done)
 case move x|assign x=>
  cases j:ev C fr x with
  |none=>simp[j,BU]at e
  |some v=>simp[j,BU]at e;subst e;exact⟨_,p,w,rfl,A9 q A j,zm hr⟩
 case pick c x y=>
  split at e
  case h_2=>cases e
  rename_i t Y;have O:=A9 q A Y;simp only[Ad]at O;simp only[zd,O,asBool,zf,zc];cases t
  ·cases j:ev C fr y with
   |none=>simp[j,BU]at e
   |some v=>simp[j,BU]at e;subst e;exact⟨_,p,w,by simp,A9 q A j,zm hr⟩
  ·cases j:ev C fr x with
   |none=>simp[j,BU]at e
   |some v=>simp[j,BU]at e;subst e;exact⟨_,p,w,by simp,A9 q A j,zm hr⟩
 case alloc t=>exact DO e fun x h' j=>gC E.T hr j
 case box t x=>
  refine DO e fun v h' j=>?_
  rw[zh]at j;obtain⟨u,I,N⟩:=j;have:=zJ (P:=P) (t:=t) hr<|A9 q A I;grind
 case build t K=>
  split at e
  case h_2=>cases e
  rename_i ps M;refine Cc hr e fun x j=>eF E.T ?_ j
  have:=O8 q A M;simp_all
 case buildSlice t n K=>
  split at e
  case h_2=>cases e
  rename_i ps M;refine DO e fun x h' j=>Y8 E.T hr ?_ j
  have:=O8 q A M;simp_all
 case load t x=>
  split at e
  case h_2=>cases e
  rename_i v B;exact Cc hr e fun x j=>VY E.T hr (A9 q A B) j
 case store t x y=>
  split at e
  case h_2=>cases e
  rename_i v u B I;exact aZ e fun h' j=>gK E.T hr (A9 q A B) (A9 q A I) j
 case nilCheck x=>
  split at e
  case h_3=>cases e
  case h_1=>
   rename_i b i B;have j:=A9 q A B;have J:=j;simp only[Ad]at J;obtain⟨X,n,hp,N⟩:=J;simp only[BU,ze]at e;subst e;rw[N];exact⟨_,p,w,rfl,N▸j,zm hr⟩
  case h_2=>
   rename_i t v B;have j:=A9 q A B;have J:=j;simp only[Ad]at J;obtain⟨y,N,_⟩:=J;simp only[BU,ze]at e;subst e;rw[N];exact⟨_,p,w,rfl,N▸j,zm hr⟩
 case binOp op t x y t2=>
  split at e
  case h_2=>cases e
  rename_i v u B I;refine Cc hr e fun z L=>?_
  exact nM E.T (A9 q A B) (A9 q A I) L
 case unOp op t x=>
  split at e
  case h_2=>cases e
  rename_i v B;exact Cc hr e fun x j=>Adi (A9 q A B) j
 case convert s d x=>
  split at e
  case h_2=>cases e
  rename_i v B;exact Cc hr e fun x j=>nN E.T hr (A9 q A B) j
 case makeInterface t x=>
  split at e
  case h_2=>cases e
  rename_i v d B Q;split at e
  case h_1=>cases e
  case h_2=>
   refine Cc hr e fun z L=>?_
   cases L;refine⟨.iface t<|a.eval x,?_,by exact⟨_,rfl,A9 q A B⟩⟩;unfold Instr.makeInterface;simp only[zd,AE E.T Q,zc];rfl
 case makeFunc f first captured=>
  split at e
  case h_2=>cases e
  rename_i x y j hy;refine Cc hr e fun z L=>?_
  cases L;exact⟨_,rfl,by exact⟨_,_,rfl,by simpa using Kn q A j,by simpa using Kn q A hy⟩⟩
 case makeMap t x=>
  split at e
  case h_2=>cases e
  rename_i v B;exact DO e fun x h' j=>V3 hr (Pj q A B) j
 case makeSlice t l c=>
  split at e
  case h_2=>cases e
  rename_i v u B I;exact DO e fun x h' j=>mQ E.T hr (A9 q A B) (A9 q A I) j
 case slice t x lo hi mx=>
  split at e
  case h_2=>cases e
  rename_i v l X m B W U hm;exact Cc hr e fun x j=>eS E.T (A9 q A B) (Pj q A W) (Pj q A U) (Pj q A hm) j
 case fieldAddr t x f=>
  split at e
  case h_2=>cases e
  rename_i v B;exact Cc hr e fun x j=>gS E.T (A9 q A B) j
 case field t x f=>
  split at e
  case h_2=>cases e
  rename_i v B;exact Cc hr e fun x j=>fT E.T (A9 q A B) j
 case indexAddr t x i=>
  split at e
  case h_2=>cases e
  rename_i v u B I;exact Cc hr e fun x j=>hH E.T (A9 q A B) (A9 q A I) j
 case index t x i=>
  split at e
  case h_2=>cases e
  rename_i v u B I;exact Cc hr e fun x j=>gY E.T (A9 q A B) (A9 q A I) j
 case lookup t x i ok=>
  split at e
  case h_2=>cases e
  rename_i v u B I;exact Cc hr e fun x j=>Xy E.T hr (A9 q A B) (A9 q A I) j
 case mapUpdate t m k x|insert t m k x=>
  split at e
  case h_2=>cases e
  rename_i v u z B I L;exact aZ e fun h' j=>XT E.T hr (A9 q A B) (A9 q A I) (A9 q A L) j
 case range t x=>
  split at e
  case h_2=>cases e
  rename_i v B;exact DO e fun x h' j=>XU E.T hr (A9 q A B) j
 case next x b=>
  split at e
  case h_2=>cases e
  rename_i v B;cases b with
  |true=>exact DO e fun x h' j=>tO hr (A9 q A B) j
  |false=>
   simp only[wg,zh]at e;obtain⟨l,W,rfl⟩:=e;obtain⟨v,h',v',p',w',g1,g2,g3,g4⟩:=fJ (P:=P) (t:=o.type) hr (A9 q A B) W;grind [zd,zc,zf,RN]
 case entry x=>
  split at e
  case h_2=>cases e
  rename_i v B;exact Cc hr e fun x j=>eV hr (A9 q A B) j
 case extract x i=>
  split at e
  case h_2=>cases e
  rename_i v B;exact Cc hr e fun x j=>Vn (A9 q A B) j
 case call c=>
  split at e
  case h_4=>cases e
  case h_1=>
   rename_i b args G D;have:=Kn q A D;unfold resolve;simp only[G,zd,zf,zc,invoke];exact WU E hr (by simp_all) e
  case h_2=>
   rename_i f args G D;split at e
   case h_2=>cases e
   rename_i g S;have:=Kn q A D;unfold resolve;simp only[G];exact MZ E hr q (A9 q A S) (by simp_all) e
  case h_3=>
   rename_i x nm args G D;split at e
   case h_2=>cases e
   rename_i v B;have:=Kn q A D;unfold resolve;simp only[G,zd,zf,zc];exact W1 E hr q (A9 q A B) (by simp_all) e
theorem Mc(i:C.Ok P)(hr:R p h w)(f:Gl C p)(g:CO p fr a){o:Oper}{r:OR}(b:I9 C fr h o=some r):RN p h w r ((execOp a.eval o).run P w):=by
 unfold I9 at b;split at b
 case h_1=>
  grind [kV]
 case h_2=>
  split at b
  case h_2=>cases b
  rename_i s d x k;split at b
  case h_2=>cases b
  rename_i v e;unfold execOp;simp only[k];split at b
  case h_1=>
   rename_i u j;exact Cc (v:=some u) hr b fun x c=>by cases c;exact zV i.T hr (A9 f g e) j
  exact DO b fun x h' c=>fK i.T hr (A9 f g e) c
end
def Bf(fr:Fr)(ops:Array Oper)(o:Oper):Bool:=
 match o.guard with
 |none=>true
 |some (j,c)=>
  match (ops[j]?).bind (·.dst)with
  |some t=>bif zl t fr.n then(match fr.get t with| .bool b=>b==c|_=>false)else false
  |none=>false
inductive Cl where
 |fn (f:FuncId) (args:List V)
 |rnd (b:Nat) (l:LS) (fr:Fr)
abbrev DR:=Cl->H->Option (List<|V×H)
def bl{α d:Type}:List α->(α->Option (List d))->Option (List d)
 |[],_=>some []
 |a::c,f=>match f a with
  |none=>none
  |some x=>match c with
   |[]=>some x
   |b::e=>match bl (b::e) f with
    |some y=>some<|x++y
    |none=>none
theorem I0{α j:Type}{f:α->Option (List j)}:∀ {l:List α} {r:List j},bl l f=some r->∀a∈l,∃x,f a=some x/\∀b∈x,b∈r
 |[],r,_,a,e=>by cases e
 |[c],r,h,a,e=>by
  unfold bl at h;split at h
  ·cases h
  rename_i x i;cases h;cases zk.1 e;exact⟨_,i,fun b g=>g⟩
 |c::d::m,r,h,a,e=>by
  unfold bl at h;split at h
  ·cases h
  rename_i x i;simp only at h;split at h
  case h_2=>cases h
  rename_i y n;cases h;rcases yx.1 e with rfl|e
  ·exact⟨_,i,fun b g=>List.mem_append_left _ g⟩
  ·obtain⟨z,k,o⟩:=I0 n a e;exact⟨z,k,fun b g=>z7 _<|o b g⟩
def Ix(fr:Fr)(d:Option Nat):List (V×H)->Option (List<|Fr×H)
 |[]=>some []
 |(v,h)::l=>match fr.put d v with
  |some f=>match Ix fr d l with
   |some r=>some ((f,h)::r)
   |none=>none
  |none=>none
theorem P4{fr:Fr}{d:Option Nat}:∀ {l:List (V×H)} {r:List (Fr×H)},Ix fr d l=some r->∀v h,(v,h)∈l->∃f,fr.put d v=some f/\(f,h)∈r
 |[],r,_,v,h,hm=>by cases hm
 |(u,k)::l,r,b,v,h,hm=>by
  unfold Ix at b;split at b
  case h_2=>cases b
  rename_i f i;split at b
  case h_2=>cases b
  rename_i m hr;cases b;rcases yx.1 hm with e|hm
  ·cases e;exact⟨f,i,by simp⟩
  ·obtain⟨g,c,j⟩:=P4 hr v h hm;exact⟨g,c,List.mem_cons_of_mem _ j⟩
def step1(C:Ctx)(call:DR)(ops:Array Oper)(o:Oper)(fr:Fr)(h:H):Option (List<|Fr×H):=
 bif Bf fr ops o then
  match I9 C fr h o with
  |some (.val v h')=>match fr.put o.dst v with
   |some fr'=>some [(fr',h')]
   |none=>none
  |some (.skip h')=>match fr.put o.dst (.tup [])with
   |some fr'=>some [(fr',h')]
   |none=>none
  |some (.enter f args)=>match call (.fn f args) h with
   |some l=>Ix fr o.dst l
   |none=>none
  |some (.round b ls f)=>match call (.rnd b ls f) h with
   |some l=>Ix fr o.dst l
   |none=>none
  |some (.alts l)=>Ix fr o.dst l
  |none=>none
 else match fr.put o.dst (.tup [])with
  |some fr'=>some [(fr',h)]
  |none=>none
def TV(C:Ctx)(call:DR)(ops:Array Oper):List Oper->Fr->H->Option (List<|Fr×H)
 |[],fr,h=>some [(fr,h)]
 |o::b,fr,h=>match step1 C call ops o fr h with
  |some l=>bl l fun x=>TV C call ops b x.1 x.2
  |none=>none
def FW(ro:Option Nat):Fence:={ yf with round:=ro }
theorem XN{ro:Option Nat}{n:Nat}{P:Program}{f:FuncId}{args:Array Value}{w:World}{R:Ending->World->Prop}:CallsIn (FW ro) n P f args w R↔Calls P f args w R:=by
 have:CallsIn (FW ro) n P f args w R↔CallsIn yf n P f args w R:=Iff.rfl;exact this.trans callsIn_wide
theorem AcZ{ro:Option Nat}{n:Nat}{P:Program}{k:Nat}{f:FuncId}{tmps:Array Value}{asg body:Code}{w:World}{R:Ending->World->Prop}(h:RoundIn yf 0 P k f tmps asg body w R):RoundIn (FW ro) n P k f tmps asg body w R:=
 ⟨trivial,fun c cs _=>h.2 c cs<|room_wide _⟩
inductive DX where
 |normal
 |exit (id:Nat)
 |ret
def DX.UX:DX->Exit
 | .normal=>.normal
 | .exit id=>.exit id
 | .ret=>.ret
section
variable {C:Ctx}{P:Program}{p:Pl}{h:H}{w:World}{fr:Fr}{a:Act}
theorem CO.put(g:CO p fr a){d:Option Nat}{v:V}{v':Value}(i:Ad p v v'){fr':Fr}(c:fr.put d v=some fr'):CO p fr' (a.put d v'):=by
 unfold Fr.put at c;cases d with
 |none=>cases c;exact g
 |some t=>
  simp only[HE]at c;by_cases b:t<fr.n
  ·simp only[b,decide_true,we,ze]at c;subst c;refine⟨by simp[Act.put,g.1],fun s=>?_⟩;have f:t<a.tmps.size:=g.1▸b;by_cases e:s=t
   ·subst e;simp[Fr.get,Act.put,f,i]
   ·have:=g.2 s;simp only[Fr.get,PM.Dz,wc e,Act.put]at this ⊢;rw[zj,zi<|fun x=>e x.symm, <-zj];exact this
  ·simp[b]at c
theorem CO.mono(b:CO p fr a){p':Pl}(hp:∃q,p'=p++q):CO p' fr a:=by
 obtain⟨q,rfl⟩:=hp;exact⟨b.1,fun t=>(b.2 t).mono q⟩
theorem CO.ext(b:CO p fr a){p':Pl}{h':H}{w':World}(e:Ext p h w p' h' w'):CO p' fr a:=b.mono e.pre
theorem AaD{p:Pl}{v:V}{b:Bool}(d:Ad p v (.bool b)):v=.bool b:=by
 cases v<;>simp only[Ad]at d<;>first|(cases d;rfl)|(simp at d;done)|(obtain⟨_,_,_,_,c,_⟩:=d;cases c;done)|(obtain⟨_,_,_,c⟩:=d;cases c;done)|(obtain⟨_,_,c,_⟩:=d;cases c;done)|(obtain⟨_,_,c⟩:=d;cases c;done)|(obtain⟨_,c,_⟩:=d;cases c;done)
theorem SS(l:CO p fr a)(ops:Array Oper)(o:Oper):yp o (yielded ops a.tmps)=Bf fr ops o:=by
 unfold yp Bf;cases q:o.guard with
 |none=>rfl
 |some m=>
  obtain⟨j,d⟩:=m;simp only;unfold yielded;cases r:(ops[j]?).bind (·.dst)with
  |none=>simp
  |some t=>
   simp only[Option.bind_some,HE];by_cases c:t<fr.n
   ·have g:t<a.tmps.size:=l.1▸c;have f:=l.2 t;simp only[c,decide_true,we];have e:a.tmps[t]?=some (a.tmps.getD t undef):=by simp[g]
    rw[e];cases i:a.tmps.getD t undef with
    |bool b=>
     rw[i]at f;have:=AaD f;rw[this];cases b<;>cases d<;>rfl
    |_=>
     rw[i]at f;cases k:fr.get t with
     |bool b=>rw[k]at f;simp[Ad]at f
     |_=>cases d<;>rfl
   ·have:a.tmps[t]?=none:=zn<|zx<|l.1▸c;simp[this,c]
def Hn(p:Pl)(h:H)(w:World)(l:List (V×H))(e:Ending)(w':World):Prop:=
 ∃v h' v' p',(v,h')∈l/\e=.returned v'/\Ad p' v v'/\Ext p h w p' h' w'
structure DR.Ok(C:Ctx)(P:Program)(call:DR):Prop where
 fn:∀f args h l,call (.fn f args) h=some l->∀(p:Pl) (w:World) (args':Array Value),R p h w->Gl C p->Ax p args args'.toList->Calls P f args' w (Hn p h w l)
 rnd:∀b ls fr h l,call (.rnd b ls fr) h=some l->∀(p:Pl) (w:World) (k n:Nat) (f:FuncId) (tmps:Array Value),R p h w->Gl C p->h.get b=some (.loop ls)->p[b]?=some (k,n)->EZ p fr tmps->
  RoundIn yf 0 P k f tmps ls.asg ls.body w (Hn p h w l)
theorem Ht{o:Oper}{r:OR}(b:G3 C fr h o=some r):∀c,o.op≠ .defer c:=by
 intro c e;rw[Dk]at b;unfold Hi at b;simp[e]at b
theorem GL{o:Oper}{r:OR}(b:I9 C fr h o=some r):∀c,o.op≠ .defer c:=by
 intro c e;unfold I9 at b;split at b
 case h_1=>rename_i hr;exact Ht hr c e
 case h_2=>rw[e]at b;cases b
theorem Ue{p':Pl}{l:List (V×H)}{r:List (Fr×H)}{d:Option Nat}(hp:Ix fr d l=some r)(j:CO p fr a){K:Act->World->Prop}
  (k:∀x∈r,∀p' b w',CO p' x.1 b->Ext p h w p' x.2 w'->b.defers=a.defers->K b w') {v:V} {h':H} {v':Value} {w':World} (i:(v,h')∈l) (g:Ad p' v v') (c:Ext p h w p' h' w'):K (a.put d v') w':=by
 obtain⟨f,e,m⟩:=P4 hp v h' i;exact k _ m p' _ w' ((j.ext c).put g e) c (by cases d<;>rfl)
theorem eP(D:C.Ok P){call:DR}(q:call.Ok C P)(hr:R p h w)(t:Gl C p)(j:CO p fr a){ops:Array Oper}{i:Nat}{o:Oper}(O:ops[i]?=some o){l:List (Fr×H)}
  (d:step1 C call ops o fr h=some l) {ro:Option Nat} {n:Nat} {Q:Exit->Act->World->Prop} {K:Act->World->Prop}
  (z:∀x∈l,∀p' G w',CO p' x.1 G->Ext p h w p' x.2 w'->G.defers=a.defers->K G w'):wpOpIn (FW ro) n P ops Q i K a w:=by
 have y:∀v,(a.put o.dst v).defers=a.defers:=by intro v;cases o.dst<;>rfl
 unfold step1 at d;unfold wpOpIn;simp only[O];rw[SS j];cases L:Bf fr ops o with
 |false=>
  simp only[L,wg]at d;simp only[yd,vf];refine⟨fun _ _=>trivial,?_⟩;split at d
  case h_2=>cases d
  rename_i A hp;cases d;exact z _ (zk.2 rfl) p _ w (j.put (by simp[Ad,undef]) hp) (zm hr)<|y _
 |true=>
  simp only[L,we]at d;simp only[wk];refine⟨fun _ _=>trivial,?_⟩;split at d
  case h_6=>cases d
  case h_1=>
   rename_i v M c;split at d
   case h_2=>cases d
   rename_i A hp;cases d;obtain⟨v',p',w',r,u,s⟩:=Mc D hr t j c;rw[yb _ _ _<|GL c,r,Oper.uponIn_value];exact z _ (zk.2 rfl) p' _ w' ((j.ext s).put u hp) s<|y _
  case h_2=>
   rename_i M c;split at d
   case h_2=>cases d
   rename_i A hp;cases d;obtain⟨p',w',r,s⟩:=Mc D hr t j c;rw[yb _ _ _<|GL c,r,Oper.uponIn_skip];exact z _ (zk.2 rfl) p' _ w' ((j.ext s).put (by simp[Ad,undef]) hp) s<|y _
  case h_3=>
   rename_i f args c;split at d
   case h_2=>cases d
   rename_i l1 I;obtain⟨args',r,u⟩:=Mc D hr t j c;rw[yb _ _ _<|GL c,r,Oper.uponIn_enter];refine⟨fun h=>(by simp[FW,yf]at h),XN.2<|(q.fn f args h l1 I p w args' hr t u).mono ?_⟩;rintro e w' ⟨v,h',v',p',B,rfl,J,E⟩;exact Ue d j z B J E
  case h_4=>
   rename_i b ls f c;split at d
   case h_2=>cases d
   rename_i l1 I;obtain⟨k,m,g,tmps,r,u,s,N⟩:=Mc D hr t j c;rw[yb _ _ _<|GL c,s,Oper.uponIn_round];refine⟨fun h=>(by simp[FW,yf]at h),(AcZ<|q.rnd b ls f h l1 I p w k m g tmps hr t u r N).mono ?_⟩;rintro e w' ⟨v,h',v',p',B,rfl,J,E⟩;exact Ue d j z B J E
  case h_5=>
   rename_i l1 c;obtain⟨v,h',v',p',w',B,r,u,s⟩:=Mc D hr t j c;rw[yb _ _ _<|GL c,r,Oper.uponIn_value];exact Ue d j z B u s
theorem Xc(z:C.Ok P){call:DR}(b:call.Ok C P){ops:Array Oper}{ro:Option Nat}{n:Nat}{Q:Exit->Act->World->Prop}:
  ∀(l:List Oper) (k:Nat),(∀j,l[j]?=ops[k+j]?)->∀ {p:Pl} {h:H} {w:World} {fr:Fr} {a:Act},R p h w->Gl C p->CO p fr a->∀ {L:List (Fr×H)},TV C call ops l fr h=some L->
  (∀x∈L,∀p' t w',CO p' x.1 t->Ext p h w p' x.2 w'->t.defers=a.defers->Q .normal t w')->wpOpsIn (FW ro) n P ops Q (List.range' k l.length) a w
 |[],k,_,p,h,w,fr,a,hr,i,q,L,d,r=>by
  cases d;exact r _ (zk.2 rfl) p a w q (zm hr) rfl
 |o::l,k,u,p,h,w,fr,a,hr,i,q,L,d,r=>by
  unfold TV at d;split at d
  case h_2=>cases d
  rename_i l1 D;rw[List.length_cons,List.range'_succ,wpOpsIn_cons];refine eP z b hr i q (by simpa using(u 0).symm) D (K:=wpOpsIn (FW ro) n P ops Q<|List.range' (k+1) l.length) fun x A N a1 M s c e=>?_
  obtain⟨L1,I,B⟩:=I0 d x A;exact Xc z b l (k+1) (fun j=>by have:=u<|j+1;simpa [Nat.add_assoc,Nat.add_comm 1 j]using this) c.rel (i.ext c) s I
   fun y J G a2 E m g f=>r y (B y J) G a2 E m (c.trans g)<|f.trans e
theorem Zb(g:C.Ok P){call:DR}(b:call.Ok C P){ops:Array Oper}{ro:Option Nat}{n:Nat}{Q:Exit->Act->World->Prop}(hr:R p h w)(d:Gl C p)(e:CO p fr a){L:List (Fr×H)}
  (i:TV C call ops ops.toList fr h=some L) {id:Nat}
  (f:∀x∈L,∀p' c w',CO p' x.1 c->Ext p h w p' x.2 w'->c.defers=a.defers->Q .normal c w'):(Code.region id ops false).wpIn (FW ro) n P Q a w:=by
 refine wpIn_region ?_;have:=Xc (Q:=Q) (ro:=ro) (n:=n) g b ops.toList 0 (fun j=>by simp) hr d e i f;rw[List.range_eq_range'];simpa using this
end
theorem J1{C:Ctx}{fr fr':Fr}:∀ {xs:List Operand},(∀x∈xs,ev C fr x=ev C fr' x)->Sv C fr xs=Sv C fr' xs
 |[],_=>rfl
 |x::xs,h=>by
  unfold Sv;rw[h x (by simp),J1<|fun y b=>h y<|by simp[b]]
theorem J6{C:Ctx}{fr fr':Fr}:∀ {xs:List (Nat×Operand)},(∀x∈xs,ev C fr x.2=ev C fr' x.2)->XW C fr xs=XW C fr' xs
 |[],_=>rfl
 |(i,x)::xs,h=>by
  unfold XW;rw[h (i,x) (by simp),J6<|fun y b=>h y<|by simp[b]]
theorem J0{C:Ctx}{fr fr':Fr}{x:Option Operand}(h:∀y,x=some y->ev C fr y=ev C fr' y):Xs C fr x=Xs C fr' x:=by
 cases x with
 |none=>rfl
 |some y=>simp[Xs,h y rfl]
theorem fY{C:Ctx}{fr fr':Fr}{h:H}{o:Oper}(d:∀x∈o.op.operands,ev C fr x=ev C fr' x):G3 C fr h o=G3 C fr' h o:=by
 obtain⟨dst,op,k,pos,after,guard⟩:=o;cases op<;>simp only[yk]at d<;>simp only[Dk,Hi]
 case build t ps=>rw[J6 fun x e=>d x.2<|by simp;exact⟨x.1,by simpa using e⟩]
 case buildSlice t n ps=>rw[J6 fun x e=>d x.2<|by simp;exact⟨x.1,by simpa using e⟩]
 case makeFunc f first captured=>rw[J1 (xs:=first.toList) fun x e=>d x (by simp at e ⊢;exact .inl e),J1 (xs:=captured.toList) fun x e=>d x<|by simp at e ⊢;exact .inr e]
 case makeMap t r=>rw[J0 fun y g=>d y<|by simp[g]]
 case slice t x lo l mx=>
  rw[d x (by simp),J0 (x:=lo) fun y g=>d y (by simp[g]),J0 (x:=l) fun y g=>d y (by simp[g]),J0 (x:=mx) fun y g=>d y<|by simp[g]]
 case call c=>
  obtain⟨callee,args,ts⟩:=c;rw[J1 (xs:=args.toList) (fr:=fr) (fr':=fr') fun x e=>d x<|by simp at e;simp[Call.operands,e]];cases callee with
  |value f=>
   have i:=d f (by simp[Call.operands]);cases Sv C fr' args.toList with
   |none=>rfl
   |some j=>simp only[i]
  |invoke f m=>
   have i:=d f (by simp[Call.operands]);cases Sv C fr' args.toList with
   |none=>rfl
   |some j=>simp only[i]
  |builtin b=>cases Sv C fr' args.toList<;>rfl
 all_goals (first|rfl|(simp_all;done))
def reads(ops:Array Oper)(o:Oper):List Tmp:=o.looksAt ops
theorem zB{C:Ctx}{fr fr':Fr}{x:Operand}(h:∀t,x=.tmp t->fr.get t=fr'.get t):ev C fr x=ev C fr' x:=by
 cases x with
 |tmp t=>simp only[ev,h t rfl]
 |_=>rfl
theorem mem_reads{ops:Array Oper}{o:Oper}{t:Tmp}(h:Operand.tmp t∈o.op.operands):t∈reads ops o:=
 List.mem_append_left _ (List.mem_filterMap.2 ⟨.tmp t,by simpa using h,rfl⟩)
theorem UJ{fr fr':Fr}{ops:Array Oper}{o:Oper}(f:fr.n=fr'.n)(h:∀t∈reads ops o,fr.get t=fr'.get t):Bf fr ops o=Bf fr' ops o:=by
 unfold Bf;cases c:o.guard with
 |none=>rfl
 |some e=>
  obtain⟨j,b⟩:=e;simp only;cases d:(ops[j]?).bind (·.dst)with
  |none=>rfl
  |some t=>
   simp only[f];rw[h t<|z7 _<|by simp[c,d]]
def Ro(l:List Tmp)(fr:Fr):Fr:=⟨fr.n,l.foldr (fun t m=>m.set t<|some<|fr.get t) .leaf⟩
def I6(l:List Tmp)(a:Act):Act:={ a with tmps:=Array.ofFn (n:=a.tmps.size) fun t=>if l.contains t.1 then a.tmps.getD t undef else undef }
theorem Nb(l:List Tmp)(fr:Fr)(t:Tmp):(Ro l fr).get t=if t∈l then fr.get t else .tup []:=by
 unfold Ro Fr.get;induction l with
 |nil=>simp
 |cons x l b=>
  simp only[List.foldr_cons,PM.Dz,yx];by_cases e:t=x
  ·subst e;simp
  ·simp only[e,vf,false_or];exact b
theorem Nj(l:List Tmp)(a:Act)(t:Tmp):(I6 l a).tmps.getD t undef=if t∈l then a.tmps.getD t undef else undef:=by
 unfold I6;by_cases h:t<a.tmps.size
 ·simp[h]
 ·simp only[zj];rw[zn (by simpa using zx h),zn<|zx h];simp
section
variable {C:Ctx}{P:Program}{p:Pl}{h:H}{w:World}{fr:Fr}{a:Act}
structure FOn(p:Pl)(fr:Fr)(a:Act)(l:List Tmp):Prop where
 n:fr.n=a.tmps.size
 get:∀t∈l,Ad p (fr.get t) (a.tmps.getD t undef)
theorem FOn.Q3{l:List Tmp}(c:FOn p fr a l):CO p (Ro l fr) (I6 l a):=by
 refine⟨by simp[Ro,I6,c.n],fun t=>?_⟩;rw[Nb,Nj];by_cases b:t∈l
 ·simp only[b,wk];exact c.get t b
 ·simp only[b,vf];simp[Ad,undef]
theorem Ks{ops:Array Oper}{o:Oper}{x:Operand}(b:x∈o.op.operands):(I6 (reads ops o) a).eval x=a.eval x:=by
 cases x with
 |tmp t=>
  have:=Nj (reads ops o) a t;rw[wd<|mem_reads b]at this;exact this
 |_=>rfl
theorem TN{ops:Array Oper}{o:Oper}{x:Operand}(b:x∈o.op.operands):ev C (Ro (reads ops o) fr) x=ev C fr x:=by
 refine zB fun t c=>?_
 subst c;rw[Nb,wd<|mem_reads b]
theorem Kq(i:C.Ok P)(hr:R p h w)(f:Gl C p){ops:Array Oper}{o:Oper}(d:FOn p fr a (reads ops o))(g:∀cs b,o.op≠ .select cs b){r:OR}(j:G3 C fr h o=some r):
  RN p h w r ((execOp a.eval o).run P w):=by
 have e:=kV i hr f d.Q3 (o:=o) (r:=r) (by rw[fY (fr':=fr) fun x c=>TN c];exact j);rwa [execOp_congr o g fun x c=>Ks c]at e
theorem SF{ops:Array Oper}{o:Oper}(k:FOn p fr a (reads ops o)):yp o (yielded ops a.tmps)=Bf fr ops o:=by
 have d:=SS k.Q3 ops o;rw[UJ (fr:=Ro (reads ops o) fr) (fr':=fr) (ops:=ops) (o:=o) rfl fun t c=>by rw[Nb,wd c]]at d;rw[<-d];unfold yp;cases f:o.guard with
 |none=>rfl
 |some i=>
  obtain⟨j,e⟩:=i;simp only;congr 1;unfold yielded;cases l:(ops[j]?).bind (·.dst)with
  |none=>rfl
  |some t=>
   simp only[Option.bind_some];have c:t∈reads ops o:=z7 _ (by simp[f,l]);have:=Nj (reads ops o) a t;rw[wd c]at this;by_cases b:t<a.tmps.size
   ·have g:a.tmps[t]?=some (a.tmps.getD t undef):=by simp[b]
    have m:(I6 (reads ops o) a).tmps[t]?=some ((I6 (reads ops o) a).tmps.getD t undef):=by simp[I6,b]
    rw[g,m,this]
   ·rw[zn<|zx b,zn<|by simpa [I6]using zx b]
end
def EM(o:Oper):Bool:=
 match o.op with
 | .move _| .assign _| .pick .. | .build .. | .load .. | .nilCheck _| .binOp .. | .unOp .. | .convert .. | .makeInterface .. | .makeFunc .. | .slice .. | .fieldAddr .. | .field .. | .indexAddr .. | .index .. | .lookup .. | .extract .. =>true
 | .call { callee:=.builtin .len,.. }| .call { callee:=.builtin .max,.. }| .call { callee:=.builtin .min,.. }| .call { callee:=.builtin .unsafeSliceData,.. }=>true
 |_=>false
def R4(o:Oper):Bool:=
 match o.op with
 | .load .. | .convert .. | .lookup .. =>true
 | .call { callee:=.builtin .len,.. }=>true
 |_=>false
def CL(o:Oper):Bool:=
 match o.op with
 | .alloc _| .box .. | .buildSlice .. =>true
 |_=>false
theorem GV{h:H}{v:Option V}{r:OR}(b:BU h v=some r):∃x,v=some x/\r=.val x h:=by
 cases v with
 |none=>cases b
 |some x=>cases b;exact⟨x,rfl,rfl⟩
theorem rd_val{C:Ctx}{fr:Fr}{h:H}{o:Oper}(e:EM o=true){r:OR}(d:G3 C fr h o=some r):∃v,r=.val v h:=by
 obtain⟨dst,op,i,pos,after,guard⟩:=o;cases op<;>simp only[EM]at e<;>simp only[Dk,Hi]at d<;>try (cases e;done)
 case call c=>
  obtain⟨callee,args,ts⟩:=c;cases callee with
  |builtin b=>
   cases g:Sv C fr args.toList with
   |none=>simp[g]at d
   |some j=>
    simp only[g]at d;cases b<;>first|(cases e;done)|(simp only[EJ]at d;obtain⟨x,_,rfl⟩:=GV d;exact⟨x,rfl⟩)
  |value f=>cases e
  |invoke=>cases e
 all_goals
  repeat' split at d
  all_goals first
   |(cases d;done)
   |(obtain⟨x,_,rfl⟩:=GV d;exact⟨x,rfl⟩)
theorem sD{C:Ctx}{fr:Fr}{h:H}{o:Oper}(g:EM o=true)(i:R4 o=false){v:V}(d:G3 C fr h o=some (.val v h))(h':H):G3 C fr h' o=some (.val v h'):=by
 have key:∀ {x:Option V},BU h x=some (.val v h)->BU h' x=some (.val v h'):=by
  intro x l;obtain⟨y,rfl,e⟩:=GV l;cases e;rfl
 obtain⟨dst,op,k,pos,after,guard⟩:=o;cases op<;>simp only[EM]at g<;>simp only[R4]at i<;>simp only[Dk,Hi]at d ⊢<;>try (first|(cases g;done)|(cases i;done))
 case call c=>
  obtain⟨callee,args,ts⟩:=c;cases callee with
  |builtin b=>
   cases j:Sv C fr args.toList with
   |none=>simp[j]at d
   |some m=>
    simp only[j]at d ⊢;cases b<;>first|(cases g;done)|(cases i;done)|(simp only[EJ]at d ⊢;exact key d)
  |value f=>cases g
  |invoke=>cases g
 all_goals
  repeat' split at d
  all_goals first
   |(cases d;done)
   |exact key d
   |(simp only[*];exact key d)
section
variable {C:Ctx}{P:Program}{p:Pl}{h:H}{w:World}{fr:Fr}{a:Act}
def YR(T:Cg)(t:TypeId)(len:Nat)(b:List (Nat×V)):Option (List V×TypeId):=
 match T.und t with
 |some (.slice e)=>match T.inf e with
  |some i=>
   bif z6 (len*i.size) 16777216&&zl 0 (i.zero.length)&&zt i.zero.length i.size then
    (Je (fun k=>some (k*i.size,i.size)) (F6 i.zero<|len*i.size) b).map fun cs=>(cs,e)
   else none
  |none=>none
 |_=>none
def iC(C:Ctx)(fr:Fr)(o:Oper):Option (O×(Nat->V)):=
 match o.op with
 | .alloc t=>match C.T.inf t with
  |some i=>some (.cells i.zero t (0,0),fun b=>.ptr b 0)
  |none=>none
 | .box t x=>match ev C fr x with
  |some v=>some (.cells v.cells t (0,0),fun b=>.ptr b 0)
  |none=>none
 | .buildSlice t n c=>match XW C fr c.toList with
  |some ps=>match YR C.T t n ps with
   |some (cs,e)=>some (.cells cs e (0,0),fun b=>.sl b 0 n n 0)
   |none=>none
  |none=>none
 |_=>none
theorem sZ{o:Oper}{r:O×(Nat->V)}(b:iC C fr o=some r):CL o=true:=by
 unfold iC at b;unfold CL;split at b<;>simp_all
theorem AcY(G:C.Ok P)(Q:Gl C p){ops:Array Oper}{o:Oper}(U:FOn p fr a (reads ops o)){ob:O}{f:Nat->V}(m:iC C fr o=some (ob,f)):
  ∃x n v',(execOp a.eval o).run P w=.ok (.value v') { w with heap:=w.heap.push x }/\Mp p n ob x/\∀(q:Pl) b,q[b]?=some (w.heap.size,n)->Ad q (f b) v':=by
 have y:∀cs b,o.op≠ .select cs b:=by
  intro cs b e;have:=sZ m;simp[CL,e]at this
 have hE:∀(P:Program) (w:World),(execOp (I6 (reads ops o) a).eval o).run P w=(execOp a.eval o).run P w:=fun P w=>by rw[execOp_congr o y fun x s=>Ks s]
 have N:=U.Q3;have g:∀(t:TypeId) (cs:List V) (c:Array Value),Ax p cs c.toList->Mp p c.size (.cells cs t (0,0)) (.cells c t):=by
  intro t cs c s;refine⟨c,(0,0),rfl,rfl,by have:=s.length;simp at this;omega,?_,fun i _ D M=>⟨D,M⟩⟩;have:=s.length;rw[List.take_of_length_le<|by simp at this ⊢;omega];exact s.toC
 unfold iC at m;split at m
 case h_4=>cases m
 case h_1=>
  rename_i t u;split at m
  case h_2=>cases m
  rename_i i E;cases m;obtain⟨z,J,r⟩:=EP G.T E;refine⟨.cells z.cells t,_,.pointer<|some ⟨w.heap.size,0,none⟩,?_,g _ _ _<|r p,fun q b A=>by simp only[Ad];exact⟨_,_,A,rfl⟩⟩;unfold execOp;simp only[u];unfold Instr.alloc newVar;simp only[zd,J,zc,CY,zf]
 case h_2=>
  rename_i t x u;split at m
  case h_2=>cases m
  rename_i v R;cases m;have s:Ad p v (a.eval x):=by
   have:=A9 (C:=C) Q N (x:=x) (v:=v) (by rw[TN<|by simp[u,yk]];exact R);rwa [Ks<|by simp[u,yk]]at this
  refine⟨.cells (a.eval x).cells t,_,.pointer<|some ⟨w.heap.size,0,none⟩,?_,g _ _ _ s.cells,fun q b A=>by simp only[Ad];exact⟨_,_,A,rfl⟩⟩;unfold execOp;simp only[u];unfold Instr.box newVar;simp only[zd,zc,CY,zf]
 case h_3=>
  rename_i t len d u;split at m
  case h_2=>cases m
  rename_i ps K;split at m
  case h_2=>cases m
  rename_i cs e l;cases m;have hp:V7 p ps (d.map fun(i,x)=>(i,a.eval x)).toList:=by
   have:=O8 (C:=C) (fr:=Ro (reads ops o) fr) Q N (xs:=d.toList) (vs:=ps) (by
    rw[J6 (fr':=fr) fun x s=>TN<|by rw[u];simp[yk];exact⟨x.1,by simpa using s⟩];exact K)
   have X:(d.toList.map fun(i,x)=>(i,(I6 (reads ops o) a).eval x))=(d.map fun(i,x)=>(i,a.eval x)).toList:=by
    rw[Array.toList_map];apply List.map_congr_left;rintro⟨i,x⟩ Y;simp only;rw[Ks<|by rw[u];simp[yk];exact⟨i,by simpa using Y⟩]
   rwa [X]at this
  unfold YR at l;split at l
  case h_2=>cases l
  rename_i W Z;split at l
  case h_2=>cases l
  rename_i i E;cases j:(z6 (len*i.size) 16777216&&zl 0 (i.zero.length)&&zt i.zero.length i.size)with
  |false=>simp[j]at l
  |true=>
   simp only[j,we,zh,ym]at l;obtain⟨cs',B,rfl,rfl⟩:=l;simp only[zu,yy,ye,BA,w5]at j;obtain⟨⟨c1,c2⟩,c3⟩:=j;obtain⟨z,J,r⟩:=EP G.T E;have L:=(r p).length;simp at L;obtain⟨oo,D,M⟩:=Mu (p:=p) (place:=fun k=>some (k*i.size,i.size)) hp (J5 (r p) c2<|len*i.size) B;refine⟨.cells oo W,_,.slice (some ⟨w.heap.size,0,none⟩) len len,?_,g _ _ _ M,fun q b A=>by simp only[Ad];exact⟨_,_,len,A,rfl,yi _,yi _,fun _=>rfl,by simp⟩⟩;unfold execOp;simp only[u];unfold Instr.buildSlice;simp only[zd,AE G.T Z,zc,BK G.T E];rw[wc ae];by_cases h0:len*i.size=0
   ·rw[wd h0];simp only[zd,zf,zc];have S:(Array.map (fun x=>(#[]:Array Value)[x % (#[]:Array Value).size]!)<|Array.range<|len*i.size)=Array.map (fun I=>z.cells[I % z.cells.size]!) (Array.range<|len*i.size):=by simp[h0]
    rw[S,D];simp only[zd,CY,zc,zf]
   ·simp only[h0,vf,zd,J,zc,zf,D,CY]
theorem Ext.jF{D p:Pl}{B h:H}{k w:World}(z:Ext D B k p h w){r n:Nat}{o:O}{x:Obj}(Z:w.heap[r]?=some x)(ho:Mp p n o x)(X:¬Im p h r)(K:k.heap.size<=r):
  Ext D B k (p++[(r,n)]) (h.push o) w:=by
 have hr:=z.rel;have f:(p++[(r,n)])[h.nx]?=some (r,n):=by rw[<-hr.len];simp
 have d:∀b,b<h.nx->(p++[(r,n)])[b]?=p[b]?:=fun b hb=>zy (by rw[hr.len];exact hb)
 have i:∀c g,(h.push o).get c=some g->(c=h.nx/\g=o)\/(c<h.nx/\h.get c=some g):=by
  intro c g u;rw[H.Ce]at u;by_cases e:c=h.nx
  ·rw[wd e]at u;cases u;exact .inl ⟨e,rfl⟩
  ·rw[wc e]at u;exact .inr ⟨hr.lt u,u⟩
 refine⟨?_,⟨by simp[hr.len],fun c g u=>?_,fun c L g G s m W u Q l J=>?_⟩,z.size,z.same,fun s R=>?_,z.os,z.out,z.tape,fun s R Y=>?_⟩
 ·obtain⟨q,rfl⟩:=z.pre;exact⟨q++[(r,n)],by simp⟩
 ·rcases i c g u with⟨rfl,rfl⟩|⟨A,I⟩
  ·exact⟨r,n,x,f,Z,ho.mono _⟩
  ·obtain⟨s,m,y,E,j,U⟩:=hr.obj c g I;exact⟨s,m,y,by rw[d c A];exact E,j,U.mono _⟩
 ·rcases i c g u with⟨rfl,rfl⟩|⟨A,I⟩<;>rcases i L G Q with⟨rfl,rfl⟩|⟨N,M⟩
  ·rfl
  ·rw[f]at l;cases l;rw[d L N]at J;exact wh ⟨L,G,W,M,J⟩ X
  ·rw[f]at J;cases J;rw[d c A]at l;exact wh ⟨c,g,m,I,l⟩ X
  ·rw[d c A]at l;rw[d L N]at J;exact hr.inj c L g G s m W I M l J
 ·obtain⟨c,g,m,E,j⟩:=R;rcases i c g E with⟨rfl,rfl⟩|⟨A,I⟩
  ·rw[f]at j;cases j;exact .inr K
  ·rw[d c A]at j;exact z.im s ⟨c,g,m,I,j⟩
 ·obtain⟨A,l⟩:=z.lock s R Y;refine⟨A,?_⟩;rcases l with⟨c,m,cs,t,fz,E,j,U⟩|l
  ·have S:=hr.lt E;exact .inl ⟨c,m,cs,t,fz,by rw[H.Ce,wc ae];exact E,by rw[d c S];exact j,U⟩
  ·refine .inr ?_;rintro⟨c,g,m,E,j⟩;rcases i c g E with⟨rfl,rfl⟩|⟨N,M⟩
   ·rw[f]at j;cases j;omega
   ·rw[d c N]at j;exact l ⟨c,g,m,M,j⟩
theorem Ext.aside{f p:Pl}{d h:H}{e w:World}(c:Ext f d e p h w)(x:Obj):Ext f d e p h { w with heap:=w.heap.push x }:=by
 have hr:=c.rel;refine⟨c.pre,⟨hr.len,fun b o m=>?_,hr.inj⟩,by have:=c.size;simp;omega,fun r g q=>?_,c.im,c.os,c.out,c.tape,fun r g l=>?_⟩
 ·obtain⟨r,n,y,i,j,k⟩:=hr.obj b o m;have:=(zg.1 j).1;exact⟨r,n,y,i,by simp[yc,Nat.ne_of_lt this,j],k⟩
 ·have i:=c.same r g q;have:=c.size;simp only[yc];rw[wc ae];exact i
 ·obtain⟨i,j⟩:=c.lock r g l;have:=c.size;refine⟨?_,j⟩;simp only[yc];rw[wc ae];exact i
end
def Eu(C:Ctx)(call:DR)(fr:Fr)(h:H)(o:Oper):Option (V×H):=
 match G3 C fr h o with
 |some (.val v h')=>some (v,h')
 |some (.skip h')=>some (.tup [],h')
 |some (.enter f args)=>match call (.fn f args) h with
  |some [x]=>some x
  |_=>none
 |_=>none
def Da(o:Oper):Bool:= !EM o&& !CL o
structure Stat(ops:Array Oper)(anc:Nat->Nat->Bool)(ord pos:Nat->Nat)(sc:Nat->Option Nat):Prop where
 sel:Region.noSelect ops=true
 ordp:∀q,q<ops.size->ord q<ops.size/\pos (ord q)=q
 posp:∀i,i<ops.size->pos i<ops.size/\ord (pos i)=i
 edge:∀j i,anc j i=true->∃(o:Oper) (e:Edge),ops[j]?=some o/\e∈o.after/\Region.binds .any e=true/\(e.on=i\/anc e.on i=true)
 dir:∀(j:Nat) (o:Oper) (e:Edge),ops[j]?=some o->e∈o.after->Region.binds .any e=true->anc j e.on=true/\e.on<ops.size
 apos:∀j i,anc j i=true->pos i<pos j
 s1:∀(i j:Nat) (o o':Oper),ops[i]?=some o->ops[j]?=some o'->Da o=true->Da o'=true->i≠j->anc i j=true\/anc j i=true
 s2:∀(i j:Nat) (o o':Oper),ops[i]?=some o->ops[j]?=some o'->Da o=true->EM o'=true->anc j i=true\/pos j<pos i
 q1:∀(i k:Nat),sc i=some k->∃(o ok:Oper) (t:Tmp),ops[i]?=some o/\ops[k]?=some ok/\(o.op=.assign (.tmp t)\/o.op=.move (.tmp t))/\o.guard=none/\CL ok=true/\ok.dst=some t/\anc i k=true
 s3:∀(j k:Nat) (o o':Oper) (t:Tmp),ops[j]?=some o->ops[k]?=some o'->(CL o=true\/(sc j).isSome=true)->Da o'=false->o.dst=some t->t∈reads ops o'->anc k j=true->
  sc k=some j\/∃(i:Nat) (oi:Oper),ops[i]?=some oi/\Da oi=true/\anc i j=true/\anc k i=true
 s4:∀(i j:Nat) (o o':Oper),ops[i]?=some o->ops[j]?=some o'->Da o=true->CL o'=true->anc i j=true\/pos i<pos j
 s5:∀(i j:Nat) (o o':Oper),ops[i]?=some o->ops[j]?=some o'->EM o=true->R4 o=true->CL o'=true->pos j<pos i->∃(k:Nat) (ok:Oper),ops[k]?=some ok/\Da ok=true/\pos j<pos k/\pos k<pos i
 s6:∀(i j:Nat) (o o':Oper) (t:Tmp),ops[i]?=some o->ops[j]?=some o'->i≠j->o.dst=some t->o'.dst≠some t/\(t∈reads ops o'->anc j i=true\/anc i j=true)
structure Canon(C:Ctx)(call:DR)(ops:Array Oper)(anc:Nat->Nat->Bool)(ord pos:Nat->Nat)(fr0:Fr)(h0:H)(v:Nat->V)(Hh:Nat->H)(F:Nat->Fr):Prop where
 h0:Hh 0=h0
 f0:F 0=fr0
 fn:∀q,q<=ops.size->(F q).n=fr0.n
 fget:∀q,q<ops.size->∀(o:Oper),ops[ord q]?=some o->∀t,(F (q+1)).get t=if o.dst=some t then v (ord q)else(F q).get t
 dst:∀(i:Nat) (o:Oper) (t:Tmp),ops[i]?=some o->o.dst=some t->t<fr0.n
 step:∀(i:Nat) (o:Oper),ops[i]?=some o->
  (Bf (F (pos i)) ops o=false/\v i=.tup []/\Hh (pos i+1)=Hh (pos i))\/
  (Bf (F (pos i)) ops o=true/\
   ((EM o=true/\G3 C (F (pos i)) (Hh (pos i)) o=some (.val (v i) (Hh (pos i)))/\Hh (pos i+1)=Hh (pos i))\/
    (CL o=true/\∃ob f,iC C (F (pos i)) o=some (ob,f)/\v i=f (Hh (pos i)).nx/\Hh (pos i+1)=(Hh (pos i)).push ob)\/
    (Da o=true/\Eu C call (F (pos i)) (Hh (pos i)) o=some (v i,Hh (pos i+1)))))
 stable:∀(i j:Nat) (o oj:Oper),ops[i]?=some o->ops[j]?=some oj->Da o=true->EM oj=true->R4 oj=true->Bf (F (pos j)) ops oj=true->pos j<pos i->anc i j=false->
  G3 C (F (pos j)) (Hh (pos i+1)) oj=some (.val (v j) (Hh (pos i+1)))
theorem kinds(o:Oper):EM o=true\/CL o=true\/Da o=true:=by
 unfold Da;cases EM o<;>cases CL o<;>simp
theorem Kl{o:Oper}(h:EM o=true):CL o=false:=by
 unfold EM at h;unfold CL;split at h<;>simp_all
theorem Tz{o:Oper}(h:Da o=true):EM o=false/\CL o=false:=by
 unfold Da at h;simpa using h
section
variable {C:Ctx}{P:Program}{call:DR}{ops:Array Oper}{anc:Nat->Nat->Bool}{ord pos:Nat->Nat}{sc:Nat->Option Nat}{fr0:Fr}{h0:H}{v:Nat->V}{Hh:Nat->H}{F:Nat->Fr}
theorem Fw(st:Stat ops anc ord pos sc)(l:Canon C call ops anc ord pos fr0 h0 v Hh F){k:Nat}{o:Oper}{t:Tmp}(c:ops[k]?=some o)(f:o.dst=some t):
  ∀q,q<=ops.size->pos k<q->(F q).get t=v k
 |0,_,h=>by omega
 |q+1,r,h=>by
  have b:q<ops.size:=ae
  obtain⟨j,n⟩:=st.ordp q b;rw[l.fget q b (ops[ord q]) (by simp[j]) t];have g:=(zg.1 c).1;by_cases e:pos k=q
  ·have d:ord q=k:=by rw[<-e];exact(st.posp k g).2
   have m:ops[ord q]=o:=by have:=(zg.1 c).2;simp only[d];exact this
   rw[m,wd f,d]
  ·have i:ord q≠k:=fun d=>e (by rw[<-d,n])
   have:=(st.s6 k (ord q) o (ops[ord q]) t c (by simp[j]) (Ne.symm i) f).1;rw[wc this];exact Fw st l c f q ae ae
theorem Fz(st:Stat ops anc ord pos sc)(c:Canon C call ops anc ord pos fr0 h0 v Hh F){t:Tmp}:
  ∀q,q<=ops.size->(∀k o,ops[k]?=some o->o.dst=some t->¬pos k<q)->(F q).get t=fr0.get t
 |0,_,_=>by rw[c.f0]
 |q+1,i,h=>by
  have b:q<ops.size:=ae
  obtain⟨e,j⟩:=st.ordp q b;rw[c.fget q b (ops[ord q]) (by simp[e]) t,wc]
  ·exact Fz st c q ae fun k o g d f=>h k o g d ae
  ·intro d;exact h (ord q) _ (by simp[e]) d ae
theorem AcW(st:Stat ops anc ord pos sc)(f:Canon C call ops anc ord pos fr0 h0 v Hh F){i k:Nat}(h:sc i=some k):v i=v k:=by
 obtain⟨o,ok,t,e,q,b,m,r,n,l⟩:=st.q1 i k h;have d:=(zg.1 e).1;have j:=Fw st f q n (pos i) (Nat.le_of_lt (st.posp i d).1)<|st.apos i k l;have g:Bf (F<|pos i) ops o=true:=by unfold Bf;rw[m]
 have c:EM o=true:=by unfold EM;rcases b with b|b<;>rw[b]
 rcases f.step i o e with⟨u,_⟩|⟨_,⟨_,u,_⟩|⟨u,_⟩|⟨u,_⟩⟩
 ·rw[g]at u;cases u
 ·have:G3 C (F<|pos i) (Hh<|pos i) o=some (.val ((F<|pos i).get t)<|Hh<|pos i):=by
   rw[Dk];unfold Hi;rcases b with b|b<;>simp only[b,ev,BU]
  rw[this,j]at u;simp only[ze,OR.val.injEq]at u;exact u.1.symm
 ·rw[Kl c]at u;cases u
 ·rw[(Tz u).1]at c;cases c
structure Inv(C:Ctx)(ops:Array Oper)(pos:Nat->Nat)(sc:Nat->Option Nat)(fr0:Fr)(v:Nat->V)(Hh:Nat->H)(F:Nat->Fr)(p0:Pl)(h0:H)(w0:World)(df:List Deferred)
  (S:Nat->Prop) (m:Nat) (fl:Nat->Nat) (p:Pl) (a:Act) (w:World):Prop where
 ext:Ext p0 h0 w0 p (Hh m) w
 gl:Gl C p
 mn:m<=ops.size
 mh:∀(k:Nat) (o:Oper),ops[k]?=some o->Da o=true->(S k↔pos k<m)
 ma:∀(k:Nat) (o:Oper),ops[k]?=some o->CL o=true->pos k<m->S k
 sz:a.tmps.size=fr0.n
 df:a.defers=df
 slot:∀t,(∀(i:Nat) (o:Oper),S i->ops[i]?=some o->o.dst≠some t)->Ad p (fr0.get t) (a.tmps.getD t undef)
 slotw:∀(i:Nat) (o:Oper) (t:Tmp),S i->ops[i]?=some o->o.dst=some t->((CL o=true\/(sc i).isSome=true)->Bf (F (pos i)) ops o=true->pos i<m)->Ad p (v i) (a.tmps.getD t undef)
 flt:∀(i:Nat) (o:Oper),S i->ops[i]?=some o->CL o=true->Bf (F (pos i)) ops o=true->m<=pos i->
  ∃n x ob f v',iC C (F (pos i)) o=some (ob,f)/\w.heap[fl i]?=some x/\w0.heap.size<=fl i/\¬Im p (Hh m) (fl i)/\Mp p n ob x/\
   (∀(q:Pl) b,q[b]?=some (fl i,n)->Ad q (f b) v')/\(∀t,o.dst=some t->a.tmps.getD t undef=v')
 inj:∀(i j:Nat) (o o':Oper),S i->S j->ops[i]?=some o->ops[j]?=some o'->CL o=true->CL o'=true->Bf (F (pos i)) ops o=true->Bf (F (pos j)) ops o'=true->
  m<=pos i->m<=pos j->fl i=fl j->i=j
structure NJ(ops:Array Oper)(pos:Nat->Nat)(sc:Nat->Option Nat)(S:Nat->Prop)(m:Nat)(a:Act):Prop where
 eq:∀(i k:Nat) (o ok:Oper) (t tk:Tmp),S i->ops[i]?=some o->sc i=some k->ops[k]?=some ok->o.dst=some t->ok.dst=some tk->m<=pos i->a.tmps.getD t undef=a.tmps.getD tk undef/\S k
theorem Inv.adv(st:Stat ops anc ord pos sc)(cn:Canon C call ops anc ord pos fr0 h0 v Hh F){p0:Pl}{w0:World}{df:List Deferred}{S:Nat->Prop}{fl:Nat->Nat}{a:Act}{w:World}:
  ∀(d m:Nat) {p:Pl},Inv C ops pos sc fr0 v Hh F p0 h0 w0 df S m fl p a w->NJ ops pos sc S m a->m+d<=ops.size->
  (∀q,m<=q->q<m+d->∀(o:Oper),ops[ord q]?=some o->Da o=false/\(CL o=true->S (ord q)))->
  ∃p',Inv C ops pos sc fr0 v Hh F p0 h0 w0 df S (m+d) fl p' a w
 |0,m,p,g,_,_,_=>⟨p,g⟩
 |d+1,m,p,g,R,hn,hq=>by
  have hm:m<ops.size:=ae
  obtain⟨g1,Q⟩:=st.ordp m hm;obtain⟨Z,hj⟩:∃Z,ops[ord m]?=some Z:=⟨ops[ord m],by simp[g1]⟩;obtain⟨q1,q2⟩:=hq m (yi _) ae _ hj;have one:∃p',Inv C ops pos sc fr0 v Hh F p0 h0 w0 df S (m+1) fl p' a w:=by
   have U:∀(k:Nat) (o:Oper),ops[k]?=some o->Da o=true->(S k↔pos k<m+1):=by
    intro k o s hv;rw[g.mh k o s hv];constructor
    ·intro h;omega
    ·intro h;by_cases e:pos k=m
     ·have G:=(zg.1 s).1;have y:ord m=k:=by rw[<-e];exact(st.posp k G).2
      subst y;rw[hj]at s;cases s;simp[q1]at hv
     ·omega
   have hma:∀(k:Nat) (o:Oper),ops[k]?=some o->CL o=true->pos k<m+1->S k:=by
    intro k o s z hlt;by_cases e:pos k=m
    ·have G:=(zg.1 s).1;have y:ord m=k:=by rw[<-e];exact(st.posp k G).2
     subst y;rw[hj]at s;cases s;exact q2 z
    ·exact g.ma k o s z ae
   have same:Hh (m+1)=Hh m->(CL Z=true->Bf (F<|pos<|ord m) ops Z=false)->(Bf (F<|pos<|ord m) ops Z=false->v (ord m)=.tup [])->
     Inv C ops pos sc fr0 v Hh F p0 h0 w0 df S (m+1) fl p a w:=by
    intro hh z _;refine⟨by rw[hh];exact g.ext,g.gl,by omega,U,hma,g.sz,g.df,g.slot,fun i o t u c L hc=>?_,fun i o u c l r J=>?_,fun i j o o' u E c D l K r I J Y he=>?_⟩
    ·by_cases X:(sc i).isSome=true/\pos i=m
     ·obtain⟨k,s⟩:=Option.isSome_iff_exists.1 X.1;obtain⟨o2,ok,tk,N,h2,h3,h4,h5,h6,h7⟩:=st.q1 i k s;rw[c]at N;cases N;obtain⟨e1,y⟩:=R.eq i k o ok t tk u c s h2 L h6 ae;rw[AcW st cn s,e1];have:=st.apos _ _ h7;exact g.slotw k ok tk y h2 h6 fun _ _=>by omega
     ·refine g.slotw i o t u c L fun l r=>?_
      have N:=hc l r;by_cases e:pos i=m
      ·have B:=(zg.1 c).1;have y:ord m=i:=by rw[<-e];exact(st.posp i B).2
       subst y;rw[hj]at c;cases c;rcases l with l|l
       ·rw[z l]at r;cases r
       ·exact wh ⟨l,e⟩ X
      ·omega
    ·obtain⟨n,x,ob,f,v',k1,k2,k3,k4,k5⟩:=g.flt i o u c l r ae;exact⟨n,x,ob,f,v',k1,k2,k3,by rw[hh];exact k4,k5⟩
    ·exact g.inj i j o o' u E c D l K r I ae ae he
   rcases cn.step (ord m) _ hj with⟨u1,u2,M⟩|⟨u1,⟨u2,M,O⟩|⟨u2,ob,f,M,O,u5⟩|⟨u2,M⟩⟩
   ·rw[Q]at M;exact⟨p,same M (fun _=>u1)<|fun _=>u2⟩
   ·rw[Q]at O;exact⟨p,same O (fun h=>by rw[Kl u2]at h;cases h)<|fun h=>by rw[u1]at h;cases h⟩
   ·
    obtain⟨n,x,W,f',v',k1,k2,k3,k4,k5,k6,k7⟩:=g.flt (ord m) _ (q2 u2) hj u2 u1 ae;rw[M]at k1;cases k1;rw[Q]at O u5;have hx:=g.ext.jF k2 k5 k4 k3;rw[<-u5]at hx;have A:(p++[(fl<|ord m,n)])[(Hh m).nx]?=some (fl<|ord m,n):=by rw[<-g.ext.rel.len];simp
    have hv:Ad (p++[(fl<|ord m,n)]) (v<|ord m) v':=by rw[O];exact k6 _ _ A
    refine⟨p++[(fl<|ord m,n)],hx,?_,by omega,U,hma,g.sz,g.df,fun t L=>(g.slot t L).mono _,fun i o t u c L hc=>?_,fun i o u c l r J=>?_,fun i j o o' u E c D l K r I J Y he=>?_⟩
    ·exact Gp.app g.gl _
    ·by_cases e:i=ord m
     ·subst e;rw[hj]at c;cases c;rw[k7 t L];exact hv
     ·refine(g.slotw i o t u c L fun l r=>?_).mono _;have N:=hc l r;have B:=(zg.1 c).1;have:pos i≠m:=fun y=>e (by rw[<-y];exact(st.posp i B).2.symm)
      omega
    ·obtain⟨n',x',W,f',v'',l1,l2,l3,l4,l5,l6,l7⟩:=g.flt i o u c l r ae;refine⟨n',x',W,f',v'',l1,l2,l3,?_,l5.mono _,l6,l7⟩;rintro⟨b,ob2,n2,m1,m2⟩;rw[u5,H.Ce]at m1;by_cases e:b=(Hh m).nx
     ·subst e;rw[A]at m2;have:fl (ord m)=fl i:=(Prod.mk.inj<|Option.some.inj m2).1;have:=g.inj (ord m) i _ o (q2 u2) u hj c u2 l u1 r ae ae this;subst this;omega
     ·rw[wc e]at m1;have hb:=g.ext.rel.lt m1;rw[zy<|by rw[g.ext.rel.len];exact hb]at m2;exact l4 ⟨b,ob2,n2,m1,m2⟩
    ·exact g.inj i j o o' u E c D l K r I ae ae he
   ·rw[q1]at u2;cases u2
  obtain⟨p',c⟩:=one;obtain⟨p'',hi''⟩:=Inv.adv st cn d (m+1) c ⟨fun i k o ok t tk g1 Q g3 g4 g5 g6 g7=>R.eq i k o ok t tk g1 Q g3 g4 g5 g6 ae⟩ ae (fun q N h2=>hq q ae ae);exact⟨p'',by rw[show m+(d+1)=m+1+d from by omega];exact hi''⟩
end
end Go.Det
