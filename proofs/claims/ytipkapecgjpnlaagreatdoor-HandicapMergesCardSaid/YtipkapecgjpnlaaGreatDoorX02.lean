import Derived.Test.YtipkapecgjpnlaaGreatDoorX01
import Derived.Laws.IdiomStrings
import Derived.Lib.UnsafeStr
import Derived.Lib.Builder
import Derived.RangeFuncRecord
import Derived.LoopNIn
import Derived.OrdersIn
import Derived.RangeFuncLeaves
/- A part of a proof; no law is stated here. -/
noncomputable section
open Array renaming getElem?_eq_some_iff -> zc, getD_eq_getD_getElem? -> zk, getElem?_toList -> zu, getElem?_setIfInBounds_ne -> z8
open Go.Result renaming andThen_ok -> zd
open Bool renaming and_eq_true -> ze, or_eq_true -> zm, not_eq_true' -> zw, false_eq_true -> zz
open Go.Sem renaming run_bind -> zf, run_pure -> zp, run -> ye
open Option.some renaming injEq -> zg
open Nat renaming blt -> zh, beq -> zo, blt_eq -> zt, ble -> z7, ble_eq -> yo, lt_or_ge -> yq
open Option renaming map_eq_some_iff -> zi, isSome_iff_exists -> yf
open List renaming all_eq_true -> zj, mem_singleton -> zn, range -> z6, getD_eq_getElem?_getD -> yd, any_eq_true -> yg, mem_range -> yk, mem_cons -> yn
open Go.Oper renaming semAt_eq -> zl, uponIn_value -> zr
open Go.Det.Ext renaming refl -> zq
open Go.Deferred renaming ofValue -> zx
open Go.Region renaming wanted -> zy, binds -> yc, ready -> yh
open Go.Fence renaming wide -> yb
open Go.Question renaming forced -> yi
open Go.Op renaming operands -> yj
open Prod.mk renaming injEq -> ym
open Go.Act renaming put -> yp
namespace Go.Det
section
variable {T:BV}{P:Program}{p:Pl}{h:H}{w:World}
def HD(T:BV)(h:H)(t:TypeId)(x:V):Option (V×H):=
 match T.und t,x with
 |some (.map _ _),.nilm=>some (.ptr h.nx 0,h.push<|.miter none 0 [] 0)
 |some (.map _ _),.map b=>match h.get b with
  |some (.map _ c)=>some (.ptr h.nx 0,h.push<|.miter (some b) c [] c)
  |_=>none
 |_,_=>Sb T h t x
theorem Vv(i:T.Ok P)(d:R p h w){t:TypeId}{x:V}{x':Value}(k:Ac p x x'){v:V}{h':H}(c:HD T h t x=some (v,h')):
  ∃v' p' w',(Instr.range t x').run P w=.ok v' w'/\Ac p' v v'/\Ext p h w p' h' w':=by
 unfold HD at c;split at c
 case h_1=>
  rename_i f;cases c;subst k;have g:=Ext.push (n:=0) d (o:=.miter none 0 [] 0) (x:=.mapIter none 0 #[] 0) rfl;refine⟨.pointer<|some ⟨w.heap.size,0,none⟩,_,_,?_,?_,g⟩
  ·unfold Instr.range;simp only[zf,Ay i f,zd,zp,run_newObj]
  ·exact⟨w.heap.size,0,by rw[<-d.len];simp,rfl⟩
 case h_2=>
  rename_i b f;split at c
  case h_2=>cases c
  rename_i es e q;cases c;obtain⟨r,n,j,rfl⟩:=k;obtain⟨r',n',o,h1,h2,l,h3,h4⟩:=d.obj _ _ q;rw[j]at h1;cases h1;subst h3;have g:=Ext.push (n:=0) d (o:=.miter (some b) e [] e) (x:=.mapIter (some r) e #[] e) ⟨r,n,j,rfl⟩;refine⟨.pointer<|some ⟨w.heap.size,0,none⟩,_,_,?_,?_,g⟩
  ·unfold Instr.range;simp only[zf,Ay i f,zd,zp,getObj,ye,h2,run_newObj]
  ·exact⟨w.heap.size,0,by rw[<-d.len];simp,rfl⟩
 grind [aS]
def Sg(h:H)(d:V)(c:Bool):Option (List<|V×H):=
 match d,c with
 | .ptr b 0,false=>
  match h.get b with
  |some (.miter none _ _ _)=>some [(.tup [.bool false],h)]
  |some (.miter (some m) since seen last)=>
   match h.get m with
   |some (.map es f)=>
    bif es.all (fun e=>zh e.2.2 since)&&z7 since last then
     match es.filter (fun e=> !seen.contains e.2.2)with
     |[]=>some [(.tup [.bool false],h)]
     |left=>some (left.map fun e=>(.tup [.bool true,e.1,e.2.1],h.put b<|.miter (some m) since (seen++[e.2.2]) f))
    else none
   |_=>none
  |_=>none
 |_,_=>none
theorem Dw.get{es:List (V×V×Nat)}{l:List MapEntry}(c:Dw p es l):∀ {i:Nat} {e:MapEntry},l[i]?=some e->∃k v,es[i]?=some (k,v,e.born)/\Ac p k e.key/\Ac p v e.val:=by
 induction c with
 |nil=>simp
 |@cons k v b es j l f g n _ d=>
  grind
theorem Dw.filter{es:List (V×V×Nat)}{l:List MapEntry}(f:Dw p es l)(q:Nat->Bool):Dw p (es.filter fun e=>q e.2.2) (l.filter fun e=>q e.born):=by
 induction f with
 |nil=>exact .nil
 |@cons k v b es j l g i d _ c=>
  simp only[List.filter_cons,d];cases q b with
  |false=>exact c
  |true=>exact .cons g i d c
theorem Dw.all{es:List (V×V×Nat)}{l:List MapEntry}(c:Dw p es l)(q:Nat->Bool):(es.all fun e=>q e.2.2)=l.all fun e=>q e.born:=by
 induction c with
 |nil=>rfl
 |@cons k v b es i l f g j _ d=>grind
theorem Dw.find{es:List (V×V×Nat)}{l:List MapEntry}(d:Dw p es l)(q:Nat->Bool){e:V×V×Nat}(o:es.find? (fun e=>q e.2.2)=some e):∃c,l.find? (fun e=>q e.born)=some c/\Ac p e.1 c.key/\Ac p e.2.1 c.val:=by
 induction d with
 |nil=>grind
 |@cons k v b es j l g i n _ f=>
  grind
theorem gO(n:Nat)(b:0<n):∃i d,(choose<|.mapNext n).run P w=.ok i { w with drawn:=d }/\i<n/\w.drawn<=d:=by
 rw[run_choose];by_cases c:n<=1
 ·refine⟨0,w.drawn,?_,b,Nat.le_refl _⟩;simp[yi,c]
 ·refine⟨w.tape w.drawn (.mapNext n) % n,w.drawn+1,?_,Nat.mod_lt _ b,Nat.le_succ _⟩;grind [yi,Question.cut]
theorem Zr(j:R p h w){K:V}{A:Value}{f:Bool}{t:TypeId}(U:Ac p K A){l:List (V×H)}(g:Sg h K f=some l):
  ∃v h' v' p' w',(v,h')∈l/\(Instr.next A f t).run P w=.ok v' w'/\Ac p' v v'/\Ext p h w p' h' w':=by
 unfold Sg at g;split at g
 case h_2=>cases g
 rename_i b;simp only[Ac]at U;obtain⟨r,n,G,rfl⟩:=U;split at g
 case h_3=>cases g
 case h_1=>
  rename_i since seen last D;cases g;obtain⟨r',n',x,o,E,B⟩:=j.obj _ _ D;rw[G]at o;cases o;simp only[JM]at B;subst B;refine⟨_,_,.tuple #[.bool false],p,w,zn.2 rfl,?_,by simp[Ac],zq j⟩;unfold Instr.next;simp only[zf,getObj,ye,E,zd];rfl
 case h_2=>
  rename_i m since seen last D;split at g
  case h_2=>cases g
  rename_i es I Y;cases J:(es.all (fun e=>zh e.2.2 since)&&z7 since last)with
  |false=>grind
  |true=>
   simp only[J,we]at g;simp only[ze,yo]at J;obtain⟨W,c2⟩:=J;obtain⟨r',n',x,o,E,B⟩:=j.obj _ _ D;rw[G]at o;cases o;obtain⟨rm,nm,hpm,rfl⟩:=B;obtain⟨r2,n2,x2,k1,k2,l2,k3,k4⟩:=j.obj _ _ Y;rw[hpm]at k1;cases k1;subst k3;rw[k4.all fun b=>zh b since]at W;have M:∀e∈l2.toList,e.born<since:=by
    intro e X;have:=zj.1 W e X;simp_all
   have hno:(!seen.toArray.isEmpty&& !l2.isEmpty&&l2.all (·.born>=last))=false:=by
    cases hl:l2.toList with
    |nil=>
     simp_all
    |cons e0 N=>
     grind
   have y:(l2.filter fun e=> !seen.toArray.contains e.born).toList=l2.toList.filter fun e=> !seen.contains e.born:=by
    simp
   have c:=k4.filter fun b=> !seen.contains b
   have Z:((l2.filter fun e=> !seen.toArray.contains e.born).filter (·.born<since))=l2.filter fun e=> !seen.toArray.contains e.born:=by
    grind [Array.toList_inj,Array.toList_filter,List.filter_eq_self]
   have e2:((l2.filter fun e=> !seen.toArray.contains e.born).filter (·.born>=since))= #[]:=by
    apply Array.toList_inj.1;grind [List.filter_eq_nil_iff]
   unfold Instr.next;simp only[zf,getObj,ye,E,zd,k2];rw[wc ah];simp only[Z,e2,Array.append_empty];generalize hL:(l2.filter fun e=> !seen.toArray.contains e.born)=L at*;rw[<-y]at c;have Q:=c.length;split at g
   case h_1=>
    cases g;have hL0:L= #[]:=by
     grind
    refine⟨_,_,.tuple #[.bool false],p,w,zn.2 rfl,?_,by simp[Ac],zq j⟩;simp_all [yi]
   case h_2=>
    have s:0<L.size:=by
     grind
    have u:L.isEmpty=false:=ah
    simp only[u,zz,vf,Array.empty_append,Array.size_map];obtain⟨i,d,g1,O,g4⟩:=gO (P:=P) (w:=w) L.size s;simp only[zf,g1,zd];have hi:L[i]?=some L[i]:=by simp[O]
    obtain⟨k,v,q1,q2,q3⟩:=c.get (i:=i) (e:=L[i]) (by simp[O]);simp only[Array.getElem?_map,hi,Option.map_some,zf];have z:=Ext.drew j d;have q:=Ext.put z.rel D G (o':=.miter (some m) since (seen++[L[i].born]) I) (x':=.mapIter (some rm) since (seen.toArray.push L[i].born) I) ⟨rm,nm,hpm,by simp⟩
     (w':=⟨w.heap.setIfInBounds r<|.mapIter (some rm) since (seen.toArray.push L[i].born) I,w.tape,d,w.os,w.output⟩) rfl rfl rfl rfl
    refine⟨.tup [.bool true,k,v],_,.tuple #[.bool true,L[i].key,L[i].val],p,_,ah,?_,?_,z.trans q⟩
    ·simp[setObj,ye,E]
    simp_all [Ac]
def Rl(h:H)(c:V):Option V:=
 match c with
 | .ptr b 0=>
  match h.get b with
  |some (.miter (some m) _ seen last)=>
   match h.get m with
   |some (.map es d)=>
    bif zo d last then
     match seen.getLast? with
     |some s=>match es.find? (fun e=>zo e.2.2 s)with
      |some e=>some<|.tup [e.1,e.2.1]
      |none=>none
     |none=>none
    else none
   |_=>none
  |_=>none
 |_=>none
theorem ZA(j:R p h w){i:V}{d:Value}(r:Ac p i d){v:V}(c:Rl h i=some v):∃v',(Instr.entry d).run P w=.ok v' w/\Ac p v v':=by
 unfold Rl at c;split at c
 case h_2=>cases c
 simp only[Ac]at r;split at c
 case h_2=>cases c
 rename_i m since seen last k;split at c
 case h_2=>cases c
 rename_i es n l;rw[Bo]at c;by_cases g:n=last
 ·simp only[g,decide_true,we]at c;split at c
  case h_2=>cases c
  rename_i s t;split at c
  case h_2=>cases c
  rename_i e q;cases c;obtain⟨z,n',x,u,y,o⟩:=j.obj _ _ k;simp only[JM]at o;obtain⟨r2,n2,x2,k1,k2,l2,k3,k4⟩:=j.obj _ _ l;obtain⟨e',q1,q2,q3⟩:=k4.find (fun b=>zo b s) q;refine⟨.tuple #[e'.key,e'.val],?_,by simp_all [Ac]⟩;unfold Instr.entry;have f:l2.find? (fun e=>e.born==s)=some e':=by
   rw[<-Array.find?_toList, <-q1];congr 1;funext e
   rw[Bo];rfl
  simp_all [getObj,ye]
 grind
theorem Dw.erase{es:List (V×V×Nat)}{l:List MapEntry}(c:Dw p es l)(i:Nat):Dw p (es.eraseIdx i) (l.eraseIdx i):=by
 induction c generalizing i with
 |nil=>simp;exact .nil
 |@cons k v b es n l e f g j d=>
  cases i with
  |zero=>grind
  |succ i=>simp;exact .cons e f g<|d i
def KJ(T:BV)(h:H)(ts:Array TypeId)(args:List V):Option (V×H):=
 match ts[0]?,args with
 |some f,[.map b,k]=>
  match T.und f with
  |some (.map c _)=>
   match T.und c,h.get b with
   |some d,some (.map es e)=>
    bif IP T c d k then
     match JZ T c k es with
     |some (some (i,_))=>some (.tup [],h.put b<|.map (es.eraseIdx i) e)
     |some none=>some (.tup [],h.put b<|.map es e)
     |none=>none
    else none
   |_,_=>none
  |_=>none
 |_,_=>none
theorem Vq(o:T.Ok P)(s:R p h w){ts:Array TypeId}{t:TypeId}{args:List V}{args':Array Value}(L:Au p args args'.toList){v:V}{h':H}(c:KJ T h ts args=some (v,h')):
  ∃v' p' w',(Builtin.delete_ ts t args').run P w=.ok v' w'/\Ac p' v v'/\Ext p h w p' h' w':=by
 unfold KJ at c;split at c
 case h_2=>cases c
 rename_i mt b k J;obtain⟨Q,N,f,B,A⟩:=L.two;have y:args'[0]?=some Q:=by rw[<-zu,f];rfl
 have u:args'[1]?=some N:=by rw[<-zu,f];rfl
 split at c
 case h_2=>cases c
 rename_i G e M;split at c
 case h_2=>cases c
 rename_i d es q g x;cases E:IP T G d k with
 |false=>grind
 |true=>
  simp only[E,we]at c;rcases LO (es:=es) s B (by simp only[entries,x])with⟨rfl,_⟩|⟨r,l,X,b',n,I,rfl,D,W,O,i⟩
  ·simp[Ac]at B
  ·cases I;unfold Builtin.delete_;simp only[J,y,u,zf,Ay o M,zd,getObj,ye,O,Jn o g A E];split at c
   case h_3=>cases c
   case h_1=>
    rename_i j v0 z;cases c;obtain⟨K,U,v1,rfl,Y,en,k4,k5⟩:=run_findKey (P:=P) (w:=w) o A g i z;refine⟨.tuple #[],p,{ w with heap:=w.heap.setIfInBounds r (.map (l.eraseIdxIfInBounds j) q) },?_,by simp[Ac],Ext.put s x D (o':=.map (es.eraseIdx j) q) ⟨_,rfl,?_⟩ rfl rfl rfl rfl⟩
    ·simp_all [setObj,ye]
    ·have:=i.erase j;simp_all
   case h_2=>
    rename_i z;cases c;obtain⟨K,U,Z⟩:=run_findKey (P:=P) (w:=w) o A g i z;refine⟨.tuple #[],p,{ w with heap:=w.heap.setIfInBounds r (.map l q) },?_,by simp[Ac],Ext.put s x D (o':=.map es q) ⟨_,rfl,i⟩ rfl rfl rfl rfl⟩;simp_all [setObj,ye]
def FT(T:BV)(h:H)(ts:Array TypeId)(args:List V):Option (V×H):=
 match ts[0]?,args with
 |some t,[x]=>
  match T.und t,x with
  |some (.map _ _),.nilm=>some (.tup [],h)
  |some (.map _ _),.map b=>match h.get b with
   |some (.map _ c)=>some (.tup [],h.put b<|.map [] c)
   |_=>none
  |some (.slice _),.nils=>some (.tup [],h)
  |some (.slice _),.esl=>some (.tup [],h)
  |some (.slice _),.es0=>some (.tup [],h)
  |some (.slice e),.sl b off len _ _=>
   bif zo len 0 then some (.tup [],h)
   else match T.inf e with
    |some i=>bif zh 0 i.zero.length then
      (wr h b off<|E7 i.zero<|len*i.zero.length).map fun h'=>(.tup [],h')
     else none
    |none=>none
  |_,_=>none
 |_,_=>none
theorem Z5(j:T.Ok P)(g:R p h w){ts:Array TypeId}{t:TypeId}{args:List V}{args':Array Value}(J:Au p args args'.toList){v:V}{h':H}(d:FT T h ts args=some (v,h')):
  ∃v' p' w',(Builtin.clear_ ts t args').run P w=.ok v' w'/\Ac p' v v'/\Ext p h w p' h' w':=by
 unfold FT at d;split at d
 case h_2=>cases d
 rename_i t0 x G;obtain⟨x',k,q⟩:=J.one;have A:args'[0]?=some x':=by rw[<-zu,k];rfl
 unfold Builtin.clear_;simp only[G,A];split at d
 case h_7=>cases d
 case h_1=>
  rename_i f;cases d;subst q;exact⟨.tuple #[],p,w,by simp[Ay j f],by simp[Ac],zq g⟩
 case h_2=>
  rename_i b f;split at d
  case h_2=>cases d
  rename_i es D B;cases d;obtain⟨r,n,u,rfl⟩:=q;obtain⟨r',n',o,y,h2,l,h3,h4⟩:=g.obj _ _ B;rw[u]at y;cases y;subst h3;refine⟨.tuple #[],p,{ w with heap:=w.heap.setIfInBounds r (.map #[] D) },?_,by simp[Ac],Ext.put g B u (o':=.map [] D) ⟨_,rfl,.nil⟩ rfl rfl rfl rfl⟩;simp[zf,Ay j f,getObj,setObj,ye,h2]
 case h_3=>
  rename_i e f;cases d;subst q;exact⟨.tuple #[],p,w,by simp[Ay j f],by simp[Ac],zq g⟩
 case h_4=>
  rename_i e f;cases d;obtain⟨_,_,rfl⟩:=q;exact⟨.tuple #[],p,w,by simp[Ay j f],by simp[Ac],zq g⟩
 case h_5=>
  rename_i e f;cases d;obtain⟨_,rfl⟩:=q;exact⟨.tuple #[],p,w,by simp[Ay j f],by simp[Ac],zq g⟩
 case h_6=>
  rename_i e b off len cap o f;obtain⟨r,n,c,u,rfl,_⟩:=q;rw[Bo]at d;by_cases h0:len=0
  ·simp only[h0,decide_true,we,zg,ym]at d;obtain⟨rfl,rfl⟩:=d;subst h0;exact⟨.tuple #[],p,w,by simp[Ay j f],by simp[Ac],zq g⟩
  ·simp only[h0,decide_false,wg]at d;split at d
   case h_2=>cases d
   rename_i i M;cases K:zh 0 i.zero.length with
   |false=>grind
   |true=>
    simp only[K,we,zi]at d;obtain⟨y,L,E⟩:=d;cases E;obtain⟨z,hzz,hzr⟩:=DY j M;have I:=(hzr p).length;have s:=Jp (hzr p) (by simp_all)<|len*i.zero.length;obtain⟨r',m,w',g1,g2,g3⟩:=RA (P:=P) g s L;rw[u]at g1;cases g1;refine⟨.tuple #[],p,w',?_,by simp[Ac],g3⟩;have:Builtin.zeroCells z.cells len=(Array.range<|len*i.zero.length).map (fun i=>z.cells[i % z.cells.size]!):=by
     grind [Builtin.zeroCells]
    simp only[zf,Ay j f,zd,hzz,this,g2,zp]
def yP(T:BV)(ts:Array TypeId)(args:List V):Option V:=
 match ts[0]?,args with
 |some t,[x]=>
  match T.und t,x with
  |some (.slice _),.sl _ _ _ cap 0=>some<|i64 cap
  |some (.slice _),.nils=>some<|i64 0
  |_,_=>none
 |_,_=>none
theorem rK(k:T.Ok P){ts:Array TypeId}{t:TypeId}{args:List V}{args':Array Value}(q:Au p args args'.toList){v:V}(d:yP T ts args=some v):
  ∃v',(Builtin.cap_ ts t args').run P w=.ok v' w/\Ac p v v':=by
 unfold yP at d;split at d
 case h_2=>cases d
 rename_i t0 x o;obtain⟨x',f,j⟩:=q.one;have i:args'[0]?=some x':=by rw[<-zu,f];rfl
 unfold Builtin.cap_;simp only[o,i];split at d
 case h_3=>cases d
 case h_1=>
  rename_i e b off len cap g;cases d;simp only[Ac]at j;obtain⟨r,n,c,z,rfl,u,y,l,s⟩:=j;have:=l trivial;subst this;exact⟨_,by simp[zf,Ay k g];rfl,by rfl⟩
 case h_2=>
  rename_i e g;cases d;subst j;exact⟨_,by simp[zf,Ay k g];rfl,by rfl⟩
def SN(T:BV)(h:H)(src dst:TypeId)(x:V):Option (V×H):=
 match T.und src,T.und dst,x with
 |some .string,some<|.slice e,.str s=>
  match T.und e with
  |some (.int .u8)=>some (.sl h.nx 0 s.length s.length 1,h.push<|.cells (s.map fun b=>.int .u8<|.ofNat b.toNat) e (0,0))
  |_=>none
 |_,_,_=>none
theorem aN(i:T.Ok P)(l:R p h w){src dst:TypeId}{x:V}{x':Value}(u:Ac p x x'){v:V}{h':H}(f:SN T h src dst x=some (v,h')):
  ∃v' p' w',(convert src dst x').run P w=.ok v' w'/\Ac p' v v'/\Ext p h w p' h' w':=by
 unfold SN at f;split at f
 case h_2=>cases f
 rename_i e s r t;split at f
 case h_2=>cases f
 rename_i y;cases f;subst u;have d:=run_bytes_of_string (P:=P) w src dst e (bytesOf s) (i.und _ _ r) (i.und _ _ t)<|i.und _ _ y;generalize z:grownCap w (bytesOf s).size 0 e=c at d;have k:s.length<=c:=by
  grind [BU,grownCap,Question.cut]
 have j:(bytesRow (bytesOf s) c).size=c:=by
  grind [bytesRow,bytesOf,BU]
 have g:=Ext.drew l<|w.drawn+1;have q:=Ext.push (n:=c) g.rel (o:=.cells (s.map fun b=>.int .u8<|.ofNat b.toNat) e (0,0)) (x:=.cells (bytesRow (bytesOf s) c) e ((bytesRow (bytesOf s) c).size,(bytesRow (bytesOf s) c).size+1)) (by
  refine⟨_,_,rfl,j,by grind,?_,ae⟩;refine Au.toC<|Au.mk ?_ ?_
  ·grind
  ·grind [bytesRow,bytesOf,Ac])
 refine⟨_,_,_,d,?_,g.trans q⟩;refine⟨w.heap.size,c,c,by rw[<-l.len];simp,by rfl,Nat.le_refl _,k,ae,ae⟩
def Ef(T:BV)(h:H)(s d:TypeId)(x:V):Option V:=
 match T.und s,T.und d,x with
 |some (.pointer _),some .unsafePointer,.nilp=>some .nilp
 |some .unsafePointer,some<|.pointer _,.nilp=>some .nilp
 |some (.pointer t),some .unsafePointer,.ptr b off=>
  match T.inf t,h.get b with
  |some i,some (.cells cs _ _)=>bif zh 0 i.size&&zh off cs.length then some (.ptr b off)else none
  |_,_=>none
 |some .unsafePointer,some<|.pointer u,.ptr b off=>
  match T.inf u,h.get b with
  |some i,some (.cells cs e _)=>bif zh 0 i.size&&z7 i.size cs.length&&zo e u&&zo off 0 then some (.ptr b 0)else none
  |_,_=>none
 |_,_,_=>none
theorem UY(e:R p h w){b:Nat}{cs:List V}{t:TypeId}{fz:Nat×Nat}(d:h.get b=some (.cells cs t fz)):
  ∃r n,p[b]?=some (r,n)/\w.shape? r=some (t,n)/\cs.length<=n:=by
 obtain⟨r,n,x,g,i,c,fz',rfl,f,j,_⟩:=e.obj b _ d;grind [World.shape?]
theorem YV{u:TypeId}(c:P.cellsOf u≠0)(k:Nat)(d:1<=k):liesAt P P.depth u k 0 u 1=true:=by
 have b:P.depth=(2*(P.types.size+Made.depth)+1)+1:=rfl;rw[b];simp only[liesAt,zm];rw[b];simp[rowAt,c,d,sameLayout]
theorem oC(f:T.Ok P)(D:R p h w){s d:TypeId}{x:V}{x':Value}(o:Ac p x x'){v:V}(c:Ef T h s d x=some v):
  ∃v',(convert s d x').run P w=.ok v' w/\Ac p v v':=by
 unfold Ef at c;split at c
 case h_5=>cases c
 case h_1=>
  rename_i g k;subst o;cases c;refine⟨.pointer none,?_,by rfl⟩;simp[convert,Ay f g,Ay f k,Conv.unsafePointer]
 case h_2=>
  rename_i g k;subst o;cases c;refine⟨.pointer none,?_,by rfl⟩;simp[convert,Ay f g,Ay f k,Conv.unsafePointer]
 case h_3=>
  rename_i t b off g k;split at c
  case h_2=>cases c
  rename_i i cs e fz B A;cases l:(zh 0 i.size&&zh off cs.length)with
  |false=>grind
  |true=>
   rw[l]at c;cases c;simp only[ze,zt]at l;obtain⟨j,z,q,E,_⟩:=f.inf t i B;obtain⟨r,n,k1,k2,k3⟩:=UY D A;obtain⟨r',n',q1,rfl⟩:=o;rw[k1]at q1;cases q1;refine⟨_,Lib.run_to_unsafe w ⟨r,off,none⟩ (f.und _ _ g) (f.und _ _ k) q ae k2 ah,?_⟩;simp_all [Ac]
 case h_4=>
  rename_i u b off g k;split at c
  case h_2=>cases c
  rename_i i cs e fz B A;cases l:(zh 0 i.size&&z7 i.size cs.length&&zo e u&&zo off 0)with
  |false=>grind
  |true=>
   rw[l]at c;cases c;simp only[ze,zt,yo,Bo,w5]at l;obtain⟨⟨⟨G,J⟩,rfl⟩,rfl⟩:=l;obtain⟨j,z,q,E,_⟩:=f.inf e i B;obtain⟨r,n,k1,k2,k3⟩:=UY D A;obtain⟨r',n',q1,rfl⟩:=o;rw[k1]at q1;cases q1;have y:P.cellsOf e=i.size:=by grind [Program.cellsOf]
   have I:1<=n/P.cellsOf e:=by rw[y];exact Nat.div_pos ae G
   refine⟨_,Lib.run_from_unsafe w ⟨r,0,none⟩ (f.und _ _ g) (f.und _ _ k) q k2 (YV ae _ I),?_⟩;simp_all [Ac]
def Oh(args:List V):Option V:=
 match args with
 |[.nils]=>some .nilp
 |[.sl b off _ cap _]=>bif zh 0 cap then some (.ptr b off)else none
 |_=>none
theorem YW{ts:Array TypeId}{t:TypeId}{args:List V}{args':Array Value}(g:Au p args args'.toList){v:V}(d:Oh args=some v):
  ∃v',(Builtin.unsafeSliceData_ ts t args').run P w=.ok v' w/\Ac p v v':=by
 unfold Oh at d;split at d
 case h_3=>cases d
 case h_1=>
  cases d;obtain⟨x,i,e⟩:=g.one;have:args'= #[x]:=ah;simp_all [Ac,Lib.run_unsafeSliceData_nil]
 case h_2=>
  rename_i b off len cap o;cases f:zh 0 cap with
  |false=>grind
  |true=>
   rw[f]at d;cases d;rw[zt]at f;obtain⟨x,i,e⟩:=g.one;have:args'= #[x]:=ah;subst this;obtain⟨r,n,c,g1,rfl,g2,g3,_⟩:=e;exact⟨_,Lib.run_unsafeSliceData_row w ts t _ len c ae,by simp_all [Ac]⟩
def Rz:V->Option UInt8
 | .int .u8 (.ofNat n)=>bif zh n 256 then some (UInt8.ofNat n)else none
 |_=>none
def HF:List V->Option Z
 |[]=>some []
 |v::vs=>
  match Rz v,HF vs with
  |some b,some c=>some (b::c)
  |_,_=>none
theorem dK{c:V}{b:UInt8}(h:Rz c=some b):c=.int .u8 (b.toNat:Int):=by
 unfold Rz at h;split at h
 case h_2=>cases h
 rename_i n;cases d:zh n 256 with
 |false=>grind
 |true=>
  rw[zt]at d;have:(UInt8.ofNat n).toNat=n:=by simp;omega
  grind
theorem KO:∀ {cs:List V} {l:Z},HF cs=some l->cs=l.map fun b=>V.int .u8 (b.toNat:Int)
 |[],l,d=>by cases d;rfl
 |c::cs,l,d=>by
  unfold HF at d;split at d
  case h_2=>cases d
  rename_i b tl f e;cases d;rw[dK f,KO e];rfl
def Tg(T:BV)(h:H)(ts:List TypeId)(args:List V):Option (V×H):=
 match ts,args with
 |[c,_],[.ptr b 0,.int .i64<|.ofNat n]=>
  match T.und c,h.get b with
  |some (.pointer e),some (.cells cs d fz)=>
   match T.inf e,HF (cs.take n)with
   |some i,some l=>bif zo i.size 1&&zo e d&&zh 0 n&&z7 n cs.length&&z7 n 9223372036854775807&&z7 fz.2 fz.1 then some (.str l,h.kill b)else none
   |_,_=>none
  |_,_=>none
 |_,_=>none
theorem Ext.gone{w':World}(d:R p h w){b r n:Nat}{o:O}{x':Obj}(k:h.get b=some o)(l:p[b]?=some (r,n))
  (G:w'.heap=w.heap.setIfInBounds r x') (D:w'.os=w.os) (E:w'.output=w.output) (z:w'.tape=w.tape) (Q:∀cs t fz,o=.cells cs t fz->¬Lk n fz) (u:w.drawn<=w'.drawn:=by exact Nat.le_refl _):Ext p h w p (h.kill b) w':=by
 refine⟨(by simp),⟨d.len,fun c q f=>?_,(d.kill b).inj⟩,by simp[G],fun s A M=>?_,fun s N=>?_,D,E,z,fun s A B=>?_,u⟩
 ·rw[H.Dv]at f;by_cases e:c=b
  ·grind
  ·rw[wc e]at f;obtain⟨s,m,y,J,L,K⟩:=d.obj c q f;have i:r≠s:=fun g=>e<|d.inj c b q o s m n f k J<|g▸l
   grind
 ·grind [Im]
 ·grind [H.Dv,Im]
 ·obtain⟨c,m,cs,t,fz,I,j,x⟩:=B;by_cases e:c=b
  ·grind
  ·have i:r≠s:=fun g=>e<|d.inj c b _ o s m n I k j<|g▸l
   refine⟨by grind,.inl ⟨c,m,cs,t,fz,by simp_all,j,x⟩⟩
theorem TH{w:World}{r n:Nat}{c:Array Value}{e:TypeId}{fz:Nat×Nat}(b:w.heap[r]?=some (.cells c e fz))(h0:n≠0):
  ∃fz',(w.freeze ⟨r,0,none⟩ n).heap=w.heap.setIfInBounds r (.cells c e fz'):=by
 refine⟨if fz.1==fz.2 then(0,0+n)else(min fz.1 0,max fz.2<|0+n),?_⟩;simp_all [World.freeze,Ot]
theorem fH(J:T.Ok P)(I:R p h w){ts:Array TypeId}{t:TypeId}{args:List V}{args':Array Value}(W:Au p args args'.toList){v:V}{h':H}(d:Tg T h ts.toList args=some (v,h')):
  ∃v' w',(Builtin.unsafeString_ ts t args').run P w=.ok v' w'/\Ac p v v'/\Ext p h w p h' w':=by
 unfold Tg at d;split at d
 case h_2=>cases d
 rename_i L G b n q;have q:ts= #[L,G]:=ah;subst q;split at d
 case h_2=>cases d
 rename_i e cs X fz Z K;split at d
 case h_2=>cases d
 rename_i i l hi Y;cases M:(zo i.size 1&&zo e X&&zh 0 n&&z7 n cs.length&&z7 n 9223372036854775807&&z7 fz.2 fz.1)with
 |false=>grind
 |true=>
  rw[M]at d;cases d;simp only[ze,zt,yo,Bo,w5]at M;obtain⟨x,y,E,u,Q⟩:=W.two;have:args'= #[x,y]:=ah;subst this;obtain⟨r,m,u,rfl⟩:=u;subst Q;obtain⟨r',m',ob,k1,k2,c,fz',rfl,k4,k5,k6,k7⟩:=I.obj b _ K;rw[u]at k1;cases k1;obtain⟨j,z,j1,j2,_⟩:=J.inf e i hi;have B:P.cellsOf e=1:=by grind [Program.cellsOf]
  have s:=KO Y;have o:l.length=n:=by
   have:=wi List.length s;grind
  have D:w.shape? r=some (e,m):=by grind [World.shape?]
  have g:∀j x,l[j]?=some x->w.cell? ((⟨r,0,none⟩:Addr).add j)=some (.int .u8 x.toNat):=by
   intro j x hx;have U:cs[j]?=some (.int .u8 (x.toNat:Int)):=by
    have:=wi (·[j]?) s;grind
   obtain⟨v,hv,O⟩:=k6.get U rfl;grind [Ac,Addr.LG,World.cell?]
  have k:=Lib.run_unsafeString_row w L G t e (J.und _ _ Z) B r m D l ah ae ae g;obtain⟨N,A⟩:=TH (n:=l.length) k2 ae;refine⟨.string<|bytesOf l,w.freeze ⟨r,0,none⟩ l.length,?_,by rfl,?_⟩
  ·rw[<-o];exact k
  ·have f:(w.freeze ⟨r,0,none⟩ l.length).os=w.os/\(w.freeze ⟨r,0,none⟩ l.length).output=w.output/\(w.freeze ⟨r,0,none⟩ l.length).tape=w.tape/\(w.freeze ⟨r,0,none⟩ l.length).drawn=w.drawn:=by
    unfold World.freeze;grind
   exact Ext.gone I K u A f.1 f.2.1 f.2.2.1 (by
    grind [Lk])<|Nat.le_of_eq f.2.2.2.symm
end
mutual
def cv:Value->Option V
 | .bool b=>some<|.bool b
 | .int k n=>some<|.int k n
 | .string s=>some<|.str s.data.toList
 | .pointer none=>some .nilp
 | .slice none 0 0=>some .nils
 | .map none=>some .nilm
 | .nilFunc=>some .nilf
 | .nilIface=>some .nili
 | .func f ⟨[]⟩ ⟨[]⟩=>some<|.fn f [] []
 | .agg ⟨cs⟩=>(tI cs).map .agg
 | .tuple ⟨cs⟩=>(tI cs).map .tup
 |_=>none
def tI:List Value->Option (List V)
 |[]=>some []
 |v::vs=>match cv v,tI vs with
  |some x,some b=>some (x::b)
  |_,_=>none
end
mutual
theorem VH(p:Pl):∀ {v:Value} {x:V},cv v=some x->Ac p x v
 | .bool b,x,h=>by grind [cv,Ac]
 | .int k n,x,h=>by grind [cv,Ac]
 | .string s,x,h=>by simp[cv]at h;subst h;rfl
 | .pointer none,x,h=>by grind [cv,Ac]
 | .pointer (some a),x,h=>by simp[cv]at h
 | .slice none 0 0,x,h=>by grind [cv,Ac]
 | .slice none 0 (_+1),x,h=>by simp[cv]at h
 | .slice none (_+1) _,x,h=>by simp[cv]at h
 | .slice (some a) _ _,x,h=>by simp[cv]at h
 | .map none,x,h=>by grind [cv,Ac]
 | .map (some a),x,h=>by simp[cv]at h
 | .nilFunc,x,h=>by grind [cv,Ac]
 | .nilIface,x,h=>by grind [cv,Ac]
 | .func f ⟨[]⟩ ⟨[]⟩,x,h=>by simp[cv]at h;subst h;simp[Ac]
 | .func f ⟨_::_⟩ _,x,h=>by simp[cv]at h
 | .func f ⟨[]⟩ ⟨_::_⟩,x,h=>by simp[cv]at h
 | .agg ⟨cs⟩,x,h=>by
  simp only[cv,zi]at h;obtain⟨d,c,rfl⟩:=h;exact⟨_,rfl,Rk p c⟩
 | .tuple ⟨cs⟩,x,h=>by
  simp only[cv,zi]at h;obtain⟨d,c,rfl⟩:=h;exact⟨_,rfl,Rk p c⟩
 | .float _ _,x,h=>by simp[cv]at h
 | .complex _ _ _,x,h=>by simp[cv]at h
 | .chan _,x,h=>by simp[cv]at h
 | .iface _ _,x,h=>by simp[cv]at h
theorem Rk(p:Pl):∀ {vs:List Value} {b:List V},tI vs=some b->Au p b vs
 |[],b,h=>by simp_all [tI]
 |v::vs,b,h=>by
  unfold tI at h;split at h
  case h_2=>cases h
  rename_i x e c d;cases h;exact(Bb ..).2 ⟨VH p c,Rk p d⟩
end
structure Fn where
 ntmps:Nat
 results:Array ResultVar
 body:Code
 cert:Bool
structure Ctx where
 T:BV
 ng:Nat
 fn:FuncId->Option Fn
 prim:FuncId->Option (List V->H->Option (V×H))
 spec:FuncId->Option (List V->H->Option (V×H))
 mg:Bool
def Gl(_:Ctx)(p:Pl):Prop:=Gp p
theorem Gl.ext{C:Ctx}{p p':Pl}{h h':H}{w w':World}(b:Gl C p)(e:Ext p h w p' h' w'):Gl C p':=by
 obtain⟨q,rfl⟩:=e.pre;exact Gp.app b q
def ev(_:Ctx)(fr:Fr):Operand->Option V
 | .tmp t=>some<|fr.get t
 | .const v=>cv v
 | .global g=>bif gin g C5 then some (.ptr g 0)else none
 | .func f=>some<|.fn (.func f) [] []
theorem A4{C:Ctx}{p:Pl}{fr:Fr}{a:Act}(e:Gl C p)(i:Cg p fr a){x:Operand}{v:V}(b:ev C fr x=some v):Ac p v (a.eval x):=by
 cases x with
 |tmp t=>grind [ev,Act.eval,Cg]
 |const v=>exact VH p b
 |global g=>
  simp only[ev]at b;cases c:gin g C5 with
  |true=>
   rw[c]at b;simp only[we,zg]at b;subst b;obtain⟨o,d⟩:=Xq c;exact⟨g,_,e _ d,rfl⟩
  |false=>grind
 |func f=>simp only[ev,zg]at b;subst b;simp[Ac,Act.eval]
def Tq(C:Ctx)(fr:Fr):List Operand->Option (List V)
 |[]=>some []
 |x::b=>match ev C fr x,Tq C fr b with
  |some v,some vs=>some (v::vs)
  |_,_=>none
theorem I7{C:Ctx}{p:Pl}{fr:Fr}{a:Act}(c:Gl C p)(d:Cg p fr a):∀ {b:List Operand} {vs:List V},Tq C fr b=some vs->Au p vs (b.map a.eval)
 |[],vs,h=>by simp_all [Tq]
 |x::b,vs,h=>by
  unfold Tq at h;split at h
  case h_2=>cases h
  rename_i v e f g;cases h;exact(Bb ..).2 ⟨A4 c d f,I7 c d g⟩
def Vm(C:Ctx)(fr:Fr):Option Operand->Option (Option V)
 |none=>some none
 |some x=>(ev C fr x).map some
theorem NL{C:Ctx}{p:Pl}{fr:Fr}{a:Act}(d:Gl C p)(e:Cg p fr a){x:Option Operand}{v:Option V}(b:Vm C fr x=some v):G0 p v (x.map a.eval):=by
 cases x with
 |none=>simp[Vm]at b;subst b;rfl
 |some x=>
  simp only[Vm,zi]at b;obtain⟨u,c,rfl⟩:=b;exact⟨_,rfl,A4 d e c⟩
def WI(C:Ctx)(fr:Fr):List (Nat×Operand)->Option (List<|Nat×V)
 |[]=>some []
 |(i,x)::b=>match ev C fr x,WI C fr b with
  |some v,some vs=>some ((i,v)::vs)
  |_,_=>none
theorem NI{C:Ctx}{p:Pl}{fr:Fr}{a:Act}(c:Gl C p)(d:Cg p fr a):∀ {b:List (Nat×Operand)} {vs:List (Nat×V)},WI C fr b=some vs->Uh p vs (b.map fun(i,x)=>(i,a.eval x))
 |[],vs,h=>by simp[WI]at h;subst h;exact .nil
 |(i,x)::b,vs,h=>by
  unfold WI at h;split at h
  case h_2=>cases h
  rename_i v e f g;cases h;exact .cons (A4 c d f)<|NI c d g
inductive OR where
 |val (v:V) (h:H)
 |skip (h:H)
 |enter (f:FuncId) (args:List V)
 |round (b:Nat) (l:LS) (fr:Fr)
 |alts (l:List (V×H))
def Fr.aJ(f:Fr)(t:Nat)(v:V):Fr:=bif zh t f.n then⟨f.n,f.m.set t<|some v⟩else f
def GX:List Tmp->List V->Fr->Fr
 |t::ts,v::vs,f=>GX ts vs<|f.aJ t v
 |_,_,f=>f
theorem Ei.aJ{p:Pl}{f:Fr}{tmps:Array Value}(c:Ei p f tmps){v:V}{v':Value}(g:Ac p v v')(t:Nat):Ei p (f.aJ t v) (tmps.setIfInBounds t v'):=by
 unfold Fr.aJ;simp only[Gf];by_cases b:t<f.n
 ·simp only[b,decide_true,we];refine⟨by simp[c.1],fun s=>?_⟩;have d:t<tmps.size:=c.1▸b;by_cases e:s=t
  ·simp_all [Fr.get]
  ·have:=c.2 s;simp only[Fr.get,PM.Cz,wc e]at this ⊢;rw[zk,z8 ae, <-zk];omega
 ·grind [Ei]
theorem Ei.GX{p:Pl}:∀ {ts:List Tmp} {vs:List V} {b:List Value},Au p vs b->∀ {f:Fr} {tmps:Array Value},Ei p f tmps->Ei p (GX ts vs f) ((ts.zip b).foldl (fun tmps (t,a)=>tmps.setIfInBounds t a) tmps)
 |[],vs,b,_,f,tmps,c=>by simpa [Det.GX]using c
 |t::ts,[],b,d,f,tmps,c=>by simp_all [Det.GX]
 |t::ts,v::vs,b,d,f,tmps,c=>by
  obtain⟨u,i,rfl,e,g⟩:=d;exact Ei.GX g<|c.aJ e t
def Bz(h:H):Option V->Option OR
 |some v=>some<|.val v h
 |none=>none
def E0:Option (V×H)->Option OR
 |some (v,h)=>some<|.val v h
 |none=>none
def dR:Option H->Option OR
 |some h=>some<|.skip h
 |none=>none
def EU(C:Ctx)(h:H)(b:Builtin)(ts:Array TypeId)(args:List V):Option OR:=
 match b with
 | .len=>Bz h<|Fu C.T h ts args
 | .append=>E0<|Gc C.T h ts args
 | .copy=>E0<|jR C.T h ts args
 | .max=>Bz h<|Ge dJ args
 | .min=>Bz h<|Ge rQ args
 | .cap=>Bz h<|yP C.T ts args
 | .delete=>E0<|KJ C.T h ts args
 | .clear=>E0<|FT C.T h ts args
 | .unsafeSliceData=>Bz h<|Oh args
 | .unsafeString=>E0<|Tg C.T h ts.toList args
 |_=>none
def H4(C:Ctx)(h:H)(f:V)(args:List V):Option OR:=
 match f with
 | .fn (.func g) first captured=>
  match C.prim g with
  |some q=>E0<|q (first++args++captured) h
  |none=>match C.fn g with
   |some _=>some<|.enter g<|first++args++captured
   |none=>none
 | .yld b=>match h.get b with
  |some (.loop l)=>bif zo args.length l.ps.size then some (.round b l<|GX l.ps.toList args l.fr)else none
  |_=>none
 |_=>none
def Nx(C:Ctx)(h:H)(x:V)(name:String)(args:List V):Option OR:=
 match x with
 | .iface t v=>match C.T.mth t name with
  |some g=>H4 C h (.fn (.func g) [] []) (v::args)
  |none=>none
 |_=>none
def XJ:Operand->Bool
 | .const _=>true
 |_=>false
def pJ(T:BV)(op:BinOp)(t:TypeId)(x y:Operand)(v u:V):Option V:=
 match op,v,u,T.und t with
 | .eql,.nili,.nili,some (.interface _)=>bif XJ x||XJ y then some (.bool true)else none
 | .neq,.nili,.nili,some (.interface _)=>bif XJ x||XJ y then some (.bool false)else none
 |_,_,_,_=>none
def JS(T:BV)(op:BinOp)(t:TypeId)(x y:Operand)(v u:V):Option V:=
 match pJ T op t x y v u with
 |some r=>some r
 |none=>Kh T op t v u
def GG(C:Ctx)(fr:Fr)(h:H)(o:Oper):Option OR:=
 let ρ:=ev C fr
 match o.op with
 | .move x| .assign x=>Bz h<|ρ x
 | .pick c a b=>match ρ c with
  |some (.bool t)=>Bz h<|if t then ρ a else ρ b
  |_=>none
 | .alloc t=>E0<|Gy C.T h t
 | .box t x=>E0<|(ρ x).map fun v=>Zh h t v
 | .build t j=>match WI C fr j.toList with
  |some ps=>Bz h<|Kb C.T t ps
  |none=>none
 | .buildSlice t n j=>match WI C fr j.toList with
  |some ps=>E0<|Ey C.T h t n ps
  |none=>none
 | .load t x=>match ρ x with
  |some v=>Bz h<|EP C.T h t v
  |none=>none
 | .store t x y=>match ρ x,ρ y with
  |some v,some u=>dR<|HJ C.T h t v u
  |_,_=>none
 | .nilCheck x=>match ρ x with
  |some (.ptr b i)=>Bz h<|some<|.ptr b i
  |some (.iface t v)=>Bz h<|some<|.iface t v
  |_=>none
 | .binOp op t x y _=>match ρ x,ρ y with
  |some v,some u=>Bz h<|JS C.T op t x y v u
  |_,_=>none
 | .unOp op _ x=>match ρ x with
  |some v=>Bz h<|dun op v
  |none=>none
 | .convert s d x=>match ρ x with
  |some v=>Bz h<|FG C.T h s d v
  |none=>none
 | .makeInterface t x=>match ρ x,C.T.und t with
  |some v,some d=>match d with
   | .interface _=>none
   |_=>Bz h<|some<|.iface t v
  |_,_=>none
 | .makeFunc f first captured=>match Tq C fr first.toList,Tq C fr captured.toList with
  |some a,some b=>Bz h<|some<|.fn f a b
  |_,_=>none
 | .makeMap _ r=>match Vm C fr r with
  |some v=>E0<|IY h v
  |none=>none
 | .makeSlice t l c=>match ρ l,ρ c with
  |some v,some u=>E0<|Pr C.T h t v u
  |_,_=>none
 | .slice t x q A mx=>match ρ x,Vm C fr q,Vm C fr A,Vm C fr mx with
  |some v,some l,some r,some m=>Bz h<|DH C.T t v l r m
  |_,_,_,_=>none
 | .fieldAddr t x f=>match ρ x with
  |some v=>Bz h<|Ki C.T t v f
  |none=>none
 | .field t x f=>match ρ x with
  |some v=>Bz h<|J8 C.T t v f
  |none=>none
 | .indexAddr t x i=>match ρ x,ρ i with
  |some v,some u=>Bz h<|E2 C.T t v u
  |_,_=>none
 | .index t x i=>match ρ x,ρ i with
  |some v,some u=>Bz h<|IL C.T t v u
  |_,_=>none
 | .lookup t x i ok=>match ρ x,ρ i with
  |some v,some u=>Bz h<|Es C.T h t v u ok
  |_,_=>none
 | .mapUpdate t m k x| .insert t m k x=>match ρ m,ρ k,ρ x with
  |some a,some b,some c=>dR<|Hs C.T h t a b c
  |_,_,_=>none
 | .range t x=>match ρ x with
  |some v=>E0<|HD C.T h t v
  |none=>none
 | .next x e=>match ρ x with
  |some v=>bif e then E0 (MT h v e)else(Sg h v e).map .alts
  |none=>none
 | .entry x=>match ρ x with
  |some v=>Bz h<|Rl h v
  |none=>none
 | .extract x i=>match ρ x with
  |some v=>Bz h<|GP v i
  |none=>none
 | .call c=>match c.callee,Tq C fr c.args.toList with
  | .builtin b,some args=>EU C h b c.argTypes args
  | .value f,some args=>match ρ f with
   |some g=>H4 C h g args
   |none=>none
  | .invoke x z,some args=>match ρ x with
   |some v=>Nx C h v z args
   |none=>none
  |_,_=>none
 |_=>none
abbrev FZ:=Ctx->Fr->H->Option OR
def zX(a0:Operand):FZ:=fun C fr h=>Bz h<|ev C fr a0
def hI(a0:Operand):FZ:=fun C fr h=>Bz h<|ev C fr a0
def wZ(a0:Operand)(a1:Operand)(a2:Operand):FZ:=fun C fr h=>match ev C fr a0 with|some (.bool t)=>Bz h (if t then ev C fr a1 else ev C fr a2)|_=>none
def rC(a0:TypeId):FZ:=fun C _fr h=>E0<|Gy C.T h a0
def Abp(a0:TypeId)(a1:Operand):FZ:=fun C fr h=>E0<|(ev C fr a1).map fun v=>Zh h a0 v
def qF(a0:TypeId)(a1:Array (Nat×Operand)):FZ:=fun C fr h=>match WI C fr a1.toList with|some ps=>Bz h (Kb C.T a0 ps)|none=>none
def RU(a0:TypeId)(a1:Nat)(a2:Array (Nat×Operand)):FZ:=fun C fr h=>match WI C fr a2.toList with|some ps=>E0 (Ey C.T h a0 a1 ps)|none=>none
def dD(a0:TypeId)(a1:Operand)(a2:Operand)(a3:Operand):FZ:=fun C fr h=>match ev C fr a1,ev C fr a2,ev C fr a3 with|some a,some b,some c=>dR (Hs C.T h a0 a b c)|_,_,_=>none
def vY(a0:TypeId)(a1:Operand):FZ:=fun C fr h=>match ev C fr a1 with|some v=>Bz h (EP C.T h a0 v)|none=>none
def oH(a0:TypeId)(a1:Operand)(a2:Operand):FZ:=fun C fr h=>match ev C fr a1,ev C fr a2 with|some v,some u=>dR (HJ C.T h a0 v u)|_,_=>none
def rR(_a0:Nat):FZ:=fun _ _ _=>none
def rF(_a0:Nat):FZ:=fun _ _ _=>none
def Wc(a0:Operand):FZ:=fun C fr h=>match ev C fr a0 with|some (.ptr b i)=>Bz h (some<|.ptr b i)|some (.iface t v)=>Bz h (some<|.iface t v)|_=>none
def qD(a0:BinOp)(a1:TypeId)(a2:Operand)(a3:Operand)(_a4:TypeId):FZ:=fun C fr h=>match ev C fr a2,ev C fr a3 with|some v,some u=>Bz h (JS C.T a0 a1 a2 a3 v u)|_,_=>none
def yU(a0:UnOp)(_a1:TypeId)(a2:Operand):FZ:=fun C fr h=>match ev C fr a2 with|some v=>Bz h (dun a0 v)|none=>none
def aB(a0:TypeId)(a1:TypeId)(a2:Operand):FZ:=fun C fr h=>match ev C fr a2 with|some v=>Bz h (FG C.T h a0 a1 v)|none=>none
def H6(_a0:TypeId)(_a1:Operand):FZ:=fun _ _ _=>none
def Nh(a0:TypeId)(a1:Operand):FZ:=fun C fr h=>match ev C fr a1,C.T.und a0 with|some v,some d=>(match d with| .interface _=>none|_=>Bz h<|some<|.iface a0 v)|_,_=>none
def VJ(a0:Go.Fn)(a1:Array Operand)(a2:Array Operand):FZ:=fun C fr h=>match Tq C fr a1.toList,Tq C fr a2.toList with|some a,some b=>Bz h (some<|.fn a0 a b)|_,_=>none
def Zx(_a0:TypeId)(a1:Option Operand):FZ:=fun C fr h=>match Vm C fr a1 with|some v=>E0 (IY h v)|none=>none
def We(_a0:TypeId)(_a1:Operand):FZ:=fun _ _ _=>none
def U8(a0:TypeId)(a1:Operand)(a2:Operand):FZ:=fun C fr h=>match ev C fr a1,ev C fr a2 with|some v,some u=>E0 (Pr C.T h a0 v u)|_,_=>none
def rG(a0:TypeId)(a1:Operand)(a2:Option Operand)(a3:Option Operand)(a4:Option Operand):FZ:=fun C fr h=>match ev C fr a1,Vm C fr a2,Vm C fr a3,Vm C fr a4 with|some v,some l,some r,some m=>Bz h (DH C.T a0 v l r m)|_,_,_,_=>none
def Vd(a0:TypeId)(a1:Operand)(a2:Nat):FZ:=fun C fr h=>match ev C fr a1 with|some v=>Bz h (Ki C.T a0 v a2)|none=>none
def pF(a0:TypeId)(a1:Operand)(a2:Nat):FZ:=fun C fr h=>match ev C fr a1 with|some v=>Bz h (J8 C.T a0 v a2)|none=>none
def Ud(a0:TypeId)(a1:Operand)(a2:Operand):FZ:=fun C fr h=>match ev C fr a1,ev C fr a2 with|some v,some u=>Bz h (E2 C.T a0 v u)|_,_=>none
def mR(a0:TypeId)(a1:Operand)(a2:Operand):FZ:=fun C fr h=>match ev C fr a1,ev C fr a2 with|some v,some u=>Bz h (IL C.T a0 v u)|_,_=>none
def bN(a0:TypeId)(a1:Operand)(a2:Operand)(a3:Bool):FZ:=fun C fr h=>match ev C fr a1,ev C fr a2 with|some v,some u=>Bz h (Es C.T h a0 v u a3)|_,_=>none
def Tl(a0:TypeId)(a1:Operand)(a2:Operand)(a3:Operand):FZ:=fun C fr h=>match ev C fr a1,ev C fr a2,ev C fr a3 with|some a,some b,some c=>dR (Hs C.T h a0 a b c)|_,_,_=>none
def W5(_a0:TypeId)(_a1:Operand)(_a2:Operand):FZ:=fun _ _ _=>none
def Tc(_a0:TypeId)(_a1:Operand)(_a2:Operand)(_a3:Operand):FZ:=fun _ _ _=>none
def tB(a0:TypeId)(a1:Operand):FZ:=fun C fr h=>match ev C fr a1 with|some v=>E0 (HD C.T h a0 v)|none=>none
def zH(a0:Operand)(a1:Bool):FZ:=fun C fr h=>match ev C fr a0 with|some v=>bif a1 then E0 (MT h v a1)else(Sg h v a1).map .alts|none=>none
def sD(a0:Operand):FZ:=fun C fr h=>match ev C fr a0 with|some v=>Bz h (Rl h v)|none=>none
def SJ(_a0:Operand)(_a1:TypeId)(_a2:TypeId)(_a3:Bool):FZ:=fun _ _ _=>none
def Z0(a0:Operand)(a1:Nat):FZ:=fun C fr h=>match ev C fr a0 with|some v=>Bz h (GP v a1)|none=>none
def xT(a0:Call):FZ:=fun C fr h=>match a0.callee,Tq C fr a0.args.toList with| .builtin b,some args=>EU C h b a0.argTypes args| .value f,some args=>(match ev C fr f with|some g=>H4 C h g args|none=>none)| .invoke x c,some args=>(match ev C fr x with|some v=>Nx C h v c args|none=>none)|_,_=>none
def AcW(_a0:Call):FZ:=fun _ _ _=>none
def rB(_a0:Call):FZ:=fun _ _ _=>none
def rA(_a0:Operand):FZ:=fun _ _ _=>none
def xA(_a0:Operand)(_a1:Operand):FZ:=fun _ _ _=>none
def xN(_a0:TypeId)(_a1:Operand)(_a2:Bool):FZ:=fun _ _ _=>none
def lU(_a0:Array SelectCase)(_a1:Bool):FZ:=fun _ _ _=>none
def opF(o:Op):FZ:=@Op.casesOn (fun _=>FZ) o zX hI wZ rC Abp qF RU dD vY oH rR rF Wc qD yU aB H6 Nh VJ Zx We U8 rG Vd pF Ud mR bN Tl W5 Tc tB zH sD SJ Z0 xT AcW rB rA xA xN lU
def GL(C:Ctx)(fr:Fr)(h:H)(o:Oper):Option OR:=opF o.op C fr h
theorem CR(C:Ctx)(fr:Fr)(h:H)(o:Oper):GL C fr h o=GG C fr h o:=by
 unfold GL GG;cases o.op<;>rfl
def Ih(C:Ctx)(fr:Fr)(h:H)(o:Oper):Option OR:=
 match GL C fr h o with
 |some r=>some r
 |none=>match o.op with
  | .convert s d x=>match ev C fr x with
   |some v=>match Ef C.T h s d v with
    |some u=>some<|.val u h
    |none=>E0<|SN C.T h s d v
   |none=>none
  |_=>none
structure Ctx.Ok(C:Ctx)(P:Program):Prop where
 T:C.T.Ok P
 fn : ∀ f i, C.fn f = some i -> ∃ fn, P.funcs[f]? = some fn /\ fn.name ≠ "runtime.NumGoroutine" /\ fn.body = some i.body /\ fn.ntmps = i.ntmps /\ fn.results = i.results
 prim:∀f q,C.prim f=some q->∀(p:Pl) (h:H) (w:World) (args:List V) (args':Array Value) v h',R p h w->Gl C p->Au p args args'.toList->q args h=some (v,h')->
  ∃v' p' w',(callFunc f args').run P w=.ok (.value v') w'/\Ac p' v v'/\Ext p h w p' h' w'
 spec:∀f q,C.spec f=some q->∀(p:Pl) (h:H) (w:World) (args:List V) (args':Array Value) v h',R p h w->Gl C p->Au p args args'.toList->q args h=some (v,h')->
  Calls P f args' w fun e w'=>∃v' p',e=.returned v'/\Ac p' v v'/\Ext p h w p' h' w'
def Qf(p:Pl)(h:H)(w:World):OR->Result Next->Prop
 | .val v h',r=>∃v' p' w',r=.ok (.value v') w'/\Ac p' v v'/\Ext p h w p' h' w'
 | .skip h',r=>∃p' w',r=.ok .skip w'/\Ext p h w p' h' w'
 | .enter f args,r=>∃args',r=.ok (.enter f args') w/\Au p args args'.toList
 | .round b l fr,r=>∃k n f tmps,p[b]?=some (k,n)/\h.get b=some (.loop l)/\r=.ok (.round k f tmps l.asg l.body) w/\Ei p fr tmps
 | .alts l,r=>∃v h' v' p' w',(v,h')∈l/\r=.ok (.value v') w'/\Ac p' v v'/\Ext p h w p' h' w'
section
variable {C:Ctx}{P:Program}{p:Pl}{h:H}{w:World}{fr:Fr}{a:Act}
theorem BQ{s:Sem Value}{v:Option V}{r:OR}(f:R p h w)(b:Bz h v=some r)(c:∀x,v=some x->∃v',s.run P w=.ok v' w/\Ac p x v'):Qf p h w r ((do pure (.value<|<-s):Sem Next).run P w):=by
 cases v with
 |none=>simp[Bz]at b
 |some x=>
  simp only[Bz,zg]at b;subst b;obtain⟨v',d,e⟩:=c x rfl;exact⟨v',p,w,by simp[d],e,zq f⟩
theorem Dd{s:Sem Value}{v:Option (V×H)}{r:OR}(b:E0 v=some r)(c:∀x h',v=some (x,h')->∃v' p' w',s.run P w=.ok v' w'/\Ac p' x v'/\Ext p h w p' h' w'):Qf p h w r ((do pure (.value<|<-s):Sem Next).run P w):=by
 match v,b,c with
 |some (x,h'),b,c=>
  simp only[E0,zg]at b;subst b;obtain⟨v',p',w',d,f,e⟩:=c x h' rfl;exact⟨v',p',w',by simp[d],f,e⟩
 |none,b,_=>simp[E0]at b
theorem XH{s:Sem Unit}{v:Option H}{r:OR}(b:dR v=some r)(c:∀h',v=some h'->∃w',s.run P w=.ok () w'/\Ext p h w p h' w'):Qf p h w r ((do s;pure .skip:Sem Next).run P w):=by
 cases v with
 |none=>simp[dR]at b
 |some h'=>
  simp only[dR,zg]at b;subst b;obtain⟨w',d,e⟩:=c h' rfl;exact⟨p,w',by simp[d],e⟩
theorem Mk(D:C.Ok P)(A:R p h w)(L:Gl C p){f:V}{B:Value}{args:List V}{args':Array Value}(I:Ac p f B)(s:Au p args args'.toList){r:OR}(b:H4 C h f args=some r):
  Qf p h w r ((do let d<-zx B args';invoke d.target d.args:Sem Next).run P w):=by
 unfold H4 at b;split at b
 case h_3=>cases b
 case h_2=>
  split at b
  case h_2=>cases b
  rename_i l E;rw[Bo]at b;by_cases N:args.length=l.ps.size
  ·simp only[N,decide_true,we,zg]at b;subst b;obtain⟨k,n,O,rfl⟩:=I;obtain⟨k',n',o,u,z,f0,tmps,r,m,j,J,rfl⟩:=A.obj _ _ E;have W:=s.length;simp only[zx,zf,zp,zd,invoke];have e:((l.ps.zip args').foldl (fun tmps (t,a)=>tmps.setIfInBounds t a) tmps)=(l.ps.toList.zip args'.toList).foldl (fun tmps (t,a)=>tmps.setIfInBounds t a) tmps:=by
    grind [Array.toList_zip]
   have G:=Ei.GX (ts:=l.ps.toList) s j;refine⟨k,n,f0,_,O,E,?_,G⟩;simp_all [run_yield]
  grind
 rename_i g first captured
 obtain⟨x,y,rfl,M,U⟩:=I;have c:Au p (first++args++captured) (x++args'++y).toList:=by
  simpa using(M.append s).append U
 simp only[zx,zf,zp,zd,invoke];split at b
 case h_1=>
  rename_i q K;match hqr:q (first++args++captured) h,b with
  |some (v,h'),b=>
   simp only[E0,zg]at b;subst b;obtain⟨v',p',w',u,z,j⟩:=D.prim g q K p h w _ _ v h' A L c hqr;exact⟨v',p',w',u,z,j⟩
  |none,b=>simp[E0]at b
 case h_2=>
  split at b
  case h_2=>cases b
  rename_i i Q;cases b;obtain⟨fn,u,z,j,J,G⟩:=D.fn g i Q;refine⟨_,?_,c⟩;simp_all [callFunc]
theorem TQ(l:C.Ok P)(q:R p h w)(s:Gl C p){x:V}{x':Value}{name:String}{args:List V}{args':Array Value}(z:Ac p x x')(B:Au p args args'.toList){r:OR}(c:Nx C h x name args=some r):
  Qf p h w r ((invoke (.fn (.method name) #[])<|#[x']++args').run P w):=by
 unfold Nx at c;split at c
 case h_2=>cases c
 rename_i t v;split at c
 case h_2=>cases c
 rename_i g o;obtain⟨y,rfl,A⟩:=z;obtain⟨j,m,d,h1,h2,h3,h4,h5,h6⟩:=l.T.mth t name g o;have key:(invoke (.fn (.method name) #[])<|#[.iface t y]++args').run P w=((do let d<-zx (.func (.func g) #[] #[]) (#[y]++args');invoke d.target d.args:Sem Next).run P w):=by
  have M8:(underlying t).run P w=.ok d w:=by simp_all [underlying]
  have n:(typeInfo t).run P w=.ok j w:=by unfold typeInfo;simp[h1]
  have b:∀k,(method (k+1) t y name).run P w=.ok (g,y) w:=by
   simp_all [method,follow,receiverAt,Place.get]
  have i:=b<|P.types.size+99;have e:P.types.size+Made.depth=P.types.size+99+1:=rfl;have h0:(#[Value.iface t y]++args')[0]?=some (.iface t y):=by
   grind
  have u:(#[Value.iface t y]++args').extract 1 (#[Value.iface t y]++args').size=args':=by
   simp
  simp only[invoke,zx,h0,u];simp[callMethod,e,i]
 rw[key];exact Mk l q s (f:=.fn (.func g) [] []) (by simp[Ac]) (by simp_all) c
theorem TV(g:C.Ok P)(e:R p h w){b:Builtin}{ts:Array TypeId}{t:TypeId}{cs:Array Bool}{args:List V}{args':Array Value}(f:Au p args args'.toList){r:OR}(d:EU C h b ts args=some r):
  Qf p h w r ((builtin b ts t cs args').run P w):=by
 unfold EU at d;split at d
 case h_1=>exact BQ e d fun x c=>rJ g.T e f c
 case h_2=>exact Dd d fun x h' c=>VA g.T e f c
 case h_3=>exact Dd d fun x h' c=>fP g.T e f c
 case h_4=>exact BQ e d fun x c=>oY f c
 case h_5=>exact BQ e d fun x c=>mX f c
 case h_6=>exact BQ e d fun x c=>rK g.T f c
 case h_7=>exact Dd d fun x h' c=>Vq g.T e f c
 case h_8=>exact Dd d fun x h' c=>Z5 g.T e f c
 case h_9=>exact BQ e d fun x c=>YW f c
 case h_10=>
  refine Dd d fun x h' c=>?_
  obtain⟨v',w',j,k,i⟩:=fH (t:=t) g.T e f c;grind
 grind
theorem iW{T:BV}(j:T.Ok P){op:BinOp}{t:TypeId}{x y:Operand}{v u:V}{v' i:Value}(f:Ac p v v')(k:Ac p u i){z:V}(g:JS T op t x y v u=some z):
  ∃n,(do eqGuard op t x y v' i;binOp op t v' i:Sem Value).run P w=.ok n w/\Ac p z n:=by
 unfold JS at g;split at g
 case h_2=>
  simp only[zf,Z8 j f k g,zd];exact nY j f k g
 case h_1=>
  rename_i r o;have B:∀ {b:Bool},(bif XJ x||XJ y then some (V.bool b)else none)=some z->z=.bool b/\((∃c,x=.const c)\/∃c,y=.const c):=by
   intro b e;cases d:(XJ x||XJ y)with
   |false=>grind
   |true=>
    simp only[d,we,zg]at e;refine⟨e.symm,?_⟩;simp only[zm]at d;rcases d with d|d
    ·left;cases x<;>first|exact⟨_,rfl⟩|cases d
    ·right;cases y<;>first|exact⟨_,rfl⟩|cases d
  have A:∀op,(op=.eql\/op=.neq)->((∃c,x=.const c)\/∃c,y=.const c)->(eqGuard op t x y .nilIface .nilIface).run P w=.ok () w:=by
   intro op q d;rcases q with rfl|rfl<;>unfold eqGuard<;>rcases d with⟨c,rfl⟩|⟨c,rfl⟩<;>simp
  have s:∀ {l},T.und t=some (.interface l)->(Op.equal t .nilIface .nilIface).run P w=.ok true w:=by
   intro l M8;unfold Op.equal Op.maxDepth Op.equalIn;rw[zf,Ay j M8];rfl
  unfold pJ at o;split at o
  case h_1=>
   have e:=(NG (t:=t) (y':=.nilIface) f rfl).1;simp_all [Ac]
  case h_2=>
   have e:=(NG (t:=t) (y':=.nilIface) f rfl).2;simp_all [Ac]
  grind
theorem dU(G:C.Ok P)(D:R p h w)(q:Gl C p)(A:Cg p fr a){o:Oper}{r:OR}(e:GL C fr h o=some r):Qf p h w r ((execOp a.eval o).run P w):=by
 rw[CR]at e;unfold GG at e;unfold execOp;cases ho:o.op<;>simp only[ho]at e ⊢<;>try (cases e;done)
 case move x|assign x=>
  cases j:ev C fr x with
  |none=>simp[j,Bz]at e
  |some v=>simp[j,Bz]at e;subst e;exact⟨_,p,w,rfl,A4 q A j,zq D⟩
 case pick c x y=>
  split at e
  case h_2=>cases e
  rename_i t hc;have Q:=A4 q A hc;simp only[Ac]at Q;simp only[zf,Q,asBool,zp,zd];cases t
  ·cases j:ev C fr y with
   |none=>simp[j,Bz]at e
   |some v=>simp[j,Bz]at e;subst e;exact⟨_,p,w,by simp,A4 q A j,zq D⟩
  ·cases j:ev C fr x with
   |none=>simp[j,Bz]at e
   |some v=>simp[j,Bz]at e;subst e;exact⟨_,p,w,by simp,A4 q A j,zq D⟩
 case alloc t=>exact Dd e fun x h' j=>Y8 G.T D j
 case box t x=>
  refine Dd e fun v h' j=>?_
  rw[zi]at j;obtain⟨u,J,O⟩:=j;have:=rD (P:=P) (t:=t) D<|A4 q A J;grind
 case build t L=>
  split at e
  case h_2=>cases e
  rename_i ps N;refine BQ D e fun x j=>Zt G.T ?_ j
  have:=NI q A N;simp_all
 case buildSlice t n L=>
  split at e
  case h_2=>cases e
  rename_i ps N;refine Dd e fun x h' j=>V7 G.T D ?_ j
  have:=NI q A N;simp_all
 case load t x=>
  split at e
  case h_2=>cases e
  rename_i v B;exact BQ D e fun x j=>TY G.T D (A4 q A B) j
 case store t x y=>
  split at e
  case h_2=>cases e
  rename_i v u B J;exact XH e fun h' j=>Z4 G.T D (A4 q A B) (A4 q A J) j
 case nilCheck x=>
  split at e
  case h_3=>cases e
  case h_1=>
   rename_i b i B;have j:=A4 q A B;have K:=j;simp only[Ac]at K;obtain⟨r',n,hp,O⟩:=K;simp only[Bz,zg]at e;subst e;rw[O];exact⟨_,p,w,rfl,O▸j,zq D⟩
  case h_2=>
   rename_i t v B;have j:=A4 q A B;have K:=j;simp only[Ac]at K;obtain⟨y,O,_⟩:=K;simp only[Bz,zg]at e;subst e;rw[O];exact⟨_,p,w,rfl,O▸j,zq D⟩
 case binOp op t x y t2=>
  split at e
  case h_2=>cases e
  rename_i v u B J;refine BQ D e fun z M=>?_
  exact iW G.T (A4 q A B) (A4 q A J) M
 case unOp op t x=>
  split at e
  case h_2=>cases e
  rename_i v B;exact BQ D e fun x j=>wQ (A4 q A B) j
 case convert s d x=>
  split at e
  case h_2=>cases e
  rename_i v B;exact BQ D e fun x j=>gP G.T D (A4 q A B) j
 case makeInterface t x=>
  split at e
  case h_2=>cases e
  rename_i v d B X;split at e
  case h_1=>cases e
  case h_2=>
   refine BQ D e fun z M=>?_
   cases M;refine⟨.iface t<|a.eval x,?_,by exact⟨_,rfl,A4 q A B⟩⟩;unfold Instr.makeInterface;simp only[zf,Ay G.T X,zd];rfl
 case makeFunc f first captured=>
  split at e
  case h_2=>cases e
  rename_i x y j hy;refine BQ D e fun z M=>?_
  cases M;exact⟨_,rfl,by exact⟨_,_,rfl,by simpa using I7 q A j,by simpa using I7 q A hy⟩⟩
 case makeMap t x=>
  split at e
  case h_2=>cases e
  rename_i v B;exact Dd e fun x h' j=>U6 D (NL q A B) j
 case makeSlice t l c=>
  split at e
  case h_2=>cases e
  rename_i v u B J;exact Dd e fun x h' j=>iG G.T D (A4 q A B) (A4 q A J) j
 case slice t x lo hi mx=>
  split at e
  case h_2=>cases e
  rename_i v l r' m B W U Z;exact BQ D e fun x j=>ZI G.T (A4 q A B) (NL q A W) (NL q A U) (NL q A Z) j
 case fieldAddr t x f=>
  split at e
  case h_2=>cases e
  rename_i v B;exact BQ D e fun x j=>Za G.T (A4 q A B) j
 case field t x f=>
  split at e
  case h_2=>cases e
  rename_i v B;exact BQ D e fun x j=>ZT G.T (A4 q A B) j
 case indexAddr t x i=>
  split at e
  case h_2=>cases e
  rename_i v u B J;exact BQ D e fun x j=>aM G.T (A4 q A B) (A4 q A J) j
 case index t x i=>
  split at e
  case h_2=>cases e
  rename_i v u B J;exact BQ D e fun x j=>aF G.T (A4 q A B) (A4 q A J) j
 case lookup t x i ok=>
  split at e
  case h_2=>cases e
  rename_i v u B J;exact BQ D e fun x j=>VM G.T D (A4 q A B) (A4 q A J) j
 case mapUpdate t m k x|insert t m k x=>
  split at e
  case h_2=>cases e
  rename_i v u z B J M;exact XH e fun h' j=>VX G.T D (A4 q A B) (A4 q A J) (A4 q A M) j
 case range t x=>
  split at e
  case h_2=>cases e
  rename_i v B;exact Dd e fun x h' j=>Vv G.T D (A4 q A B) j
 case next x b=>
  split at e
  case h_2=>cases e
  rename_i v B;cases b with
  |true=>exact Dd e fun x h' j=>bJ D (A4 q A B) j
  |false=>
   simp only[wg,zi]at e;obtain⟨l,W,rfl⟩:=e;obtain⟨v,h',v',p',w',g1,g2,g3,g4⟩:=Zr (P:=P) (t:=o.type) D (A4 q A B) W;grind [zf,zd,zp,Qf]
 case entry x=>
  split at e
  case h_2=>cases e
  rename_i v B;exact BQ D e fun x j=>ZA D (A4 q A B) j
 case extract x i=>
  split at e
  case h_2=>cases e
  rename_i v B;exact BQ D e fun x j=>Tt (A4 q A B) j
 case call c=>
  split at e
  case h_4=>cases e
  case h_1=>
   rename_i b args I E;have:=I7 q A E;unfold resolve;simp only[I,zf,zp,zd,invoke];exact TV G D (by simp_all) e
  case h_2=>
   rename_i f args I E;split at e
   case h_2=>cases e
   rename_i g Y;have:=I7 q A E;unfold resolve;simp only[I];exact Mk G D q (A4 q A Y) (by simp_all) e
  case h_3=>
   rename_i x nm args I E;split at e
   case h_2=>cases e
   rename_i v B;have:=I7 q A E;unfold resolve;simp only[I,zf,zp,zd];exact TQ G D q (A4 q A B) (by simp_all) e
theorem Lu(g:C.Ok P)(c:R p h w)(i:Gl C p)(j:Cg p fr a){o:Oper}{r:OR}(b:Ih C fr h o=some r):Qf p h w r ((execOp a.eval o).run P w):=by
 unfold Ih at b;split at b
 case h_1=>
  grind [dU]
 case h_2=>
  split at b
  case h_2=>cases b
  rename_i s d x l;split at b
  case h_2=>cases b
  rename_i v f;unfold execOp;simp only[l];split at b
  case h_1=>
   rename_i u k;exact BQ (v:=some u) c b fun x e=>by cases e;exact oC g.T c (A4 i j f) k
  exact Dd b fun x h' e=>aN g.T c (A4 i j f) e
end
def Ba(fr:Fr)(ops:Array Oper)(o:Oper):Bool:=
 match o.guard with
 |none=>true
 |some (j,c)=>
  match (ops[j]?).bind (·.dst)with
  |some t=>bif zh t fr.n then(match fr.get t with| .bool b=>b==c|_=>false)else false
  |none=>false
inductive Cl where
 |fn (f:FuncId) (args:List V)
 |rnd (b:Nat) (l:LS) (fr:Fr)
abbrev CX:=Cl->H->Option (List<|V×H)
def bl{α d:Type}:List α->(α->Option (List d))->Option (List d)
 |[],_=>some []
 |a::c,f=>match f a with
  |none=>none
  |some x=>match c with
   |[]=>some x
   |b::e=>match bl (b::e) f with
    |some y=>some<|x++y
    |none=>none
theorem EW{α g:Type}{f:α->Option (List g)}:∀ {l:List α} {r:List g},bl l f=some r->∀a∈l,∃x,f a=some x/\∀b∈x,b∈r
 |[],r,_,a,e=>by cases e
 |[c],r,h,a,e=>by
  grind [bl]
 |c::d::i,r,h,a,e=>by
  unfold bl at h;split at h
  ·cases h
  simp only at h;split at h
  case h_2=>cases h
  rename_i y j;rcases yn.1 e with rfl|e
  ·grind
  ·obtain⟨z,k,n⟩:=EW j a e;grind
def Hz(fr:Fr)(d:Option Nat):List (V×H)->Option (List<|Fr×H)
 |[]=>some []
 |(v,h)::l=>match fr.put d v with
  |some f=>match Hz fr d l with
   |some r=>some ((f,h)::r)
   |none=>none
  |none=>none
theorem N4{fr:Fr}{d:Option Nat}:∀ {l:List (V×H)} {r:List (Fr×H)},Hz fr d l=some r->∀v h,(v,h)∈l->∃f,fr.put d v=some f/\(f,h)∈r
 |[],r,_,v,h,hm=>by cases hm
 |(u,k)::l,r,b,v,h,hm=>by
  unfold Hz at b;split at b
  case h_2=>cases b
  split at b
  case h_2=>cases b
  rename_i n c;rcases yn.1 hm with e|hm
  ·grind
  ·obtain⟨g,i,j⟩:=N4 c v h hm;grind
def step1(C:Ctx)(call:CX)(ops:Array Oper)(o:Oper)(fr:Fr)(h:H):Option (List<|Fr×H):=
 bif Ba fr ops o then
  match Ih C fr h o with
  |some (.val v h')=>match fr.put o.dst v with
   |some fr'=>some [(fr',h')]
   |none=>none
  |some (.skip h')=>match fr.put o.dst (.tup [])with
   |some fr'=>some [(fr',h')]
   |none=>none
  |some (.enter f args)=>match call (.fn f args) h with
   |some l=>Hz fr o.dst l
   |none=>none
  |some (.round b ls f)=>match call (.rnd b ls f) h with
   |some l=>Hz fr o.dst l
   |none=>none
  |some (.alts l)=>Hz fr o.dst l
  |none=>none
 else match fr.put o.dst (.tup [])with
  |some fr'=>some [(fr',h)]
  |none=>none
def Sz(C:Ctx)(call:CX)(ops:Array Oper):List Oper->Fr->H->Option (List<|Fr×H)
 |[],fr,h=>some [(fr,h)]
 |o::b,fr,h=>match step1 C call ops o fr h with
  |some l=>bl l fun x=>Sz C call ops b x.1 x.2
  |none=>none
def FW(ro:Option Nat):Fence:={ yb with round:=ro }
theorem WS{ro:Option Nat}{n:Nat}{P:Program}{f:FuncId}{args:Array Value}{w:World}{R:Ending->World->Prop}:CallsIn (FW ro) n P f args w R↔Calls P f args w R:=by
 have:CallsIn (FW ro) n P f args w R↔CallsIn yb n P f args w R:=Iff.rfl;grind [callsIn_wide]
theorem zW{ro:Option Nat}{n:Nat}{P:Program}{k:Nat}{f:FuncId}{tmps:Array Value}{asg body:Code}{w:World}{R:Ending->World->Prop}(h:RoundIn yb 0 P k f tmps asg body w R):RoundIn (FW ro) n P k f tmps asg body w R:=
 ⟨trivial,fun c cs _=>h.2 c cs<|room_wide _⟩
inductive DX where
 |normal
 |exit (id:Nat)
 |ret
def DX.RZ:DX->Exit
 | .normal=>.normal
 | .exit id=>.exit id
 | .ret=>.ret
section
variable {C:Ctx}{P:Program}{p:Pl}{h:H}{w:World}{fr:Fr}{a:Act}
theorem Cg.put(f:Cg p fr a){d:Option Nat}{v:V}{v':Value}(i:Ac p v v'){fr':Fr}(b:fr.put d v=some fr'):Cg p fr' (a.put d v'):=by
 unfold Fr.put at b;cases d with
 |none=>cases b;exact f
 |some t=>
  simp only[Gf]at b;by_cases c:t<fr.n
  ·simp only[c,decide_true,we,zg]at b;subst b;refine⟨by simp[yp,f.1],fun s=>?_⟩;have g:t<a.tmps.size:=f.1▸c;by_cases e:s=t
   ·simp_all [Fr.get,yp]
   ·have:=f.2 s;simp only[Fr.get,PM.Cz,wc e,yp]at this ⊢;rw[zk,z8 ae, <-zk];omega
  grind
theorem Cg.mono(b:Cg p fr a){p':Pl}(c:∃q,p'=p++q):Cg p' fr a:=by
 obtain⟨q,rfl⟩:=c;exact⟨b.1,fun t=>(b.2 t).mono q⟩
theorem Cg.ext(b:Cg p fr a){p':Pl}{h':H}{w':World}(e:Ext p h w p' h' w'):Cg p' fr a:=b.mono e.pre
theorem qZ{p:Pl}{v:V}{b:Bool}(c:Ac p v (.bool b)):v=.bool b:=by
 cases v<;>simp only[Ac]at c<;>first|(cases c;rfl)|(simp at c;done)|(done)|(done)|(done)|(done)|(done)
theorem QY(l:Cg p fr a)(ops:Array Oper)(o:Oper):zy o (yielded ops a.tmps)=Ba fr ops o:=by
 unfold zy Ba;cases q:o.guard with
 |none=>rfl
 |some r=>
  obtain⟨j,i⟩:=r;simp only;unfold yielded;cases s:(ops[j]?).bind (·.dst)with
  |none=>simp
  |some t=>
   simp only[Option.bind_some,Gf];by_cases c:t<fr.n
   ·have g:t<a.tmps.size:=l.1▸c;have d:=l.2 t;simp only[c,decide_true,we];have e:a.tmps[t]?=some (a.tmps.getD t undef):=by simp[g]
    rw[e];cases f:a.tmps.getD t undef with
    |bool b=>
     rw[f]at d;have:=qZ d;grind
    |_=>
     rw[f]at d;cases k:fr.get t with
     |bool b=>rw[k]at d;simp[Ac]at d
     |_=>cases i<;>rfl
   ·have:a.tmps[t]?=none:=Array.getElem?_eq_none<|Nat.le_of_not_lt<|l.1▸c;grind
def GA(p:Pl)(h:H)(w:World)(l:List (V×H))(e:Ending)(w':World):Prop:=
 ∃v h' v' p',(v,h')∈l/\e=.returned v'/\Ac p' v v'/\Ext p h w p' h' w'
structure CX.Ok(C:Ctx)(P:Program)(call:CX):Prop where
 fn:∀f args h l,call (.fn f args) h=some l->∀(p:Pl) (w:World) (args':Array Value),R p h w->Gl C p->Au p args args'.toList->Calls P f args' w (GA p h w l)
 rnd:∀b ls fr h l,call (.rnd b ls fr) h=some l->∀(p:Pl) (w:World) (k n:Nat) (f:FuncId) (tmps:Array Value),R p h w->Gl C p->h.get b=some (.loop ls)->p[b]?=some (k,n)->Ei p fr tmps->
  RoundIn yb 0 P k f tmps ls.asg ls.body w (GA p h w l)
theorem Hc{o:Oper}{r:OR}(b:GL C fr h o=some r):∀c,o.op≠ .defer c:=by
 grind [CR,GG]
theorem FQ{o:Oper}{r:OR}(b:Ih C fr h o=some r):∀c,o.op≠ .defer c:=by
 grind [Ih,Hc]
theorem SC{p':Pl}{l:List (V×H)}{r:List (Fr×H)}{d:Option Nat}(k:Hz fr d l=some r)(n:Cg p fr a){K:Act->World->Prop}
  (o:∀x∈r,∀p' b w',Cg p' x.1 b->Ext p h w p' x.2 w'->b.defers=a.defers->K b w') {v:V} {h':H} {v':Value} {w':World} (j:(v,h')∈l) (e:Ac p' v v') (c:Ext p h w p' h' w'):K (a.put d v') w':=by
 obtain⟨f,g,i⟩:=N4 k v h' j;exact o _ i p' _ w' ((n.ext c).put e g) c (by cases d<;>rfl)
theorem ZD(D:C.Ok P){call:CX}(q:call.Ok C P)(t:R p h w)(y:Gl C p)(j:Cg p fr a){ops:Array Oper}{i:Nat}{o:Oper}(X:ops[i]?=some o){l:List (Fr×H)}
  (d:step1 C call ops o fr h=some l) {ro:Option Nat} {n:Nat} {Q:Exit->Act->World->Prop} {K:Act->World->Prop}
  (A:∀x∈l,∀p' L w',Cg p' x.1 L->Ext p h w p' x.2 w'->L.defers=a.defers->K L w'):wpOpIn (FW ro) n P ops Q i K a w:=by
 have u:∀v,(a.put o.dst v).defers=a.defers:=by intro v;cases o.dst<;>rfl
 unfold step1 at d;unfold wpOpIn;simp only[X];rw[QY j];cases O:Ba fr ops o with
 |false=>
  simp only[O,wg]at d;refine⟨fun _ _=>trivial,?_⟩;split at d
  case h_2=>cases d
  rename_i E G;cases d;exact A _ (zn.2 rfl) p _ w (j.put (by simp[Ac,undef]) G) (zq t)<|u _
 |true=>
  simp only[O,we]at d;refine⟨fun _ _=>trivial,?_⟩;split at d
  case h_6=>cases d
  case h_1=>
   rename_i v W c;split at d
   case h_2=>cases d
   rename_i E G;cases d;obtain⟨v',p',w',s,z,r⟩:=Lu D t y j c;rw[zl _ _ _<|FQ c,s,zr];exact A _ (zn.2 rfl) p' _ w' ((j.ext r).put z G) r<|u _
  case h_2=>
   rename_i W c;split at d
   case h_2=>cases d
   rename_i E G;cases d;obtain⟨p',w',s,r⟩:=Lu D t y j c;rw[zl _ _ _<|FQ c,s,Oper.uponIn_skip];exact A _ (zn.2 rfl) p' _ w' ((j.ext r).put (by simp[Ac,undef]) G) r<|u _
  case h_3=>
   rename_i f args c;split at d
   case h_2=>cases d
   rename_i I N;obtain⟨args',s,z⟩:=Lu D t y j c;rw[zl _ _ _<|FQ c,s,Oper.uponIn_enter];refine⟨(by grind [FW,yb]),WS.2<|(q.fn f args h I N p w args' t y z).mono ?_⟩;rintro e w' ⟨v,h',v',p',B,rfl,M,J⟩;exact SC d j A B M J
  case h_4=>
   rename_i b ls f c;split at d
   case h_2=>cases d
   rename_i I N;obtain⟨k,m,g,tmps,s,z,r,U⟩:=Lu D t y j c;rw[zl _ _ _<|FQ c,r,Oper.uponIn_round];refine⟨(by grind [FW,yb]),(zW<|q.rnd b ls f h I N p w k m g tmps t y z s U).mono ?_⟩;rintro e w' ⟨v,h',v',p',B,rfl,M,J⟩;exact SC d j A B M J
  case h_5=>
   rename_i I c;obtain⟨v,h',v',p',w',B,s,z,r⟩:=Lu D t y j c;rw[zl _ _ _<|FQ c,s,zr];exact SC d j A B z r
theorem Uk(z:C.Ok P){call:CX}(b:call.Ok C P){ops:Array Oper}{ro:Option Nat}{n:Nat}{Q:Exit->Act->World->Prop}:
  ∀(l:List Oper) (k:Nat),(∀j,l[j]?=ops[k+j]?)->∀ {p:Pl} {h:H} {w:World} {fr:Fr} {a:Act},R p h w->Gl C p->Cg p fr a->∀ {L:List (Fr×H)},Sz C call ops l fr h=some L->
  (∀x∈L,∀p' r w',Cg p' x.1 r->Ext p h w p' x.2 w'->r.defers=a.defers->Q .normal r w')->wpOpsIn (FW ro) n P ops Q (List.range' k l.length) a w
 |[],k,_,p,h,w,fr,a,e,i,t,L,d,s=>by
  cases d;exact s _ (zn.2 rfl) p a w t (zq e) rfl
 |o::l,k,B,p,h,w,fr,a,e,i,t,L,d,s=>by
  unfold Sz at d;split at d
  case h_2=>cases d
  rename_i W G;refine ZD z b e i t (by simpa using(B 0).symm) G (K:=wpOpsIn (FW ro) n P ops Q<|List.range' (k+1) l.length) fun x E U a1 O f c A=>?_
  obtain⟨L1,N,D⟩:=EW d x E;exact Uk z b l (k+1) (fun j=>by have:=B<|j+1;grind) c.rel (i.ext c) f N
   fun y M I a2 J q g u=>s y (D y M) I a2 J q (c.trans g) ah
theorem VS(d:C.Ok P){call:CX}(b:call.Ok C P){ops:Array Oper}{ro:Option Nat}{n:Nat}{Q:Exit->Act->World->Prop}(j:R p h w)(g:Gl C p)(i:Cg p fr a){L:List (Fr×H)}
  (f:Sz C call ops ops.toList fr h=some L) {id:Nat}
  (e:∀x∈L,∀p' c w',Cg p' x.1 c->Ext p h w p' x.2 w'->c.defers=a.defers->Q .normal c w'):(Code.region id ops false).wpIn (FW ro) n P Q a w:=by
 refine wpIn_region ?_;have:=Uk (Q:=Q) (ro:=ro) (n:=n) d b ops.toList 0 (by simp) j g i f e;grind [List.range_eq_range']
end
theorem LW{C:Ctx}{fr fr':Fr}:∀ {b:List Operand},(∀x∈b,ev C fr x=ev C fr' x)->Tq C fr b=Tq C fr' b
 |[],_=>rfl
 |x::b,h=>by
  unfold Tq;rw[h x (by simp),LW<|fun y c=>h y<|by simp[c]]
theorem Jw{C:Ctx}{fr fr':Fr}:∀ {b:List (Nat×Operand)},(∀x∈b,ev C fr x.2=ev C fr' x.2)->WI C fr b=WI C fr' b
 |[],_=>rfl
 |(i,x)::b,h=>by
  unfold WI;rw[h (i,x) (by simp),Jw<|fun y c=>h y<|by simp[c]]
theorem Qp{C:Ctx}{fr fr':Fr}{x:Option Operand}(h:∀y,x=some y->ev C fr y=ev C fr' y):Vm C fr x=Vm C fr' x:=by
 cases x with
 |none=>rfl
 |some y=>simp[Vm,h y rfl]
theorem Zo{C:Ctx}{fr fr':Fr}{h:H}{o:Oper}(d:∀x∈o.op.operands,ev C fr x=ev C fr' x):GL C fr h o=GL C fr' h o:=by
 obtain⟨dst,op,b,pos,after,guard⟩:=o;cases op<;>simp only[yj]at d<;>simp only[CR,GG]
 case build t ps=>grind [Jw]
 case buildSlice t n ps=>grind [Jw]
 case makeFunc f first captured=>grind [LW]
 case makeMap t r=>grind [Qp]
 case slice t x e g mx=>
  grind [Qp]
 case call c=>
  grind [LW,Call.operands]
 all_goals (first|rfl|(simp_all;done))
def reads(ops:Array Oper)(o:Oper):List Tmp:=o.looksAt ops
theorem oV{C:Ctx}{fr fr':Fr}{x:Operand}(h:∀t,x=.tmp t->fr.get t=fr'.get t):ev C fr x=ev C fr' x:=by
 cases x with
 |tmp t=>simp only[ev,h t rfl]
 |_=>rfl
theorem mem_reads{ops:Array Oper}{o:Oper}{t:Tmp}(h:Operand.tmp t∈o.op.operands):t∈reads ops o:=
 List.mem_append_left _ (List.mem_filterMap.2 ⟨.tmp t,by grind,rfl⟩)
theorem Rq{fr fr':Fr}{ops:Array Oper}{o:Oper}(c:fr.n=fr'.n)(h:∀t∈reads ops o,fr.get t=fr'.get t):Ba fr ops o=Ba fr' ops o:=by
 unfold Ba;cases f:o.guard with
 |none=>rfl
 |some d=>
  obtain⟨j,b⟩:=d;simp only;cases e:(ops[j]?).bind (·.dst)with
  |none=>rfl
  |some t=>
   simp only[c];rw[h t<|List.mem_append_right _ ah]
def Q5(l:List Tmp)(fr:Fr):Fr:=⟨fr.n,l.foldr (fun t m=>m.set t<|some<|fr.get t) .leaf⟩
def PS(l:List Tmp)(a:Act):Act:={ a with tmps:=Array.ofFn (n:=a.tmps.size) fun t=>if l.contains t.1 then a.tmps.getD t undef else undef }
theorem Mm(l:List Tmp)(fr:Fr)(t:Tmp):(Q5 l fr).get t=if t∈l then fr.get t else .tup []:=by
 unfold Q5 Fr.get;induction l with
 |nil=>simp
 |cons x l b=>
  simp only[List.foldr_cons,PM.Cz,yn];grind
theorem QS(l:List Tmp)(a:Act)(t:Tmp):(PS l a).tmps.getD t undef=if t∈l then a.tmps.getD t undef else undef:=by
 unfold PS;by_cases h:t<a.tmps.size
 ·simp[h]
 simp_all
section
variable {C:Ctx}{P:Program}{p:Pl}{h:H}{w:World}{fr:Fr}{a:Act}
structure FOn(p:Pl)(fr:Fr)(a:Act)(l:List Tmp):Prop where
 n:fr.n=a.tmps.size
 get:∀t∈l,Ac p (fr.get t) (a.tmps.getD t undef)
theorem FOn.PH{l:List Tmp}(b:FOn p fr a l):Cg p (Q5 l fr) (PS l a):=by
 refine⟨by simp[Q5,PS,b.n],fun t=>?_⟩;rw[Mm,QS];by_cases c:t∈l
 ·simp only[c,wm];exact b.get t c
 simp_all [Ac,undef]
theorem Ma{ops:Array Oper}{o:Oper}{x:Operand}(b:x∈o.op.operands):(PS (reads ops o) a).eval x=a.eval x:=by
 cases x with
 |tmp t=>
  have:=QS (reads ops o) a t;rw[wd<|mem_reads b]at this;exact this
 |_=>rfl
theorem RO{ops:Array Oper}{o:Oper}{x:Operand}(b:x∈o.op.operands):ev C (Q5 (reads ops o) fr) x=ev C fr x:=by
 refine oV fun t c=>?_
 simp_all [Mm,mem_reads]
theorem JA(c:C.Ok P)(f:R p h w)(d:Gl C p){ops:Array Oper}{o:Oper}(e:FOn p fr a (reads ops o))(g:∀cs b,o.op≠ .select cs b){r:OR}(j:GL C fr h o=some r):
  Qf p h w r ((execOp a.eval o).run P w):=by
 have i:=dU c f d e.PH (o:=o) (r:=r) (by grind [Zo,RO]);grind [execOp_congr,Ma]
theorem Q6{ops:Array Oper}{o:Oper}(e:FOn p fr a (reads ops o)):zy o (yielded ops a.tmps)=Ba fr ops o:=by
 have b:=QY e.PH ops o;rw[Rq (fr:=Q5 (reads ops o) fr) (fr':=fr) (ops:=ops) (o:=o) rfl (by simp_all [Mm])]at b;rw[<-b];unfold zy;cases k:o.guard with
 |none=>rfl
 |some d=>
  obtain⟨j,c⟩:=d;simp only;unfold yielded;cases g:(ops[j]?).bind (·.dst)with
  |none=>rfl
  |some t=>
   have i:t∈reads ops o:=List.mem_append_right _ ah;by_cases f:t<a.tmps.size
   ·simp_all [PS]
   simp_all [PS]
end
def Ed(o:Oper):Bool:=
 match o.op with
 | .move _| .assign _| .pick .. | .build .. | .load .. | .nilCheck _| .binOp .. | .unOp .. | .convert .. | .makeInterface .. | .makeFunc .. | .slice .. | .fieldAddr .. | .field .. | .indexAddr .. | .index .. | .lookup .. | .extract .. =>true
 | .call { callee:=.builtin .len,.. }| .call { callee:=.builtin .max,.. }| .call { callee:=.builtin .min,.. }| .call { callee:=.builtin .unsafeSliceData,.. }=>true
 |_=>false
def Qm(o:Oper):Bool:=
 match o.op with
 | .load .. | .convert .. | .lookup .. =>true
 | .call { callee:=.builtin .len,.. }=>true
 |_=>false
def Cy(o:Oper):Bool:=
 match o.op with
 | .alloc _| .box .. | .buildSlice .. =>true
 |_=>false
theorem Gm{h:H}{v:Option V}{r:OR}(b:Bz h v=some r):∃x,v=some x/\r=.val x h:=by
 cases v with
 |none=>cases b
 |some x=>cases b;simp
theorem rd_val{C:Ctx}{fr:Fr}{h:H}{o:Oper}(e:Ed o=true){r:OR}(d:GL C fr h o=some r):∃v,r=.val v h:=by
 obtain⟨dst,op,g,pos,after,guard⟩:=o;cases op<;>simp only[Ed]at e<;>simp only[CR,GG]at d<;>try (cases e;done)
 case call c=>
  obtain⟨callee,args,ts⟩:=c;cases callee with
  |builtin b=>
   cases j:Tq C fr args.toList with
   |none=>grind
   |some i=>
    simp only[j]at d;cases b<;>first|(cases e;done)|(obtain⟨x,_,rfl⟩:=Gm d;simp)
  |value f=>cases e
  |invoke=>cases e
 all_goals
  repeat' split at d
  all_goals first
   |(cases d;done)
   |(obtain⟨x,_,rfl⟩:=Gm d;exact⟨x,rfl⟩)
theorem jS{C:Ctx}{fr:Fr}{h:H}{o:Oper}(g:Ed o=true)(k:Qm o=false){v:V}(d:GL C fr h o=some (.val v h))(h':H):GL C fr h' o=some (.val v h'):=by
 have key:∀ {x:Option V},Bz h x=some (.val v h)->Bz h' x=some (.val v h'):=by
  intro x l;obtain⟨y,rfl,e⟩:=Gm l;cases e;rfl
 obtain⟨dst,op,i,pos,after,guard⟩:=o;cases op<;>simp only[Ed]at g<;>simp only[Qm]at k<;>simp only[CR,GG]at d ⊢<;>try (first|(done)|(done))
 case call c=>
  obtain⟨callee,args,ts⟩:=c;cases callee with
  |builtin b=>
   cases n:Tq C fr args.toList with
   |none=>grind
   |some j=>
    grind [EU]
  |value f=>cases g
  |invoke=>cases g
 all_goals
  repeat' split at d
  all_goals first
   |(done)
   |exact key d
   |grind
section
variable {C:Ctx}{P:Program}{p:Pl}{h:H}{w:World}{fr:Fr}{a:Act}
def VK(T:BV)(t:TypeId)(len:Nat)(b:List (Nat×V)):Option (List V×TypeId):=
 match T.und t with
 |some (.slice e)=>match T.inf e with
  |some i=>
   bif z7 (len*i.size) 16777216&&zh 0 (i.zero.length)&&zo i.zero.length i.size then
    (Iz (fun k=>some (k*i.size,i.size)) (E7 i.zero<|len*i.size) b).map fun cs=>(cs,e)
   else none
  |none=>none
 |_=>none
def mJ(C:Ctx)(fr:Fr)(o:Oper):Option (O×(Nat->V)):=
 match o.op with
 | .alloc t=>match C.T.inf t with
  |some i=>some (.cells i.zero t (0,0),fun b=>.ptr b 0)
  |none=>none
 | .box t x=>match ev C fr x with
  |some v=>some (.cells v.cells t (0,0),fun b=>.ptr b 0)
  |none=>none
 | .buildSlice t n c=>match WI C fr c.toList with
  |some ps=>match VK C.T t n ps with
   |some (cs,e)=>some (.cells cs e (0,0),fun b=>.sl b 0 n n 0)
   |none=>none
  |none=>none
 |_=>none
theorem yZ(A:C.Ok P)(E:Gl C p){ops:Array Oper}{o:Oper}(M:FOn p fr a (reads ops o)){ob:O}{f:Nat->V}(l:mJ C fr o=some (ob,f)):
  ∃x n v',(execOp a.eval o).run P w=.ok (.value v') { w with heap:=w.heap.push x }/\JM p n ob x/\∀(q:Pl) b,q[b]?=some (w.heap.size,n)->Ac q (f b) v':=by
 have N:=M.PH;have d:∀(t:TypeId) (cs:List V) (c:Array Value),Au p cs c.toList->JM p c.size (.cells cs t (0,0)) (.cells c t):=by
  intro t cs c y;refine⟨c,(0,0),rfl,rfl,by have:=y.length;grind,?_,ae⟩;have:=y.length;rw[List.take_of_length_le ae];exact y.toC
 unfold mJ at l;split at l
 case h_4=>cases l
 case h_1=>
  rename_i t D;split at l
  case h_2=>cases l
  rename_i i B;cases l;obtain⟨z,I,s⟩:=DY A.T B;refine⟨.cells z.cells t,_,.pointer<|some ⟨w.heap.size,0,none⟩,?_,d _ _ _<|s p,(by simp_all [Ac])⟩;simp_all [execOp,Instr.alloc,newVar,Cv]
 case h_2=>
  rename_i t x D;split at l
  case h_2=>cases l
  rename_i v Q;cases l;have y:Ac p v (a.eval x):=by
   have:=A4 (C:=C) E N (x:=x) (v:=v) (by grind [RO,yj]);grind [Ma,yj]
  refine⟨.cells (a.eval x).cells t,_,.pointer<|some ⟨w.heap.size,0,none⟩,?_,d _ _ _ y.cells,(by simp_all [Ac])⟩;simp_all [execOp,Instr.box,newVar,Cv]
 case h_3=>
  rename_i t len r D;split at l
  case h_2=>cases l
  rename_i ps K;split at l
  case h_2=>cases l
  rename_i cs e g;cases l;have L:Uh p ps (r.map fun(i,x)=>(i,a.eval x)).toList:=by
   grind [NI,Jw,RO,yj,Array.toList_map,List.map_congr_left,Ma]
  unfold VK at g;split at g
  case h_2=>cases g
  rename_i G J;split at g
  case h_2=>cases g
  rename_i i B;cases j:(z7 (len*i.size) 16777216&&zh 0 (i.zero.length)&&zo i.zero.length i.size)with
  |false=>grind
  |true=>
   simp only[j,we,zi,ym]at g;obtain⟨cs',u,rfl,rfl⟩:=g;simp only[ze,yo,zt,Bo,w5]at j;obtain⟨⟨c1,c2⟩,c3⟩:=j;obtain⟨z,I,s⟩:=DY A.T B;obtain⟨oo,h1,h2⟩:=Ld (p:=p) (place:=fun k=>some (k*i.size,i.size)) L (Jp (s p) c2<|len*i.size) u;refine⟨.cells oo G,_,.slice (some ⟨w.heap.size,0,none⟩) len len,?_,d _ _ _ h2,(by simp_all [Ac])⟩;unfold execOp;simp only[D];unfold Instr.buildSlice;simp only[zf,Ay A.T J,zd,Bt A.T B];by_cases h0:len*i.size=0
   ·grind [zf,zp,zd,Cv]
   simp_all [Cv]
theorem Ext.gM{l p:Pl}{k h:H}{i w:World}(j:Ext l k i p h w){r n:Nat}{o:O}{x:Obj}(W:w.heap[r]?=some x)(Y:JM p n o x)(hi:¬Im p h r)(R:i.heap.size<=r):
  Ext l k i (p++[(r,n)]) (h.push o) w:=by
 have D:=j.rel;have A:(p++[(r,n)])[h.nx]?=some (r,n):=by rw[<-D.len];simp
 have g:∀b,b<h.nx->(p++[(r,n)])[b]?=p[b]?:=ah;have d:∀c f,(h.push o).get c=some f->(c=h.nx/\f=o)\/(c<h.nx/\h.get c=some f):=by
  intro c f z;rw[H.Cq]at z;by_cases e:c=h.nx
  ·grind
  ·rw[wc e]at z;exact .inr ⟨D.lt z,z⟩
 refine⟨?_,⟨by simp[D.len],fun c f z=>?_,fun c N f I s m Z z L h1 U=>?_⟩,j.size,j.same,fun s M=>?_,j.os,j.out,j.tape,fun s M X=>?_,j.dr⟩
 ·obtain⟨q,rfl⟩:=j.pre;simp
 ·rcases d c f z with⟨rfl,rfl⟩|⟨E,G⟩
  ·exact⟨r,n,x,A,W,Y.mono _⟩
  ·obtain⟨s,m,y,B,u,J⟩:=D.obj c f G;exact⟨s,m,y,by grind,u,J.mono _⟩
 ·rcases d c f z with⟨rfl,rfl⟩|⟨E,G⟩<;>rcases d N I L with⟨rfl,rfl⟩|⟨Q,K⟩
  ·rfl
  ·grind [Im]
  ·grind [Im]
  ·rw[g c E]at h1;rw[g N Q]at U;exact D.inj c N f I s m Z G K h1 U
 ·obtain⟨c,f,m,B,u⟩:=M;rcases d c f B with⟨rfl,rfl⟩|⟨E,G⟩
  ·grind
  ·rw[g c E]at u;exact j.im s ⟨c,f,m,G,u⟩
 ·obtain⟨E,h1⟩:=j.lock s M X;refine⟨E,?_⟩;rcases h1 with⟨c,m,cs,t,fz,B,u,J⟩|h1
  ·have hlc:=D.lt B;exact .inl ⟨c,m,cs,t,fz,by rw[H.Cq,wc ae];exact B,by grind,J⟩
  ·refine .inr ?_;rintro⟨c,f,m,B,u⟩;rcases d c f B with⟨rfl,rfl⟩|⟨Q,K⟩
   ·grind
   ·rw[g c Q]at u;exact h1 ⟨c,f,m,K,u⟩
theorem Ext.aside{e p:Pl}{d h:H}{f w:World}(c:Ext e d f p h w)(x:Obj):Ext e d f p h { w with heap:=w.heap.push x }:=by
 have i:=c.rel;refine⟨c.pre,⟨i.len,fun b o k=>?_,i.inj⟩,by have:=c.size;grind,fun r g q=>?_,c.im,c.os,c.out,c.tape,fun r g l=>?_,c.dr⟩
 ·obtain⟨r,n,y,j,s,t⟩:=i.obj b o k;grind
 ·have j:=c.same r g q;grind
 ·obtain⟨j,s⟩:=c.lock r g l;grind
end
def DN(C:Ctx)(call:CX)(fr:Fr)(h:H)(o:Oper):Option (V×H):=
 match GL C fr h o with
 |some (.val v h')=>some (v,h')
 |some (.skip h')=>some (.tup [],h')
 |some (.enter f args)=>match call (.fn f args) h with
  |some [x]=>some x
  |_=>none
 |_=>none
def CG(o:Oper):Bool:= !Ed o&& !Cy o
structure Stat(ops:Array Oper)(anc:Nat->Nat->Bool)(ord pos:Nat->Nat)(sc:Nat->Option Nat):Prop where
 sel:Region.noSelect ops=true
 ordp:∀q,q<ops.size->ord q<ops.size/\pos (ord q)=q
 posp:∀i,i<ops.size->pos i<ops.size/\ord (pos i)=i
 edge:∀j i,anc j i=true->∃(o:Oper) (e:Edge),ops[j]?=some o/\e∈o.after/\yc .any e=true/\(e.on=i\/anc e.on i=true)
 dir:∀(j:Nat) (o:Oper) (e:Edge),ops[j]?=some o->e∈o.after->yc .any e=true->anc j e.on=true/\e.on<ops.size
 apos:∀j i,anc j i=true->pos i<pos j
 s1:∀(i j:Nat) (o o':Oper),ops[i]?=some o->ops[j]?=some o'->CG o=true->CG o'=true->i≠j->anc i j=true\/anc j i=true
 s2:∀(i j:Nat) (o o':Oper),ops[i]?=some o->ops[j]?=some o'->CG o=true->Ed o'=true->anc j i=true\/pos j<pos i
 q1:∀(i k:Nat),sc i=some k->∃(o ok:Oper) (t:Tmp),ops[i]?=some o/\ops[k]?=some ok/\(o.op=.assign (.tmp t)\/o.op=.move (.tmp t))/\o.guard=none/\Cy ok=true/\ok.dst=some t/\anc i k=true
 s3:∀(j k:Nat) (o o':Oper) (t:Tmp),ops[j]?=some o->ops[k]?=some o'->(Cy o=true\/(sc j).isSome=true)->CG o'=false->o.dst=some t->t∈reads ops o'->anc k j=true->
  sc k=some j\/∃(i:Nat) (oi:Oper),ops[i]?=some oi/\CG oi=true/\anc i j=true/\anc k i=true
 s4:∀(i j:Nat) (o o':Oper),ops[i]?=some o->ops[j]?=some o'->CG o=true->Cy o'=true->anc i j=true\/pos i<pos j
 s5:∀(i j:Nat) (o o':Oper),ops[i]?=some o->ops[j]?=some o'->Ed o=true->Qm o=true->Cy o'=true->pos j<pos i->∃(k:Nat) (ok:Oper),ops[k]?=some ok/\CG ok=true/\pos j<pos k/\pos k<pos i
 s6:∀(i j:Nat) (o o':Oper) (t:Tmp),ops[i]?=some o->ops[j]?=some o'->i≠j->o.dst=some t->o'.dst≠some t/\(t∈reads ops o'->anc j i=true\/anc i j=true)
structure Canon(C:Ctx)(call:CX)(ops:Array Oper)(anc:Nat->Nat->Bool)(ord pos:Nat->Nat)(fr0:Fr)(h0:H)(v:Nat->V)(Hh:Nat->H)(F:Nat->Fr):Prop where
 h0:Hh 0=h0
 f0:F 0=fr0
 fn:∀q,q<=ops.size->(F q).n=fr0.n
 fget:∀q,q<ops.size->∀(o:Oper),ops[ord q]?=some o->∀t,(F (q+1)).get t=if o.dst=some t then v (ord q)else(F q).get t
 dst:∀(i:Nat) (o:Oper) (t:Tmp),ops[i]?=some o->o.dst=some t->t<fr0.n
 step:∀(i:Nat) (o:Oper),ops[i]?=some o->
  (Ba (F (pos i)) ops o=false/\v i=.tup []/\Hh (pos i+1)=Hh (pos i))\/
  (Ba (F (pos i)) ops o=true/\
   ((Ed o=true/\GL C (F (pos i)) (Hh (pos i)) o=some (.val (v i) (Hh (pos i)))/\Hh (pos i+1)=Hh (pos i))\/
    (Cy o=true/\∃ob f,mJ C (F (pos i)) o=some (ob,f)/\v i=f (Hh (pos i)).nx/\Hh (pos i+1)=(Hh (pos i)).push ob)\/
    (CG o=true/\DN C call (F (pos i)) (Hh (pos i)) o=some (v i,Hh (pos i+1)))))
 stable:∀(i j:Nat) (o oj:Oper),ops[i]?=some o->ops[j]?=some oj->CG o=true->Ed oj=true->Qm oj=true->Ba (F (pos j)) ops oj=true->pos j<pos i->anc i j=false->
  GL C (F (pos j)) (Hh (pos i+1)) oj=some (.val (v j) (Hh (pos i+1)))
theorem kinds(o:Oper):Ed o=true\/Cy o=true\/CG o=true:=by
 grind [CG]
theorem Jm{o:Oper}(h:Ed o=true):Cy o=false:=by
 grind [Ed,Cy]
theorem Sq{o:Oper}(h:CG o=true):Ed o=false/\Cy o=false:=by
 grind [CG]
section
variable {C:Ctx}{P:Program}{call:CX}{ops:Array Oper}{anc:Nat->Nat->Bool}{ord pos:Nat->Nat}{sc:Nat->Option Nat}{fr0:Fr}{h0:H}{v:Nat->V}{Hh:Nat->H}{F:Nat->Fr}
theorem Fw(st:Stat ops anc ord pos sc)(g:Canon C call ops anc ord pos fr0 h0 v Hh F){k:Nat}{o:Oper}{t:Tmp}(f:ops[k]?=some o)(j:o.dst=some t):
  ∀q,q<=ops.size->pos k<q->(F q).get t=v k
 |0,_,h=>by omega
 |q+1,r,h=>by
  have b:q<ops.size:=ae
  obtain⟨i,l⟩:=st.ordp q b;rw[g.fget q b (ops[ord q]) (by simp[i]) t];have d:=(zc.1 f).1;by_cases e:pos k=q
  ·have n:ord q=k:=by rw[<-e];exact(st.posp k d).2
   grind
  ·have c:ord q≠k:=ah;have:=(st.s6 k (ord q) o (ops[ord q]) t f (by simp[i]) (Ne.symm c) j).1;rw[wc this];exact Fw st g f j q ae ae
theorem Fz(st:Stat ops anc ord pos sc)(c:Canon C call ops anc ord pos fr0 h0 v Hh F){t:Tmp}:
  ∀q,q<=ops.size->(∀k o,ops[k]?=some o->o.dst=some t->¬pos k<q)->(F q).get t=fr0.get t
 |0,_,_=>by rw[c.f0]
 |q+1,f,h=>by
  have b:q<ops.size:=ae
  obtain⟨d,e⟩:=st.ordp q b;rw[c.fget q b (ops[ord q]) (by simp[d]) t,wc]
  ·exact Fz st c q ae ah
  grind
theorem vV(st:Stat ops anc ord pos sc)(c:Canon C call ops anc ord pos fr0 h0 v Hh F){i k:Nat}(h:sc i=some k):v i=v k:=by
 obtain⟨o,ok,t,d,g,q,e,s,j,f⟩:=st.q1 i k h;have b:=(zc.1 d).1;have n:=Fw st c g j (pos i) (Nat.le_of_lt (st.posp i b).1)<|st.apos i k f;have r:Ba (F<|pos i) ops o=true:=by unfold Ba;rw[e]
 have l:Ed o=true:=by grind [Ed]
 rcases c.step i o d with⟨u,_⟩|⟨_,⟨_,u,_⟩|⟨u,_⟩|⟨u,_⟩⟩
 ·grind
 ·grind [CR,GG,ev,Bz]
 ·grind [Jm]
 grind [Sq]
structure Inv(C:Ctx)(ops:Array Oper)(pos:Nat->Nat)(sc:Nat->Option Nat)(fr0:Fr)(v:Nat->V)(Hh:Nat->H)(F:Nat->Fr)(p0:Pl)(h0:H)(w0:World)(df:List Deferred)
  (S:Nat->Prop) (m:Nat) (fl:Nat->Nat) (p:Pl) (a:Act) (w:World):Prop where
 ext:Ext p0 h0 w0 p (Hh m) w
 gl:Gl C p
 mn:m<=ops.size
 mh:∀(k:Nat) (o:Oper),ops[k]?=some o->CG o=true->(S k↔pos k<m)
 ma:∀(k:Nat) (o:Oper),ops[k]?=some o->Cy o=true->pos k<m->S k
 sz:a.tmps.size=fr0.n
 df:a.defers=df
 slot:∀t,(∀(i:Nat) (o:Oper),S i->ops[i]?=some o->o.dst≠some t)->Ac p (fr0.get t) (a.tmps.getD t undef)
 slotw:∀(i:Nat) (o:Oper) (t:Tmp),S i->ops[i]?=some o->o.dst=some t->((Cy o=true\/(sc i).isSome=true)->Ba (F (pos i)) ops o=true->pos i<m)->Ac p (v i) (a.tmps.getD t undef)
 flt:∀(i:Nat) (o:Oper),S i->ops[i]?=some o->Cy o=true->Ba (F (pos i)) ops o=true->m<=pos i->
  ∃n x ob f v',mJ C (F (pos i)) o=some (ob,f)/\w.heap[fl i]?=some x/\w0.heap.size<=fl i/\¬Im p (Hh m) (fl i)/\JM p n ob x/\
   (∀(q:Pl) b,q[b]?=some (fl i,n)->Ac q (f b) v')/\(∀t,o.dst=some t->a.tmps.getD t undef=v')
 inj:∀(i j:Nat) (o o':Oper),S i->S j->ops[i]?=some o->ops[j]?=some o'->Cy o=true->Cy o'=true->Ba (F (pos i)) ops o=true->Ba (F (pos j)) ops o'=true->
  m<=pos i->m<=pos j->fl i=fl j->i=j
structure LL(ops:Array Oper)(pos:Nat->Nat)(sc:Nat->Option Nat)(S:Nat->Prop)(m:Nat)(a:Act):Prop where
 eq:∀(i k:Nat) (o ok:Oper) (t tk:Tmp),S i->ops[i]?=some o->sc i=some k->ops[k]?=some ok->o.dst=some t->ok.dst=some tk->m<=pos i->a.tmps.getD t undef=a.tmps.getD tk undef/\S k
theorem Inv.adv(st:Stat ops anc ord pos sc)(cn:Canon C call ops anc ord pos fr0 h0 v Hh F){p0:Pl}{w0:World}{df:List Deferred}{S:Nat->Prop}{fl:Nat->Nat}{a:Act}{w:World}:
  ∀(d m:Nat) {p:Pl},Inv C ops pos sc fr0 v Hh F p0 h0 w0 df S m fl p a w->LL ops pos sc S m a->m+d<=ops.size->
  (∀q,m<=q->q<m+d->∀(o:Oper),ops[ord q]?=some o->CG o=false/\(Cy o=true->S (ord q)))->
  ∃p',Inv C ops pos sc fr0 v Hh F p0 h0 w0 df S (m+d) fl p' a w
 |0,m,p,g,_,_,_=>⟨p,g⟩
 |d+1,m,p,g,K,hn,hq=>by
  have hm:m<ops.size:=ae
  obtain⟨g1,g2⟩:=st.ordp m hm;obtain⟨R,hj⟩:∃R,ops[ord m]?=some R:=(by simp_all);obtain⟨q1,q2⟩:=hq m ae ae _ hj;have one:∃p',Inv C ops pos sc fr0 v Hh F p0 h0 w0 df S (m+1) fl p' a w:=by
   have L:∀(k:Nat) (o:Oper),ops[k]?=some o->CG o=true->(S k↔pos k<m+1):=by
    intro k o u hv;rw[g.mh k o u hv];constructor
    ·omega
    ·intro h;by_cases e:pos k=m
     ·have E:=(zc.1 u).1;have J:ord m=k:=by rw[<-e];exact(st.posp k E).2
      grind
     ·omega
   have O:∀(k:Nat) (o:Oper),ops[k]?=some o->Cy o=true->pos k<m+1->S k:=by
    intro k o u N hlt;by_cases e:pos k=m
    ·have E:=(zc.1 u).1;have J:ord m=k:=by rw[<-e];exact(st.posp k E).2
     grind
    ·exact g.ma k o u N ae
   have same:Hh (m+1)=Hh m->(Cy R=true->Ba (F<|pos<|ord m) ops R=false)->(Ba (F<|pos<|ord m) ops R=false->v (ord m)=.tup [])->
     Inv C ops pos sc fr0 v Hh F p0 h0 w0 df S (m+1) fl p a w:=by
    intro hh N _;refine⟨by rw[hh];exact g.ext,g.gl,by omega,L,O,g.sz,g.df,g.slot,fun i o t l c I hc=>?_,fun i o l c r s G=>?_,fun i j o o' l D c A r z s B G M he=>?_⟩
    ·by_cases Y:(sc i).isSome=true/\pos i=m
     ·obtain⟨k,u⟩:=yf.1 Y.1;obtain⟨o2,ok,tk,h1,h2,h3,h4,h5,h6,h7⟩:=st.q1 i k u;obtain⟨e1,J⟩:=K.eq i k o ok t tk l c u h2 I h6 ae;rw[vV st cn u,e1];have:=st.apos _ _ h7;exact g.slotw k ok tk J h2 h6 ae
     ·refine g.slotw i o t l c I fun r s=>?_
      have h1:=hc r s;by_cases e:pos i=m
      ·have y:=(zc.1 c).1;have J:ord m=i:=by rw[<-e];exact(st.posp i y).2
       grind
      ·omega
    ·obtain⟨n,x,ob,f,v',W,k2,k3,k4,k5⟩:=g.flt i o l c r s ae;exact⟨n,x,ob,f,v',W,k2,k3,by grind,k5⟩
    ·exact g.inj i j o o' l D c A r z s B ae ae he
   rcases cn.step (ord m) _ hj with⟨u1,u2,X⟩|⟨u1,⟨u2,X,u4⟩|⟨u2,ob,f,X,u4,Z⟩|⟨u2,X⟩⟩
   ·grind
   ·grind [Jm]
   ·
    obtain⟨n,x,Q,f',v',W,k2,k3,k4,k5,k6,k7⟩:=g.flt (ord m) _ (q2 u2) hj u2 u1 ae;rw[X]at W;cases W;rw[g2]at u4 Z;have hx:=g.ext.gM k2 k5 k4 k3;rw[<-Z]at hx;have hnew:(p++[(fl<|ord m,n)])[(Hh m).nx]?=some (fl<|ord m,n):=by rw[<-g.ext.rel.len];simp
    refine⟨p++[(fl<|ord m,n)],hx,?_,by omega,L,O,g.sz,g.df,fun t I=>(g.slot t I).mono _,fun i o t l c I hc=>?_,fun i o l c r s G=>?_,fun i j o o' l D c A r z s B G M he=>?_⟩
    ·exact Gp.app g.gl _
    ·by_cases e:i=ord m
     ·grind
     ·refine(g.slotw i o t l c I fun r s=>?_).mono _;have h1:=hc r s;have y:=(zc.1 c).1;have:pos i≠m:=fun J=>e (by rw[<-J];exact(st.posp i y).2.symm)
      omega
    ·obtain⟨n',x',Q,f',v'',l1,l2,l3,l4,l5,l6,l7⟩:=g.flt i o l c r s ae;refine⟨n',x',Q,f',v'',l1,l2,l3,?_,l5.mono _,l6,l7⟩;rintro⟨b,ob2,n2,U,m2⟩;rw[Z,H.Cq]at U;by_cases e:b=(Hh m).nx
     ·have:fl (ord m)=fl i:=ah;have:=g.inj (ord m) i _ o (q2 u2) l hj c u2 r u1 s ae ae this;grind
     ·rw[wc e]at U;have hb:=g.ext.rel.lt U;rw[List.getElem?_append_left ah]at m2;exact l4 ⟨b,ob2,n2,U,m2⟩
    ·exact g.inj i j o o' l D c A r z s B ae ae he
   grind
  obtain⟨p',c⟩:=one;obtain⟨p'',hi''⟩:=Inv.adv st cn d (m+1) c ⟨fun i k o ok t tk g1 g2 g3 g4 g5 g6 g7=>K.eq i k o ok t tk g1 g2 g3 g4 g5 g6 ae⟩ ae ah;grind
end
section
variable {C:Ctx}{P:Program}{call:CX}{ops:Array Oper}{anc:Nat->Nat->Bool}{ord pos:Nat->Nat}{sc:Nat->Option Nat}{fr0:Fr}{h0:H}{v:Nat->V}{Hh:Nat->H}{F:Nat->Fr}
 {p0:Pl} {w0:World} {df:List Deferred} {S:Nat->Prop} {m:Nat} {fl:Nat->Nat} {p:Pl} {a:Act} {w:World}
structure QN(anc:Nat->Nat->Bool)(S:Nat->Prop)(i:Nat):Prop where
 fresh:¬S i
 all:∀k,anc i k=true->S k
def Down(anc:Nat->Nat->Bool)(S:Nat->Prop):Prop:=∀i k,S i->anc i k=true->S k
theorem operands(st:Stat ops anc ord pos sc)(l:Canon C call ops anc ord pos fr0 h0 v Hh F)(n:Inv C ops pos sc fr0 v Hh F p0 h0 w0 df S m fl p a w)(E:Down anc S){i:Nat}{o:Oper}(x:ops[i]?=some o)(s:QN anc S i)
  (B:∀(k:Nat) (ok:Oper) (t:Tmp),ops[k]?=some ok->(Cy ok=true\/(sc k).isSome=true)->ok.dst=some t->t∈reads ops o->anc i k=true->pos k<m):FOn p (F<|pos i) a (reads ops o):=by
 have u:=(zc.1 x).1;have A:=(st.posp i u).1;refine⟨by rw[l.fn _ ae,n.sz],fun t D=>?_⟩;by_cases z:∃(k:Nat) (ok:Oper),k≠i/\ops[k]?=some ok/\ok.dst=some t
 ·obtain⟨k,ok,r,q,c⟩:=z;rcases(st.s6 k i ok o t q x r c).2 D with h1|h1
  ·have g:=s.all k h1;rw[Fw st l q c (pos i) ae<|st.apos i k h1];exact n.slotw k ok t g q c ah
  ·have g:¬S k:=fun h=>s.fresh<|E k i h h1
   have d:∀(j:Nat) (oj:Oper),ops[j]?=some oj->oj.dst=some t->j=k:=by
    intro j oj f b;by_cases e:j=k
    ·exact e
    ·exact wh b (st.s6 k j ok oj t q f ae c).1
   rw[Fz st l (pos i) ae fun j oj f b G=>by
    have:=d j oj f b;subst this;have:=st.apos _ _ h1;omega]
   refine n.slot t fun j oj y f b=>?_
   grind
 ·have d:∀(j:Nat) (oj:Oper),ops[j]?=some oj->oj.dst=some t->j=i:=by
   grind
  rw[Fz st l (pos i) ae ah];refine n.slot t fun j oj y f b=>?_
  have:=d j oj f b;subst this;exact s.fresh y
def Rest(ops:Array Oper)(pos:Nat->Nat)(S:Nat->Prop)(m:Nat):Prop:=m=0\/∃(k:Nat) (o:Oper),ops[k]?=some o/\CG o=true/\S k/\m=pos k+1
theorem OT(st:Stat ops anc ord pos sc)(u:Down anc S)(t:Inv C ops pos sc fr0 v Hh F p0 h0 w0 df S m fl p a w)(b:Rest ops pos S m){k:Nat}{o:Oper}(q:ops[k]?=some o)(s:¬S k):
  m<=pos k\/∃(i:Nat) (oi:Oper),ops[i]?=some oi/\CG oi=true/\S i/\m=pos i+1/\pos k<pos i/\anc i k=false:=by
 by_cases r:m<=pos k
 ·omega
 ·right;rcases b with rfl|⟨i,oi,g,l,n,j⟩
  ·omega
  ·refine⟨i,oi,g,l,n,j,?_,?_⟩
   ·have c:k≠i:=ah;have d:=(zc.1 q).1;have f:=(zc.1 g).1;have:pos k≠pos i:=fun e=>c (by rw[<-(st.posp k d).2,e,(st.posp i f).2])
    omega
   grind [Down]
theorem Pq(st:Stat ops anc ord pos sc)(n:Inv C ops pos sc fr0 v Hh F p0 h0 w0 df S m fl p a w){i:Nat}{o:Oper}(g:ops[i]?=some o)(l:QN anc S i)(j:Cy o=false){k:Nat}{ok:Oper}(f:ops[k]?=some ok)
  (d:CG ok=true) (q:m<=pos k) (r:pos k<pos i):False:=by
 have c:¬S k:=fun h=>by have:=(n.mh k ok f d).1 h;omega
 have e:k≠i:=ah;rcases kinds o with h|h|h
 ·rcases st.s2 k i ok o f g d h with b|b
  ·exact c<|l.all k b
  ·omega
 ·grind
 ·rcases st.s1 k i ok o f g d h e with b|b
  ·have:=st.apos _ _ b;omega
  ·exact c<|l.all k b
theorem WN(st:Stat ops anc ord pos sc)(q:Canon C call ops anc ord pos fr0 h0 v Hh F)(z:Down anc S)(G:Inv C ops pos sc fr0 v Hh F p0 h0 w0 df S m fl p a w)(b:Rest ops pos S m){i:Nat}{o:Oper}(f:ops[i]?=some o)
  (y:QN anc S i) (l:Ed o=true) (j:Ba (F<|pos i) ops o=true) (r:GL C (F<|pos i) (Hh<|pos i) o=some (.val (v i)<|Hh<|pos i)):GL C (F<|pos i) (Hh m) o=some (.val (v i)<|Hh m):=by
 have n:=Jm l;cases c:Qm o with
 |false=>grind [jS]
 |true=>
  rcases OT st z G b f y.fresh with I|⟨k,ok,A,B,M,t,E,D⟩
  ·have g:=(zc.1 f).1;have x:=(st.posp i g).1;have key:∀d,m+d<=pos i->Hh (m+d)=Hh m:=by
    intro d;induction d with
    |zero=>simp
    |succ d N=>
     intro s;obtain⟨Q,L⟩:=st.ordp (m+d) ae;obtain⟨e,hq⟩:∃e,ops[ord<|m+d]?=some e:=ah;rcases q.step _ e hq with⟨_,_,u⟩|⟨_,⟨_,_,u⟩|⟨u1,_⟩|⟨u1,_⟩⟩
     ·grind
     ·grind
     ·obtain⟨k,ok,O,K,J,R⟩:=st.s5 i _ o e f hq l c u1 ae;grind [Pq]
     grind [Pq]
   have:=key (pos i-m) ae;grind
  ·rw[t];exact q.stable k i ok o A f B l c j E D
theorem Df{a:Act}{d:Option Tmp}{x:Value}{t:Tmp}(h:d≠some t):(a.put d x).tmps.getD t undef=a.tmps.getD t undef:=by
 cases d with
 |none=>rfl
 |some s=>
  simp_all [yp]
theorem Fl{a:Act}{x:Value}{t:Tmp}(h:t<a.tmps.size):(a.put (some t) x).tmps.getD t undef=x:=by
 simp[yp,h]
theorem NR{a:Act}{d:Option Tmp}{x:Value}:(a.put d x).tmps.size=a.tmps.size:=by cases d<;>simp[yp]
theorem N0{a:Act}{d:Option Tmp}{x:Value}:(a.put d x).defers=a.defers:=by cases d<;>rfl
theorem LL.put(st:Stat ops anc ord pos sc){S:Nat->Prop}{m s:Nat}{a:Act}(B:LL ops pos sc S m a){i:Nat}{o:Oper}(f:ops[i]?=some o)(g:¬S i)(u:QN anc S i){x:Value}(I:m<=s)
  (D:∀(k:Nat) (ok:Oper) (t tk:Tmp),sc i=some k->ops[k]?=some ok->o.dst=some t->ok.dst=some tk->s<=pos i->(a.put o.dst x).tmps.getD t undef=a.tmps.getD tk undef):
  LL ops pos sc (fun k=>S k\/k=i) s (a.put o.dst x):=by
 refine⟨fun j k oj ok t tk E d l b n c z=>?_⟩;obtain⟨o1,J,t2,q1,K,R,M,W,N,y⟩:=st.q1 j k l;by_cases e:j=i
 ·subst e;rw[f]at d;cases d;have G:S k:=u.all k y;refine⟨?_,.inl G⟩;rw[D k ok t tk l b n c z];have q:k≠j:=ah;have:o.dst≠some tk:=(st.s6 k j ok o tk b f q c).1;rw[Df this]
 ·have A:=E.resolve_right e;obtain⟨L,Q⟩:=B.eq j k oj ok t tk A d l b n c ae;have r:k≠i:=ah;have O:o.dst≠some t:=(st.s6 j i oj o t d f e n).1;have U:o.dst≠some tk:=(st.s6 k i ok o tk b f r c).1;grind [Df]
theorem Inv.quiet(st:Stat ops anc ord pos sc)(W:Canon C call ops anc ord pos fr0 h0 v Hh F)(c:Inv C ops pos sc fr0 v Hh F p0 h0 w0 df S m fl p a w){i:Nat}{o:Oper}(A:ops[i]?=some o)(q:¬S i)(G:CG o=false)
  (M:Cy o=true->Ba (F<|pos i) ops o=false) {x:Value} (hx:((sc i).isSome=true->Ba (F<|pos i) ops o=true->pos i<m)->Ac p (v i) x):Inv C ops pos sc fr0 v Hh F p0 h0 w0 df (fun k=>S k\/k=i) m fl p (a.put o.dst x) w:=by
 have J:∀(k:Nat) (ok:Oper) (t:Tmp),k≠i->ops[k]?=some ok->ok.dst=some t->o.dst≠some t:=fun k ok t B b g=>(st.s6 k i ok o t b A B g).1
 refine⟨c.ext,c.gl,c.mn,fun k ok b O=>?_,fun k ok b r E=>.inl<|c.ma k ok b r E,by rw[NR,c.sz],by rw[N0,c.df],fun t g=>?_,fun k ok t I b g hc=>?_,fun k ok I b u D d=>?_,
  fun k j ok oj I K b U u s D z d l L=>?_⟩
 ·rw[<-c.mh k ok b O];grind
 ·have X:o.dst≠some t:=ah;rw[Df X];exact c.slot t ah
 ·by_cases e:k=i
  ·subst e;rw[A]at b;cases b;rw[g,Fl<|by rw[c.sz];exact W.dst k o t A g];grind
  ·rw[Df ah];exact c.slotw k ok t ah b g hc
 ·obtain⟨n,y,ob,f,v',Z,R,Q,k4,Y,N,k7⟩:=c.flt k ok ah b u D d;exact⟨n,y,ob,f,v',Z,R,Q,k4,Y,N,(by grind [Df])⟩
 ·exact c.inj k j ok oj ah ah b U u s D z d l L
theorem Inv.made(st:Stat ops anc ord pos sc)(c:Inv C ops pos sc fr0 v Hh F p0 h0 w0 df S m fl p a w){i:Nat}{o:Oper}(G:ops[i]?=some o)(s:Cy o=true)(hwd:Ba (F<|pos i) ops o=true)(g:m<=pos i)
  (cn:Canon C call ops anc ord pos fr0 h0 v Hh F) {ob:O} {f:Nat->V} (u:mJ C (F<|pos i) o=some (ob,f)) {x:Obj} {n:Nat} {v':Value} (hx:JM p n ob x) (N:∀(q:Pl) b,q[b]?=some (w.heap.size,n)->Ac q (f b) v'):
  Inv C ops pos sc fr0 v Hh F p0 h0 w0 df (fun k=>S k\/k=i) m (fun k=>if k=i then w.heap.size else fl k) p (a.put o.dst v') { w with heap:=w.heap.push x }:=by
 have X:∀(k:Nat) (ok:Oper) (t:Tmp),k≠i->ops[k]?=some ok->ok.dst=some t->o.dst≠some t:=fun k ok t I d r=>(st.s6 k i ok o t d G I r).1
 have Q:CG o=false:=by simp[CG,s]
 refine⟨c.ext.aside x,c.gl,c.mn,fun k ok d N=>?_,fun k ok d s L=>.inl<|c.ma k ok d s L,by rw[NR,c.sz],by rw[N0,c.df],fun t r=>?_,fun k ok t R d r hc=>?_,fun k ok R d B D g=>?_,
  fun k j ok oj R Y d W B z D A g l M=>?_⟩
 ·rw[<-c.mh k ok d N];grind
 ·have h1:o.dst≠some t:=ah;rw[Df h1];exact c.slot t ah
 ·by_cases e:k=i
  ·grind
  ·rw[Df ah];exact c.slotw k ok t ah d r hc
 ·by_cases e:k=i
  ·subst e;rw[G]at d;cases d;refine⟨n,x,ob,f,v',u,by simp,by simpa using c.ext.size,fun E=>?_,hx,by grind,fun t r=>?_⟩
   ·have:=c.ext.rel.Xg E;grind
   ·rw[r,Fl<|by rw[c.sz];exact cn.dst k o t G r]
  ·obtain⟨n',y,K,Z,J,k1,U,k3,k4,k5,k6,k7⟩:=c.flt k ok ah d B D g;refine⟨n',y,K,Z,J,k1,?_,by grind,by grind,k5,by grind,(by grind [Df])⟩;grind
 ·by_cases e:k=i<;>by_cases e':j=i
  ·omega
  ·obtain⟨_,_,_,_,_,_,U,_⟩:=c.flt j oj ah W z A l;grind
  ·obtain⟨_,_,_,_,_,_,U,_⟩:=c.flt k ok ah d B D g;grind
  ·simp only[e,vf,e']at M;exact c.inj k j ok oj ah ah d W B z D A g l M
theorem Inv.wrote(st:Stat ops anc ord pos sc)(cn:Canon C call ops anc ord pos fr0 h0 v Hh F){i:Nat}{o:Oper}(c:Inv C ops pos sc fr0 v Hh F p0 h0 w0 df S (pos i) fl p a w)(s:ops[i]?=some o)(_:CG o=true)(u:¬S i)
  {p':Pl} {w':World} {x:Value} (d:Ext p (Hh<|pos i) w p' (Hh<|pos i+1) w') (hx:Ac p' (v i) x):
  Inv C ops pos sc fr0 v Hh F p0 h0 w0 df (fun k=>S k\/k=i) (pos i+1) fl p' (a.put o.dst x) w':=by
 have R:∀(k:Nat) (ok:Oper) (t:Tmp),k≠i->ops[k]?=some ok->ok.dst=some t->o.dst≠some t:=fun k ok t I b g=>(st.s6 k i ok o t b s I g).1
 have l:=(zc.1 s).1;have Z:∀ {k:Nat} {ok:Oper},ops[k]?=some ok->pos k=pos i->k=i:=fun {k ok} b e=>by
  have K:=(zc.1 b).1;rw[<-(st.posp k K).2,e,(st.posp i l).2]
 refine⟨c.ext.trans d,c.gl.ext d,(st.posp i l).1,fun k ok b M=>?_,fun k ok b B r=>?_,by rw[NR,c.sz],by rw[N0,c.df],fun t g=>?_,fun k ok t N b g hc=>?_,fun k ok N b E J L=>?_,
  fun k j ok oj N W b hj E D J G L U A=>?_⟩
 ·constructor
  ·rintro(h|rfl)
   ·have:=(c.mh k ok b M).1 h;omega
   ·omega
  ·intro h;by_cases e:pos k=pos i
   ·grind
   ·exact .inl ((c.mh k ok b M).2 ae)
 ·by_cases e:pos k=pos i
  ·grind
  ·exact .inl (c.ma k ok b B ae)
 ·have Q:o.dst≠some t:=ah;rw[Df Q];exact d.jN (c.slot t ah)
 ·by_cases e:k=i
  ·subst e;rw[s]at b;cases b;rw[g,Fl<|by rw[c.sz];exact cn.dst k o t s g];exact hx
  ·rw[Df ah];refine d.jN (c.slotw k ok t ah b g fun Q h2=>?_);grind
 ·obtain⟨n,y,ob,f,v',k1,O,Y,k4,k5,X,k7⟩:=c.flt k ok ah b E J ae;have r:=(zc.1 O).1;obtain⟨q,rfl⟩:=d.pre;refine⟨n,y,ob,f,v',k1,by rw[d.same _ r k4];exact O,Y,fun z=>?_,k5.mono _,X,(by grind [Df])⟩;rcases d.im _ z with h|h
  ·grind
  ·omega
 ·exact c.inj k j ok oj ah ah b hj E D J G ae ae A
theorem Inv.along(b:Inv C ops pos sc fr0 v Hh F p0 h0 w0 df S m fl p a w){p':Pl}{w':World}(c:Ext p (Hh m) w p' (Hh m) w'):Inv C ops pos sc fr0 v Hh F p0 h0 w0 df S m fl p' a w':=by
 refine⟨b.ext.trans c,b.gl.ext c,b.mn,b.mh,b.ma,b.sz,b.df,fun t I=>c.jN<|b.slot t I,fun i o t s u G r=>c.jN<|b.slotw i o t s u G r,fun k ok D J K A e=>?_,b.inj⟩;obtain⟨n,y,ob,f,v',B,j,z,L,x,l,E⟩:=b.flt k ok D J K A e;have g:=(zc.1 j).1;obtain⟨q,rfl⟩:=c.pre;refine⟨n,y,ob,f,v',B,by rw[c.same _ g L];exact j,z,fun d=>?_,x.mono _,l,E⟩;rcases c.im _ d with h|h
 ·grind
 ·omega
theorem mF{o:Oper}(h:Cy o=true):∀c,o.op≠ .defer c:=by
 grind [Cy]
theorem up(hC:C.Ok P)(X:call.Ok C P)(st:Stat ops anc ord pos sc)(D:Canon C call ops anc ord pos fr0 h0 v Hh F)(I:Inv C ops pos sc fr0 v Hh F p0 h0 w0 df S m fl p a w)(M:LL ops pos sc S m a)(hd:Down anc S)(J:Rest ops pos S m)
  {i:Nat} {o:Oper} (d:ops[i]?=some o) (y:QN anc S i) {Q:Exit->Act->World->Prop} {K:Act->World->Prop}
  (R:∀m' fl' p' a' w',Inv C ops pos sc fr0 v Hh F p0 h0 w0 df (fun k=>S k\/k=i) m' fl' p' a' w'->LL ops pos sc (fun k=>S k\/k=i) m' a'->Rest ops pos (fun k=>S k\/k=i) m'->K a' w') {ro:Option Nat} {nn:Nat}:wpOpIn (FW ro) nn P ops Q i K a w:=by
 have hin:=(zc.1 d).1;have E:∀cs b,o.op≠ .select cs b:=fun cs b=>Region.noSelect_spec st.sel i o cs b d
 have l:Rest ops pos (fun k=>S k\/k=i) m:=by
  grind [Rest]
 unfold wpOpIn;simp only[d];cases r:CG o with
 |false=>
  by_cases hcp:(sc i).isSome=true/\m<=pos i
  ·
   obtain⟨k,hk⟩:=yf.1 hcp.1;obtain⟨o2,ok,t,q1,q2,q3,q4,q5,q6,q7⟩:=st.q1 i k hk;rw[d]at q1;cases q1;have hw:zy o (yielded ops a.tmps)=true:=by grind [zy]
   simp only[hw,wm];refine⟨fun _ _=>trivial,?_⟩;have hrun:(execOp a.eval o).run P w=.ok (.value<|a.tmps.getD t undef) w:=by
    unfold execOp;rcases q3 with q3|q3<;>simp[q3,Act.eval]
   rw[zl _ _ _ ah,hrun,zr];have hnal:Cy o=false:=by grind [Cy]
   refine R m fl p _ w (I.quiet st D d y.fresh r ah<|by grind [Ba]) (M.put st d y.fresh y ae fun k' ok' t' tk h1 h2 Y h4 _=>?_) l;rw[hk]at h1;cases h1;rw[q2]at h2;cases h2;rw[q6]at h4;cases h4;rw[Y,Fl<|by rw[I.sz];exact D.dst i o t' d Y]
  have Z:∀k,sc i=some k->pos i<m:=ah;have hfl:∀(k:Nat) (ok:Oper) (t:Tmp),ops[k]?=some ok->(Cy ok=true\/(sc k).isSome=true)->ok.dst=some t->t∈reads ops o->anc i k=true->pos k<m:=by
   intro k ok t hk N hkt ht G;rcases st.s3 k i ok o t hk d N r hkt ht G with h|⟨j,oj,j1,j2,j3,j4⟩
   ·have:=Z k h;have:=st.apos _ _ G;omega
   ·have:=(I.mh j oj j1 j2).1<|y.all j j4;have:=st.apos _ _ j3;omega
  have z:∀x,LL ops pos sc (fun k=>S k\/k=i) m (a.put o.dst x):=fun x=>M.put st d y.fresh y ae ah
  have B:=operands st D I hd d y hfl;rw[Q6 B];rcases D.step i o d with⟨u1,u2,s⟩|⟨u1,u⟩
  ·simp only[u1,zz,vf];refine⟨fun _ _=>trivial,?_⟩;exact R m fl p _ w (I.quiet st D d y.fresh r (fun _=>u1)<|by simp_all [Ac,undef]) (z _) l
  ·simp only[u1,wm];refine⟨fun _ _=>trivial,?_⟩;rcases u with⟨u2,s,u4⟩|⟨u2,ob,f,s,u4,u5⟩|⟨u2,s⟩
   ·have U:=WN st D hd I J d y u2 u1 s;obtain⟨v',p',w',L,O,W⟩:=JA hC I.ext.rel I.gl B E U;rw[zl _ _ _<|Hc U,L,zr];have hi2:=I.along W;exact R m fl p' _ w' (hi2.quiet st D d y.fresh r (by grind [Jm]) fun _=>O) (z _) l
   ·have hle:m<=pos i:=by
     rcases OT st hd I J d y.fresh with h|⟨k,ok,h1,h2,Y,h4,h5,h6⟩
     ·exact h
     ·rcases st.s4 k i ok o h1 d h2 u2 with h7|h7
      ·grind
      ·omega
    obtain⟨x,n,v',L,O,W⟩:=yZ (P:=P) hC I.gl B s;rw[zl _ _ _<|mF u2,L,zr];exact R m _ p _ _ (I.made st d u2 u1 hle D s O W) (z _) l
   grind
 |true=>
  obtain⟨hnr,hnal⟩:=Sq r;have hle:m<=pos i:=by
   rcases yq (pos i) m with h|h
   ·exact wh ((I.mh i o d r).2 h) y.fresh
   omega
  have hpn:=(st.posp i hin).1;obtain⟨p1,c⟩:=Inv.adv st D (pos i-m) m I M ae (fun q h1 h2 oq hq=>by
   obtain⟨L,O⟩:=st.ordp q ae;refine⟨?_,fun N=>?_⟩
   ·grind [Pq]
   ·rcases st.s4 i (ord q) o oq d hq r N with Y|Y
    ·exact y.all _ Y
    omega)
  rw[show m+(pos i-m)=pos i from by omega]at c;have B:=operands st D c hd d y fun k ok t hk N _ _ G=>st.apos _ _ G
  have z:∀x,LL ops pos sc (fun k=>S k\/k=i) (pos i+1) (a.put o.dst x):=fun x=>M.put st d y.fresh y ae ae
  rw[Q6 B];have g:Rest ops pos (fun k=>S k\/k=i) (pos i+1):=.inr ah;rcases D.step i o d with⟨u1,u2,s⟩|⟨u1,u⟩
  ·simp only[u1,zz,vf];refine⟨fun _ _=>trivial,?_⟩;have he:Ext p1 (Hh<|pos i) w p1 (Hh<|pos i+1) w:=by rw[s];exact zq c.ext.rel
   exact R _ _ _ _ _ (c.wrote st D d r y.fresh he<|by simp_all [Ac,undef]) (z _) g
  ·simp only[u1,wm];refine⟨fun _ _=>trivial,?_⟩;rcases u with⟨u2,s,u4⟩|⟨u2,ob,f,s,u4,u5⟩|⟨u2,s⟩
   ·grind
   ·grind
   ·unfold DN at s;split at s
    case h_4=>cases s
    case h_1=>
     rename_i vv hh A;obtain⟨rfl,rfl⟩:=s;obtain⟨v',p',w',L,O,W⟩:=JA hC c.ext.rel c.gl B E A;rw[zl _ _ _<|Hc A,L,zr];exact R _ _ _ _ _ (c.wrote st D d r y.fresh W O) (z _) g
    case h_2=>
     rename_i hh A;simp only[zg,ym]at s;obtain⟨u4,rfl⟩:=s;obtain⟨p',w',L,W⟩:=JA hC c.ext.rel c.gl B E A;rw[zl _ _ _<|Hc A,L,Oper.uponIn_skip];exact R _ _ _ _ _ (c.wrote st D d r y.fresh W<|by rw[<-u4];simp[Ac,undef]) (z _) g
    case h_3=>
     rename_i f args A;obtain⟨args',L,O⟩:=JA hC c.ext.rel c.gl B E A;rw[zl _ _ _<|Hc A,L,Oper.uponIn_enter];split at s
     case h_2=>cases s
     rename_i x1 x2 hcl;cases s;refine⟨(by grind [FW,yb]),WS.2<|(X.fn f args _ _ hcl p1 w args' c.ext.rel c.gl O).mono ?_⟩;rintro e w' ⟨v',h',x',p',hm,rfl,k1,k2⟩;rw[zn]at hm;cases hm;exact R _ _ _ _ _ (c.wrote st D d r y.fresh k2 k1) (z _) g
theorem Inv.congr{b:Nat->Prop}(h:∀k,S k↔b k)(c:Inv C ops pos sc fr0 v Hh F p0 h0 w0 df S m fl p a w):Inv C ops pos sc fr0 v Hh F p0 h0 w0 df b m fl p a w:=by
 have e:S=b:=ah;grind
theorem LL.congr{b:Nat->Prop}(h:∀k,S k↔b k)(c:LL ops pos sc S m a):LL ops pos sc b m a:=by
 have e:S=b:=ah;grind
def Ls(l:Array Bool)(k:Nat):Prop:=l.getD k false=true
theorem Ue{l:Array Bool}(n:Nat)(d:l.size=n){i:Nat}(c:i<n)(b:l.getD i true=false):
  ((z6 n).filter fun k=> !(l.setIfInBounds i true).getD k true).length<((z6 n).filter fun k=> !l.getD k true).length:=by
 have sub:∀k,(!(l.setIfInBounds i true).getD k true)=true->(!l.getD k true)=true:=by
  intro k g;by_cases e:i=k
  ·grind
  simp_all
 have key:∀(L:List Nat),(L.filter fun k=> !(l.setIfInBounds i true).getD k true).length<=(L.filter fun k=> !l.getD k true).length/\(i∈L->(L.filter fun k=> !(l.setIfInBounds i true).getD k true).length<(L.filter fun k=> !l.getD k true).length):=by
  intro L;induction L with
  |nil=>simp
  |cons x L f=>
   simp only[List.filter_cons];constructor
   ·grind
   ·by_cases e:i=x
    ·subst e;rw[wc (by simp),wd<|by simp[b]];grind
    grind
 grind
theorem jG(hC:C.Ok P)(s:call.Ok C P)(st:Stat ops anc ord pos sc)(z:Canon C call ops anc ord pos fr0 h0 v Hh F){Q:Exit->Act->World->Prop}
  (hQ:∀p' I w',Cg p' (F ops.size) I->Ext p0 h0 w0 p' (Hh ops.size) w'->I.defers=df->Q .normal I w') {ro:Option Nat} {nn:Nat}:
  ∀(b:Nat) (l:Array Bool),l.size=ops.size->((z6 ops.size).filter fun k=> !l.getD k true).length<=b->∀ {m:Nat} {fl:Nat->Nat} {p:Pl} {a:Act} {w:World},
   Inv C ops pos sc fr0 v Hh F p0 h0 w0 df (Ls l) m fl p a w->LL ops pos sc (Ls l) m a->Down anc (Ls l)->Rest ops pos (Ls l) m->wpAnyIn (FW ro) nn P .any ops Q b l a w:=by
 have fin:∀(l:Array Bool),l.size=ops.size->yh .any ops l=[]->∀ {m:Nat} {fl:Nat->Nat} {p:Pl} {a:Act} {w:World},
   Inv C ops pos sc fr0 v Hh F p0 h0 w0 df (Ls l) m fl p a w->LL ops pos sc (Ls l) m a->Q .normal a w:=by
  intro l U E m fl p a w x n;have all:∀q,q<=ops.size->∀k,k<ops.size->pos k<q->Ls l k:=by
   intro q;induction q with
   |zero=>omega
   |succ q L=>
    intro hq k f hlt;by_cases e:pos k=q
    ·apply Classical.byContradiction;intro Y;have X:k∈yh .any ops l:=by
      rw[mem_ready];refine⟨?_,ops[k],by simp[f],fun R O hb=>?_⟩
      ·grind [Ls]
      ·obtain⟨N,A⟩:=st.dir k _ R (by simp[f]) O hb;have h3:=st.apos _ _ N;exact L ae R.on A ae
     grind
    grind
  have r:∀k,k<ops.size->Ls l k:=fun k f=>all ops.size ae k f (st.posp k f).1
  obtain⟨p',c⟩:=Inv.adv st z (ops.size-m) m x n (by have:=x.mn;omega) (fun q N A o ho=>by
   obtain⟨W,g2⟩:=st.ordp q ae;refine⟨?_,ah⟩;cases hv:CG o with
   |false=>rfl
   |true=>have:=(x.mh _ o ho hv).1<|r _ W;omega)
  rw[show m+(ops.size-m)=ops.size from by have:=x.mn;omega]at c;refine hQ p' a w ⟨by rw[z.fn _ ae,c.sz],fun t=>?_⟩ c.ext c.df;by_cases hw:∃(k:Nat) (ok:Oper),ops[k]?=some ok/\ok.dst=some t
  ·obtain⟨k,ok,f,y⟩:=hw;have u:=(zc.1 f).1;rw[Fw st z f y _ ae (st.posp k u).1];exact c.slotw k ok t (r k u) f y fun _ _=>(st.posp k u).1
  ·rw[Fz st z _ ae ah];exact c.slot t ah
 intro b;induction b with
 |zero=>
  intro l U B m fl p a w x n M g;have E:yh .any ops l=[]:=by
   simp_all [yh,z6]
  exact⟨E,ah⟩
 |succ b L=>
  intro l U B m fl p a w x n M g;refine⟨ah,fun i Z=>?_⟩;obtain⟨N,o,A,h3⟩:=mem_ready.1 Z;have hin:=(zc.1 A).1;have d:QN anc (Ls l) i:=by
   refine⟨fun hs=>?_,fun k f=>?_⟩
   ·grind [Ls]
   ·obtain⟨o',e,W,g2,g3,g4⟩:=st.edge i k f;grind [Ls,Down]
  refine up hC s st z x n M g A d fun m' fl' p' I w' c D J=>?_
  have K:∀k,(Ls l k\/k=i)↔Ls (l.setIfInBounds i true) k:=by
   intro k;unfold Ls;by_cases e:k=i
   ·simp_all
   ·rw[getD_set_ne false ae];simp[e]
  refine L (l.setIfInBounds i true) ah ?_ (c.congr K) (D.congr K) ?_ (by simp_all)
  ·grind [Ue]
  ·intro j k G f;rw[<-K]at G ⊢;rcases G with G|rfl
   ·exact .inl<|M j k G f
   ·exact .inl<|d.all k f
theorem lI(l:C.Ok P)(b:call.Ok C P)(g:P.follows .mixedOrders=true)(st:Stat ops anc ord pos sc)(d:Canon C call ops anc ord pos fr0 h0 v Hh F){Q:Exit->Act->World->Prop}(j:R p h0 w)(s:Gl C p)(e:Cg p fr0 a)
  {id:Nat} (n:∀p' c w',Cg p' (F ops.size) c->Ext p h0 w p' (Hh ops.size) w'->c.defers=a.defers->Q .normal c w') {ro:Option Nat} {o:Nat}:(Code.region id ops true).wpIn (FW ro) o P Q a w:=by
 refine wpIn_region_any g ?_;have r:=Ext.drew j<|w.drawn+1;have q:∀k,¬Ls (Array.replicate ops.size false) k:=by
  intro k f;unfold Ls at f;rw[zk]at f;grind
 refine jG (p0:=p) (h0:=h0) (w0:=w) (df:=a.defers) l b st d n ops.size _ (by simp) ah (m:=0) (fl:=fun _=>0) (p:=p)
  ⟨by rw[d.h0];exact r,s,Nat.zero_le _,ah,ae,e.1.symm,rfl,fun t _=>e.2 t,ah,ah,ah⟩
  ⟨ah⟩ (fun i k h=>ah) (.inl rfl)
end
structure MX where
 anc:List Nat
 ord:List Nat
 pos:List Nat
 sc:List (Option Nat)
def Acl(acc:List Nat)(o:Oper):Nat:=
 o.after.toList.foldl (fun s e=>bif yc .any e then s|||(2^e.on|||acc.getD e.on 0)else s) 0
def vL:List Oper->List Nat->List Nat
 |[],b=>b
 |o::os,b=>vL os<|b++[Acl b o]
def tb(m i:Nat):Bool:=m.testBit i
def sub(a d:Nat):Bool:=zo (a&&&d) a
def JD(f:Nat->Oper->Bool):Nat->List Oper->Option Nat
 |_,[]=>none
 |i,o::os=>bif f i o then some i else JD f (i+1) os
def jK(f:Nat->Oper->Bool):Nat->List Oper->List Nat
 |_,[]=>[]
 |i,o::os=>bif f i o then i::jK f (i+1) os else jK f (i+1) os
def U4(ops:List Oper)(anc:List Nat):Nat->Nat->List Nat->List Nat
 |0,_,out=>out.reverse
 |fuel+1,d,out=>
  match JD (fun i o=>Ed o&& !tb d i&&sub (anc.getD i 0) d) 0 ops with
  |some i=>U4 ops anc fuel (d|||2^i) (i::out)
  |none=>
   match JD (fun i o=>CG o&& !tb d i) 0 ops with
   |some k=>
    let b:=jK (fun i o=>Cy o&& !tb d i&&tb (anc.getD k 0) i) 0 ops
    bif b.isEmpty then U4 ops anc fuel (d|||2^k) (k::out)
    else U4 ops anc fuel (b.foldl (fun s i=>s|||2^i) d)<|b.reverse++out
   |none=>
    match JD (fun i o=>Cy o&& !tb d i) 0 ops with
    |some i=>U4 ops anc fuel (d|||2^i) (i::out)
    |none=>out.reverse
def idx(l:List Nat)(i:Nat):Nat:=l.getD i 0
def Ab9(ord:List Nat)(n:Nat):List Nat:=(z6 n).map fun i=>ord.idxOf i
def RH(o:Oper):Option Tmp:=
 match o.guard,o.op with
 |none,.assign (.tmp t)=>some t
 |none,.move (.tmp t)=>some t
 |_,_=>none
def Adg(ops:List Oper)(anc:List Nat)(i:Nat)(o:Oper):Option Nat:=
 match RH o with
 |some t=>
  match JD (fun k x=>Cy x&&(x.dst==some t)&&tb (anc.getD i 0) k) 0 ops with
  |some k=>match JD (fun h x=>CG x&&tb (anc.getD h 0) k&&tb (anc.getD i 0) h) 0 ops with
   |none=>some k
   |some _=>none
  |none=>none
 |none=>none
def Ek(ops:Array Oper):MX:=
 let anc:=vL ops.toList []
 let ord:=U4 ops.toList anc (3*ops.size+3) 0 []
 ⟨anc,ord,Ab9 ord ops.size,ops.toList.zipIdx.map fun(o,i)=>Adg ops.toList anc i o⟩
def MX.s(pl:MX)(i:Nat):Option Nat:=pl.sc.getD i none
def MX.a(pl:MX)(j i:Nat):Bool:=(idx pl.anc j).testBit i
def Xx(ops:Array Oper)(f:Nat->Oper->Nat->Oper->Bool):Bool:=
 ops.toList.zipIdx.all fun(o,i)=>ops.toList.zipIdx.all fun(o',j)=>f i o j o'
def HZ(ops:Array Oper)(pl:MX):Bool:=
 let n:=ops.size
 let A:=pl.a
 let pos:=idx pl.pos
 let ord:=idx pl.ord
 Region.noSelect ops&&
 ((z6 n).all fun q=>zh (ord q) n&&zo (pos<|ord q) q)&&
 ((z6 n).all fun i=>zh (pos i) n&&zo (ord<|pos i) i)&&
 (pl.anc.length==n)&&(pl.ord.length==n)&&
 (pl.sc.zipIdx.all fun(s,i)=>match s with
  |none=>true
  |some k=>match ops[i]?,ops[k]? with
   |some o,some ok=>match RH o with
    |some t=>Cy ok&&(ok.dst==some t)&&A i k
    |none=>false
   |_,_=>false)&&
 (ops.toList.zipIdx.all fun(o,j)=>zh (idx pl.anc j) (2^n)&&
  ((z6 n).all fun i=> !A j i||((o.after.toList.any fun e=>yc .any e&&(zo e.on i||A e.on i))&&zh (pos i) (pos j)))&&
  (o.after.toList.all fun e=> !yc .any e||(A j e.on&&zh e.on n)))&&
 (Xx ops fun i o j o'=>
  (!(CG o&&CG o')||zo i j||A i j||A j i)&&
  (!(CG o&&Ed o')||A j i||zh (pos j) (pos i))&&
  (!((Cy o||(pl.s i).isSome)&& !CG o')|| !A j i||(match o.dst with|some t=> !((reads ops o').contains t)|none=>true)||(pl.s j==some i)||(ops.toList.zipIdx.any fun(x,k)=>CG x&&A k i&&A j k))&&
  (!(CG o&&Cy o')||A i j||zh (pos i) (pos j))&&
  (!(Ed o&&Qm o&&Cy o')|| !zh (pos j) (pos i)||(ops.toList.zipIdx.any fun(x,k)=>CG x&&zh (pos j) (pos k)&&zh (pos k) (pos i)))&&
  (zo i j||(match o.dst with
   |none=>true
   |some t=> !(o'.dst==some t)&&(!((reads ops o').contains t)||A j i||A i j))))
theorem Jd{ops:Array Oper}{i:Nat}{o:Oper}(h:ops[i]?=some o):(o,i)∈ops.toList.zipIdx:=by
 grind
theorem iZ{ops:Array Oper}{i:Nat}{o:Oper}(h:(o,i)∈ops.toList.zipIdx):ops[i]?=some o:=by
 grind
theorem UG{o:Oper}{t:Tmp}(h:RH o=some t):(o.op=.assign (.tmp t)\/o.op=.move (.tmp t))/\o.guard=none:=by
 grind [RH]
theorem Xh{ops:Array Oper}{pl:MX}(G:HZ ops pl=true):Stat ops pl.a (idx pl.ord) (idx pl.pos) pl.s:=by
 unfold HZ at G;simp only[ze]at G;obtain⟨⟨⟨⟨⟨⟨⟨h0,U⟩,X⟩,Q⟩,_⟩,L⟩,q⟩,Z⟩:=G;simp only[zj,yk,ze,zt,Bo,w5]at U X;simp only[zj]at q;have n:∀(i j:Nat) (o o':Oper),ops[i]?=some o->ops[j]?=some o'->_:=fun i j o o' f d=>zj.1 (zj.1 Z (o,i)<|Jd f) (o',j)<|Jd d
 simp only[ze,zm,zw,Bo,w5,Gf,w9,Bool.and_eq_false_imp]at n;have g:∀(j i:Nat),pl.a j i=true->j<ops.size/\i<ops.size:=by
  intro j i h;have d:j<ops.size:=by
   rcases yq j ops.size with b|b
   ·exact b
   ·have hl:pl.anc.length=ops.size:=by simpa using Q
    unfold MX.a idx at h;rw[yd,List.getElem?_eq_none ae]at h;simp at h
  refine⟨d,?_⟩;have b:=q (ops[j],j) (Jd<|by simp[d]);simp only[ze,zt]at b;rcases yq i ops.size with c|c
  ·exact c
  ·have y:=b.1.1;have M:idx pl.anc j<2^i:=Nat.lt_of_lt_of_le y (Nat.pow_le_pow_right ae c);unfold MX.a at h;rw[Nat.testBit_lt_two_pow M]at h;cases h
 refine⟨h0,ae,ae,fun j i h=>?_,fun j o e d B R=>?_,fun j i h=>?_,fun i j o o' f d z Y I=>?_,fun i j o o' f d z K=>?_,fun i k h=>?_,fun j k o o' t d hk A z r l h=>?_,fun i j o o' f d z A=>?_,
  fun i j o o' f d K E A hlt=>?_,fun i j o o' t f d I r=>?_⟩
 ·obtain⟨d,f⟩:=g j i h;have b:=q (ops[j],j) (Jd<|by simp[d]);simp only[ze,zj,yk,zm,zw]at b;rcases b.1.2 i f with c|c
  ·rw[h]at c;cases c
  ·obtain⟨e,B,y⟩:=yg.1 c.1;simp only[ze,zm,Bo,w5]at y;exact⟨ops[j],e,by simp[d],by simpa using B,y.1,y.2⟩
 ·have b:=q (o,j)<|Jd d;simp only[ze,zj,zm,zw,zt]at b;rcases b.2 e (by simpa using B)with c|c
  ·rw[R]at c;cases c
  omega
 ·obtain⟨d,f⟩:=g j i h;have b:=q (ops[j],j) (Jd<|by simp[d]);simp only[ze,zj,yk,zm,zw,zt]at b;rcases b.1.2 i f with c|c
  ·rw[h]at c;cases c
  omega
 ·have:=(n i j o o' f d).1.1.1.1.1;simp_all
 ·have:=(n i j o o' f d).1.1.1.1.2;simp_all
 ·have l:(pl.s i,i)∈pl.sc.zipIdx:=by
   rw[List.mem_zipIdx_iff_getElem?];unfold MX.s at h ⊢;rw[yd]at h ⊢;cases N:pl.sc[i]? with
   |none=>rw[N]at h;cases h
   |some x=>rfl
  have b:=zj.1 L _ l;simp only[h]at b;split at b
  case h_2=>cases b
  rename_i o ok W D;split at b
  case h_2=>cases b
  rename_i t r;simp only[ze,wk]at b;obtain⟨g1,O⟩:=UG r;exact⟨o,ok,t,W,D,g1,O,b.1.1,b.1.2,b.2⟩
 ·have b:=(n j k o o' d hk).1.1.1.2;have u:(Cy o||(pl.s j).isSome)=true:=by simpa using A
  rw[z,h,r]at b;have hc:(reads ops o').contains t=true:=by simpa using l
  simp only[zm]at u;simp only[hc,Bool.not_false,Bool.not_true,zz,or_false,Bool.true_eq_false]at b;rcases b with(b|b)|b
  ·exact wh u ae
  ·exact .inl (by simpa using b)
  ·obtain⟨⟨x,i⟩,J,c⟩:=yg.1 b;simp only[ze]at c;exact .inr ⟨i,x,iZ J,c.1.1,c.1.2,c.2⟩
 ·have:=(n i j o o' f d).1.1.2;simp_all
 ·have b:=(n i j o o' f d).1.2;rw[K,E,A]at b;simp only[and_self,forall_const,Bool.true_eq_false,false_or]at b;rcases b with b|b
  ·omega
  ·obtain⟨⟨x,k⟩,l,c⟩:=yg.1 b;simp only[ze,w5]at c;exact⟨k,x,iZ l,c.1.1,c.1.2,c.2⟩
 ·have b:=(n i j o o' f d).2;rcases b with b|b
  ·omega
  ·rw[r]at b;simp only[ze,zw,zm,beq_eq_false_iff_ne]at b;refine⟨b.1,fun l=>?_⟩;rcases b.2 with(c|c)|c
   ·have:(reads ops o').contains t=true:=by simpa using l
    rw[this]at c;cases c
   ·exact .inl c
   ·exact .inr c
theorem sE{ops:Array Oper}{pl:MX}(b:HZ ops pl=true):pl.ord.length=ops.size:=by
 unfold HZ at b;grind
end Go.Det
