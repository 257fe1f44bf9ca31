import Derived.Test.YtbmofcgiokkikaaGreatDoorX01
import Derived.Laws.IdiomStrings
import Derived.Lib.UnsafeStr
import Derived.Lib.Builder
import Derived.RangeFuncRecord
import Derived.LoopNIn
import Derived.OrdersIn
import Derived.RangeFuncLeaves
/- A part of a proof; no law is stated here. -/
noncomputable section
open Array renaming getElem?_eq_some_iff -> zc, getD_eq_getD_getElem? -> zk, getElem?_toList -> zu, getElem?_setIfInBounds_ne -> z8
open Go.Result renaming andThen_ok -> zd
open Bool renaming and_eq_true -> ze, or_eq_true -> zm, not_eq_true' -> zw, false_eq_true -> zz
open Go.Sem renaming run_bind -> zf, run_pure -> zp, run -> yd
open Option.some renaming injEq -> zg
open Nat renaming blt -> zh, beq -> zo, blt_eq -> zt, ble -> z7, ble_eq -> yn, lt_or_ge -> yp
open Option renaming map_eq_some_iff -> zi, isSome_iff_exists -> ye
open List renaming all_eq_true -> zj, mem_singleton -> zn, range -> z6, getD_eq_getElem?_getD -> yc, any_eq_true -> yf, mem_range -> yj, mem_cons -> ym
open Go.Oper renaming semAt_eq -> zl, uponIn_value -> zr
open Go.Det.Ext renaming refl -> zq
open Go.Deferred renaming ofValue -> zx
open Go.Region renaming wanted -> zy, binds -> yb, ready -> yg
open Go.Fence renaming wide -> ya
open Go.Question renaming forced -> yh
open Go.Op renaming operands -> yi
open Prod.mk renaming injEq -> yk
open Go.Act renaming put -> yo
namespace Go.Det
section
variable {T:Cj}{P:Program}{p:Pl}{h:H}{w:World}
def Ig(T:Cj)(h:H)(t:TypeId)(x:V):Option (V×H):=
 match T.und t,x with
 |some (.map _ _),.nilm=>some (.ptr h.nx 0,h.push<|.miter none 0 [] 0)
 |some (.map _ _),.map b=>match h.get b with
  |some (.map _ c)=>some (.ptr h.nx 0,h.push<|.miter (some b) c [] c)
  |_=>none
 |_,_=>Uj T h t x
theorem Zj(g:T.Ok P)(hr:R p h w){t:TypeId}{x:V}{x':Value}(i:Ae p x x'){v:V}{h':H}(c:Ig T h t x=some (v,h')):
  ∃v' p' w',(Instr.range t x').run P w=.ok v' w'/\Ae p' v v'/\Ext p h w p' h' w':=by
 unfold Ig at c;split at c
 case h_1=>
  rename_i e;cases c;subst i;have f:=Ext.push (n:=0) hr (o:=.miter none 0 [] 0) (x:=.mapIter none 0 #[] 0) rfl;refine⟨.pointer<|some ⟨w.heap.size,0,none⟩,_,_,?_,?_,f⟩
  ·unfold Instr.range;simp only[zf,AE g e,zd,zp,run_newObj]
  ·exact⟨w.heap.size,0,by rw[<-hr.len];simp,rfl⟩
 case h_2=>
  rename_i b e;split at c
  case h_2=>cases c
  rename_i es d j;cases c;obtain⟨r,n,hp,rfl⟩:=i;obtain⟨r',n',o,h1,h2,l,h3,h4⟩:=hr.obj _ _ j;rw[hp]at h1;cases h1;subst h3;have f:=Ext.push (n:=0) hr (o:=.miter (some b) d [] d) (x:=.mapIter (some r) d #[] d) ⟨r,n,hp,rfl⟩;refine⟨.pointer<|some ⟨w.heap.size,0,none⟩,_,_,?_,?_,f⟩
  ·unfold Instr.range;simp only[zf,AE g e,zd,zp,getObj,yd,h2,run_newObj]
  ·exact⟨w.heap.size,0,by rw[<-hr.len];simp,rfl⟩
 grind [gZ]
def U6(h:H)(d:V)(c:Bool):Option (List<|V×H):=
 match d,c with
 | .ptr b 0,false=>
  match h.get b with
  |some (.miter none _ _ _)=>some [(.tup [.bool false],h)]
  |some (.miter (some m) since seen last)=>
   match h.get m with
   |some (.map es f)=>
    bif es.all (fun e=>zh e.2.2 since)&&z7 since last then
     match es.filter (fun e=> !seen.contains e.2.2)with
     |[]=>some [(.tup [.bool false],h)]
     |left=>some (left.map fun e=>(.tup [.bool true,e.1,e.2.1],h.put b<|.miter (some m) since (seen++[e.2.2]) f))
    else none
   |_=>none
  |_=>none
 |_,_=>none
theorem D2.get{es:List (V×V×Nat)}{l:List MapEntry}(c:D2 p es l):∀ {i:Nat} {e:MapEntry},l[i]?=some e->∃k v,es[i]?=some (k,v,e.born)/\Ae p k e.key/\Ae p v e.val:=by
 induction c with
 |nil=>simp
 |@cons k v b es g l d j n _ f=>
  grind
theorem D2.filter{es:List (V×V×Nat)}{l:List MapEntry}(f:D2 p es l)(q:Nat->Bool):D2 p (es.filter fun e=>q e.2.2) (l.filter fun e=>q e.born):=by
 induction f with
 |nil=>exact .nil
 |@cons k v b es j l g i d _ c=>
  simp only[List.filter_cons,d];cases q b with
  |false=>exact c
  |true=>exact .cons g i d c
theorem D2.all{es:List (V×V×Nat)}{l:List MapEntry}(c:D2 p es l)(q:Nat->Bool):(es.all fun e=>q e.2.2)=l.all fun e=>q e.born:=by
 induction c with
 |nil=>rfl
 |@cons k v b es g l d i j _ f=>grind
theorem D2.find{es:List (V×V×Nat)}{l:List MapEntry}(d:D2 p es l)(q:Nat->Bool){e:V×V×Nat}(o:es.find? (fun e=>q e.2.2)=some e):∃c,l.find? (fun e=>q e.born)=some c/\Ae p e.1 c.key/\Ae p e.2.1 c.val:=by
 induction d with
 |nil=>grind
 |@cons k v b es i l f j n _ g=>
  grind
theorem pL(n:Nat)(b:0<n):∃i d,(choose<|.mapNext n).run P w=.ok i { w with drawn:=d }/\i<n/\w.drawn<=d:=by
 rw[run_choose];by_cases c:n<=1
 ·refine⟨0,w.drawn,?_,b,Nat.le_refl _⟩;simp[yh,c]
 ·refine⟨w.tape w.drawn (.mapNext n) % n,w.drawn+1,?_,Nat.mod_lt _ b,Nat.le_succ _⟩;grind [yh,Question.cut]
theorem fA(hr:R p h w){I:V}{y:Value}{g:Bool}{t:TypeId}(Q:Ae p I y){l:List (V×H)}(f:U6 h I g=some l):
  ∃v h' v' p' w',(v,h')∈l/\(Instr.next y g t).run P w=.ok v' w'/\Ae p' v v'/\Ext p h w p' h' w':=by
 unfold U6 at f;split at f
 case h_2=>cases f
 rename_i b;simp only[Ae]at Q;obtain⟨r,n,hp,rfl⟩:=Q;split at f
 case h_3=>cases f
 case h_1=>
  rename_i since seen last A;cases f;obtain⟨Z,n',x,j,B,D⟩:=hr.obj _ _ A;rw[hp]at j;cases j;simp only[LM]at D;subst D;refine⟨_,_,.tuple #[.bool false],p,w,zn.2 rfl,?_,by simp[Ae],zq hr⟩;unfold Instr.next;simp only[zf,getObj,yd,B,zd];rfl
 case h_2=>
  rename_i m since seen last A;split at f
  case h_2=>cases f
  rename_i es G Y;cases E:(es.all (fun e=>zh e.2.2 since)&&z7 since last)with
  |false=>grind
  |true=>
   simp only[E,we]at f;simp only[ze,yn]at E;obtain⟨K,c2⟩:=E;obtain⟨Z,n',x,j,B,D⟩:=hr.obj _ _ A;rw[hp]at j;cases j;obtain⟨rm,nm,hpm,rfl⟩:=D;obtain⟨r2,n2,x2,k1,k2,l2,k3,k4⟩:=hr.obj _ _ Y;rw[hpm]at k1;cases k1;subst k3;rw[k4.all fun b=>zh b since]at K;have O:∀e∈l2.toList,e.born<since:=by
    intro e U;have:=zj.1 K e U;simp_all
   have hno:(!seen.toArray.isEmpty&& !l2.isEmpty&&l2.all (·.born>=last))=false:=by
    cases hl:l2.toList with
    |nil=>
     simp_all
    |cons e0 M=>
     grind
   have z:(l2.filter fun e=> !seen.toArray.contains e.born).toList=l2.toList.filter fun e=> !seen.contains e.born:=by
    simp
   have c:=k4.filter fun b=> !seen.contains b
   have e1:((l2.filter fun e=> !seen.toArray.contains e.born).filter (·.born<since))=l2.filter fun e=> !seen.toArray.contains e.born:=by
    grind [Array.toList_inj,Array.toList_filter,List.filter_eq_self]
   have W:((l2.filter fun e=> !seen.toArray.contains e.born).filter (·.born>=since))= #[]:=by
    apply Array.toList_inj.1;grind [List.filter_eq_nil_iff]
   unfold Instr.next;simp only[zf,getObj,yd,B,zd,k2];rw[wc ah];simp only[e1,W,Array.append_empty];generalize hL:(l2.filter fun e=> !seen.toArray.contains e.born)=L at*;rw[<-z]at c;have J:=c.length;split at f
   case h_1=>
    cases f;have X:L= #[]:=by
     grind
    refine⟨_,_,.tuple #[.bool false],p,w,zn.2 rfl,?_,by simp[Ae],zq hr⟩;simp_all [yh]
   case h_2=>
    have u:0<L.size:=by
     grind
    have q:L.isEmpty=false:=ah
    simp only[q,zz,vg,Array.empty_append,Array.size_map];obtain⟨i,d,g1,N,g4⟩:=pL (P:=P) (w:=w) L.size u;simp only[zf,g1,zd];have hi:L[i]?=some L[i]:=by simp[N]
    obtain⟨k,v,q1,q2,q3⟩:=c.get (i:=i) (e:=L[i]) (by simp[N]);simp only[Array.getElem?_map,hi,Option.map_some,zf];have s:=Ext.drew hr d;have o:=Ext.put s.rel A hp (o':=.miter (some m) since (seen++[L[i].born]) G) (x':=.mapIter (some rm) since (seen.toArray.push L[i].born) G) ⟨rm,nm,hpm,by simp⟩
     (w':=⟨w.heap.setIfInBounds r<|.mapIter (some rm) since (seen.toArray.push L[i].born) G,w.tape,d,w.os,w.output⟩) rfl rfl rfl rfl
    refine⟨.tup [.bool true,k,v],_,.tuple #[.bool true,L[i].key,L[i].val],p,_,ah,?_,?_,s.trans o⟩
    ·simp[setObj,yd,B]
    simp_all [Ae]
def UR(h:H)(c:V):Option V:=
 match c with
 | .ptr b 0=>
  match h.get b with
  |some (.miter (some m) _ seen last)=>
   match h.get m with
   |some (.map es d)=>
    bif zo d last then
     match seen.getLast? with
     |some s=>match es.find? (fun e=>zo e.2.2 s)with
      |some e=>some<|.tup [e.1,e.2.1]
      |none=>none
     |none=>none
    else none
   |_=>none
  |_=>none
 |_=>none
theorem fZ(hr:R p h w){i:V}{d:Value}(q:Ae p i d){v:V}(c:UR h i=some v):∃v',(Instr.entry d).run P w=.ok v' w/\Ae p v v':=by
 unfold UR at c;split at c
 case h_2=>cases c
 simp only[Ae]at q;split at c
 case h_2=>cases c
 rename_i m since seen last j;split at c
 case h_2=>cases c
 rename_i es k n;rw[Bx]at c;by_cases f:k=last
 ·simp only[f,decide_true,we]at c;split at c
  case h_2=>cases c
  rename_i s u;split at c
  case h_2=>cases c
  rename_i e l;cases c;obtain⟨t,n',x,r,y,o⟩:=hr.obj _ _ j;simp only[LM]at o;obtain⟨r2,n2,x2,k1,k2,l2,k3,k4⟩:=hr.obj _ _ n;obtain⟨e',q1,q2,q3⟩:=k4.find (fun b=>zo b s) l;refine⟨.tuple #[e'.key,e'.val],?_,by simp_all [Ae]⟩;unfold Instr.entry;have g:l2.find? (fun e=>e.born==s)=some e':=by
   rw[<-Array.find?_toList, <-q1];congr 1;funext e
   rw[Bx];rfl
  simp_all [getObj,yd]
 grind
theorem D2.erase{es:List (V×V×Nat)}{l:List MapEntry}(c:D2 p es l)(i:Nat):D2 p (es.eraseIdx i) (l.eraseIdx i):=by
 induction c generalizing i with
 |nil=>simp;exact .nil
 |@cons k v b es j l d f g n e=>
  cases i with
  |zero=>grind
  |succ i=>simp;exact .cons d f g<|e i
def M0(T:Cj)(h:H)(ts:Array TypeId)(args:List V):Option (V×H):=
 match ts[0]?,args with
 |some f,[.map b,k]=>
  match T.und f with
  |some (.map c _)=>
   match T.und c,h.get b with
   |some d,some (.map es e)=>
    bif JJ T c d k then
     match K9 T c k es with
     |some (some (i,_))=>some (.tup [],h.put b<|.map (es.eraseIdx i) e)
     |some none=>some (.tup [],h.put b<|.map es e)
     |none=>none
    else none
   |_,_=>none
  |_=>none
 |_,_=>none
theorem Zm(q:T.Ok P)(hr:R p h w){ts:Array TypeId}{t:TypeId}{args:List V}{args':Array Value}(O:Ay p args args'.toList){v:V}{h':H}(c:M0 T h ts args=some (v,h')):
  ∃v' p' w',(Builtin.delete_ ts t args').run P w=.ok v' w'/\Ae p' v v'/\Ext p h w p' h' w':=by
 unfold M0 at c;split at c
 case h_2=>cases c
 rename_i mt b k E;obtain⟨J,I,f,B,y⟩:=O.two;have z:args'[0]?=some J:=by rw[<-zu,f];rfl
 have x:args'[1]?=some I:=by rw[<-zu,f];rfl
 split at c
 case h_2=>cases c
 rename_i G e D;split at c
 case h_2=>cases c
 rename_i d es o g s;cases A:JJ T G d k with
 |false=>grind
 |true=>
  simp only[A,we]at c;rcases NA (es:=es) hr B (by simp only[entries,s])with⟨rfl,_⟩|⟨r,l,U,b',n,Q,rfl,hp,K,N,i⟩
  ·simp[Ae]at B
  ·cases Q;unfold Builtin.delete_;simp only[E,z,x,zf,AE q D,zd,getObj,yd,N,Ky q g y A];split at c
   case h_3=>cases c
   case h_1=>
    rename_i j v0 u;cases c;obtain⟨L,M,v1,rfl,Y,X,W,k5⟩:=run_findKey (P:=P) (w:=w) q y g i u;refine⟨.tuple #[],p,{ w with heap:=w.heap.setIfInBounds r (.map (l.eraseIdxIfInBounds j) o) },?_,by simp[Ae],Ext.put hr s hp (o':=.map (es.eraseIdx j) o) ⟨_,rfl,?_⟩ rfl rfl rfl rfl⟩
    ·simp_all [setObj,yd]
    ·have:=i.erase j;simp_all
   case h_2=>
    rename_i u;cases c;obtain⟨L,M,Z⟩:=run_findKey (P:=P) (w:=w) q y g i u;refine⟨.tuple #[],p,{ w with heap:=w.heap.setIfInBounds r (.map l o) },?_,by simp[Ae],Ext.put hr s hp (o':=.map es o) ⟨_,rfl,i⟩ rfl rfl rfl rfl⟩;simp_all [setObj,yd]
def Gu(T:Cj)(h:H)(ts:Array TypeId)(args:List V):Option (V×H):=
 match ts[0]?,args with
 |some t,[x]=>
  match T.und t,x with
  |some (.map _ _),.nilm=>some (.tup [],h)
  |some (.map _ _),.map b=>match h.get b with
   |some (.map _ c)=>some (.tup [],h.put b<|.map [] c)
   |_=>none
  |some (.slice _),.nils=>some (.tup [],h)
  |some (.slice _),.esl=>some (.tup [],h)
  |some (.slice _),.es0=>some (.tup [],h)
  |some (.slice e),.sl b off len _ _=>
   bif zo len 0 then some (.tup [],h)
   else match T.inf e with
    |some i=>bif zh 0 i.zero.length then
      (wr h b off<|F7 i.zero<|len*i.zero.length).map fun h'=>(.tup [],h')
     else none
    |none=>none
  |_,_=>none
 |_,_=>none
theorem jH(g:T.Ok P)(hr:R p h w){ts:Array TypeId}{t:TypeId}{args:List V}{args':Array Value}(J:Ay p args args'.toList){v:V}{h':H}(d:Gu T h ts args=some (v,h')):
  ∃v' p' w',(Builtin.clear_ ts t args').run P w=.ok v' w'/\Ae p' v v'/\Ext p h w p' h' w':=by
 unfold Gu at d;split at d
 case h_2=>cases d
 rename_i t0 x D;obtain⟨x',j,k⟩:=J.one;have u:args'[0]?=some x':=by rw[<-zu,j];rfl
 unfold Builtin.clear_;simp only[D,u];split at d
 case h_7=>cases d
 case h_1=>
  rename_i f;cases d;subst k;exact⟨.tuple #[],p,w,by simp[AE g f],by simp[Ae],zq hr⟩
 case h_2=>
  rename_i b f;split at d
  case h_2=>cases d
  rename_i es A y;cases d;obtain⟨r,n,hp,rfl⟩:=k;obtain⟨r',n',o,s,h2,l,h3,h4⟩:=hr.obj _ _ y;rw[hp]at s;cases s;subst h3;refine⟨.tuple #[],p,{ w with heap:=w.heap.setIfInBounds r (.map #[] A) },?_,by simp[Ae],Ext.put hr y hp (o':=.map [] A) ⟨_,rfl,.nil⟩ rfl rfl rfl rfl⟩;simp[zf,AE g f,getObj,setObj,yd,h2]
 case h_3=>
  rename_i e f;cases d;subst k;exact⟨.tuple #[],p,w,by simp[AE g f],by simp[Ae],zq hr⟩
 case h_4=>
  rename_i e f;cases d;obtain⟨_,_,rfl⟩:=k;exact⟨.tuple #[],p,w,by simp[AE g f],by simp[Ae],zq hr⟩
 case h_5=>
  rename_i e f;cases d;obtain⟨_,rfl⟩:=k;exact⟨.tuple #[],p,w,by simp[AE g f],by simp[Ae],zq hr⟩
 case h_6=>
  rename_i e b off len cap o f;obtain⟨r,n,c,hp,rfl,_⟩:=k;rw[Bx]at d;by_cases h0:len=0
  ·simp only[h0,decide_true,we,zg,yk]at d;obtain⟨rfl,rfl⟩:=d;subst h0;exact⟨.tuple #[],p,w,by simp[AE g f],by simp[Ae],zq hr⟩
  ·simp only[h0,decide_false,wg]at d;split at d
   case h_2=>cases d
   rename_i i K;cases E:zh 0 i.zero.length with
   |false=>grind
   |true=>
    simp only[E,we,zi]at d;obtain⟨s,G,B⟩:=d;cases B;obtain⟨z,hzz,hzr⟩:=EL g K;have I:=(hzr p).length;have q:=Kf (hzr p) (by simp_all)<|len*i.zero.length;obtain⟨r',m,w',g1,g2,g3⟩:=T8 (P:=P) hr q G;rw[hp]at g1;cases g1;refine⟨.tuple #[],p,w',?_,by simp[Ae],g3⟩;have:Builtin.zeroCells z.cells len=(Array.range<|len*i.zero.length).map (fun i=>z.cells[i % z.cells.size]!):=by
     grind [Builtin.zeroCells]
    simp only[zf,AE g f,zd,hzz,this,g2,zp]
def Ae1(T:Cj)(ts:Array TypeId)(args:List V):Option V:=
 match ts[0]?,args with
 |some t,[x]=>
  match T.und t,x with
  |some (.slice _),.sl _ _ _ cap 0=>some<|i64 cap
  |some (.slice _),.nils=>some<|i64 0
  |_,_=>none
 |_,_=>none
theorem yV(k:T.Ok P){ts:Array TypeId}{t:TypeId}{args:List V}{args':Array Value}(o:Ay p args args'.toList){v:V}(d:Ae1 T ts args=some v):
  ∃v',(Builtin.cap_ ts t args').run P w=.ok v' w/\Ae p v v':=by
 unfold Ae1 at d;split at d
 case h_2=>cases d
 rename_i t0 x l;obtain⟨x',f,i⟩:=o.one;have j:args'[0]?=some x':=by rw[<-zu,f];rfl
 unfold Builtin.cap_;simp only[l,j];split at d
 case h_3=>cases d
 case h_1=>
  rename_i e b off len cap g;cases d;simp only[Ae]at i;obtain⟨r,n,c,hp,rfl,s,u,q,y⟩:=i;have:=q trivial;subst this;exact⟨_,by simp[zf,AE k g];rfl,by rfl⟩
 case h_2=>
  rename_i e g;cases d;subst i;exact⟨_,by simp[zf,AE k g];rfl,by rfl⟩
def Uw(T:Cj)(h:H)(src dst:TypeId)(x:V):Option (V×H):=
 match T.und src,T.und dst,x with
 |some .string,some<|.slice e,.str s=>
  match T.und e with
  |some (.int .u8)=>some (.sl h.nx 0 s.length s.length 1,h.push<|.cells (s.map fun b=>.int .u8<|.ofNat b.toNat) e (0,0))
  |_=>none
 |_,_,_=>none
theorem gG(j:T.Ok P)(hr:R p h w){src dst:TypeId}{x:V}{x':Value}(u:Ae p x x'){v:V}{h':H}(f:Uw T h src dst x=some (v,h')):
  ∃v' p' w',(convert src dst x').run P w=.ok v' w'/\Ae p' v v'/\Ext p h w p' h' w':=by
 unfold Uw at f;split at f
 case h_2=>cases f
 rename_i e s l r;split at f
 case h_2=>cases f
 rename_i t;cases f;subst u;have d:=run_bytes_of_string (P:=P) w src dst e (bytesOf s) (j.und _ _ l) (j.und _ _ r)<|j.und _ _ t;generalize y:grownCap w (bytesOf s).size 0 e=c at d;have i:s.length<=c:=by
  grind [Ch,grownCap,Question.cut]
 have k:(bytesRow (bytesOf s) c).size=c:=by
  grind [bytesRow,bytesOf,Ch]
 have g:=Ext.drew hr<|w.drawn+1;have q:=Ext.push (n:=c) g.rel (o:=.cells (s.map fun b=>.int .u8<|.ofNat b.toNat) e (0,0)) (x:=.cells (bytesRow (bytesOf s) c) e ((bytesRow (bytesOf s) c).size,(bytesRow (bytesOf s) c).size+1)) (by
  refine⟨_,_,rfl,k,by grind,?_,ae⟩;refine Ay.toC<|Ay.mk ?_ ?_
  ·grind
  ·grind [bytesRow,bytesOf,Ae])
 refine⟨_,_,_,d,?_,g.trans q⟩;refine⟨w.heap.size,c,c,by rw[<-hr.len];simp,by rfl,Nat.le_refl _,i,ae,ae⟩
def A8(T:Cj)(h:H)(s d:TypeId)(x:V):Option V:=
 match T.und s,T.und d,x with
 |some (.pointer _),some .unsafePointer,.nilp=>some .nilp
 |some .unsafePointer,some<|.pointer _,.nilp=>some .nilp
 |some (.pointer t),some .unsafePointer,.ptr b off=>
  match T.inf t,h.get b with
  |some i,some (.cells cs _ _)=>bif zh 0 i.size&&zh off cs.length then some (.ptr b off)else none
  |_,_=>none
 |some .unsafePointer,some<|.pointer u,.ptr b off=>
  match T.inf u,h.get b with
  |some i,some (.cells cs e _)=>bif zh 0 i.size&&z7 i.size cs.length&&zo e u&&zo off 0 then some (.ptr b 0)else none
  |_,_=>none
 |_,_,_=>none
theorem Xi(hr:R p h w){b:Nat}{cs:List V}{t:TypeId}{fz:Nat×Nat}(d:h.get b=some (.cells cs t fz)):
  ∃r n,p[b]?=some (r,n)/\w.shape? r=some (t,n)/\cs.length<=n:=by
 obtain⟨r,n,x,e,f,c,fz',rfl,g,i,_⟩:=hr.obj b _ d;grind [World.shape?]
theorem iR{u:TypeId}(c:P.cellsOf u≠0)(k:Nat)(d:1<=k):liesAt P P.depth u k 0 u 1=true:=by
 have b:P.depth=(2*(P.types.size+Made.depth)+1)+1:=rfl;rw[b];simp only[liesAt,zm];rw[b];simp[rowAt,c,d,sameLayout]
theorem zX(f:T.Ok P)(hr:R p h w){s d:TypeId}{x:V}{x':Value}(o:Ae p x x'){v:V}(c:A8 T h s d x=some v):
  ∃v',(convert s d x').run P w=.ok v' w/\Ae p v v':=by
 unfold A8 at c;split at c
 case h_5=>cases c
 case h_1=>
  rename_i g k;subst o;cases c;refine⟨.pointer none,?_,by rfl⟩;simp[convert,AE f g,AE f k,Conv.unsafePointer]
 case h_2=>
  rename_i g k;subst o;cases c;refine⟨.pointer none,?_,by rfl⟩;simp[convert,AE f g,AE f k,Conv.unsafePointer]
 case h_3=>
  rename_i t b off g k;split at c
  case h_2=>cases c
  rename_i i cs e fz B q;cases l:(zh 0 i.size&&zh off cs.length)with
  |false=>grind
  |true=>
   rw[l]at c;cases c;simp only[ze,zt]at l;obtain⟨j,z,y,E,_⟩:=f.inf t i B;obtain⟨r,n,k1,k2,k3⟩:=Xi hr q;obtain⟨r',n',q1,rfl⟩:=o;rw[k1]at q1;cases q1;refine⟨_,Lib.run_to_unsafe w ⟨r,off,none⟩ (f.und _ _ g) (f.und _ _ k) y ae k2 ah,?_⟩;simp_all [Ae]
 case h_4=>
  rename_i u b off g k;split at c
  case h_2=>cases c
  rename_i i cs e fz B q;cases l:(zh 0 i.size&&z7 i.size cs.length&&zo e u&&zo off 0)with
  |false=>grind
  |true=>
   rw[l]at c;cases c;simp only[ze,zt,yn,Bx,w5]at l;obtain⟨⟨⟨D,I⟩,rfl⟩,rfl⟩:=l;obtain⟨j,z,y,E,_⟩:=f.inf e i B;obtain⟨r,n,k1,k2,k3⟩:=Xi hr q;obtain⟨r',n',q1,rfl⟩:=o;rw[k1]at q1;cases q1;have A:P.cellsOf e=i.size:=by grind [Program.cellsOf]
   have G:1<=n/P.cellsOf e:=by rw[A];exact Nat.div_pos ae D
   refine⟨_,Lib.run_from_unsafe w ⟨r,0,none⟩ (f.und _ _ g) (f.und _ _ k) y k2 (iR ae _ G),?_⟩;simp_all [Ae]
def P3(args:List V):Option V:=
 match args with
 |[.nils]=>some .nilp
 |[.sl b off _ cap _]=>bif zh 0 cap then some (.ptr b off)else none
 |_=>none
theorem hO{ts:Array TypeId}{t:TypeId}{args:List V}{args':Array Value}(g:Ay p args args'.toList){v:V}(d:P3 args=some v):
  ∃v',(Builtin.unsafeSliceData_ ts t args').run P w=.ok v' w/\Ae p v v':=by
 unfold P3 at d;split at d
 case h_3=>cases d
 case h_1=>
  cases d;obtain⟨x,i,e⟩:=g.one;have:args'= #[x]:=ah;simp_all [Ae,Lib.run_unsafeSliceData_nil]
 case h_2=>
  rename_i b off len cap o;cases f:zh 0 cap with
  |false=>grind
  |true=>
   rw[f]at d;cases d;rw[zt]at f;obtain⟨x,i,e⟩:=g.one;have:args'= #[x]:=ah;subst this;obtain⟨r,n,c,g1,rfl,g2,g3,_⟩:=e;exact⟨_,Lib.run_unsafeSliceData_row w ts t _ len c ae,by simp_all [Ae]⟩
def TN:V->Option UInt8
 | .int .u8 (.ofNat n)=>bif zh n 256 then some (UInt8.ofNat n)else none
 |_=>none
def IF:List V->Option Rd
 |[]=>some []
 |v::vs=>
  match TN v,IF vs with
  |some b,some c=>some (b::c)
  |_,_=>none
theorem sV{c:V}{b:UInt8}(h:TN c=some b):c=.int .u8 (b.toNat:Int):=by
 unfold TN at h;split at h
 case h_2=>cases h
 rename_i n;cases d:zh n 256 with
 |false=>grind
 |true=>
  rw[zt]at d;have:(UInt8.ofNat n).toNat=n:=by simp;omega
  grind
theorem MZ:∀ {cs:List V} {l:Rd},IF cs=some l->cs=l.map fun b=>V.int .u8 (b.toNat:Int)
 |[],l,d=>by cases d;rfl
 |c::cs,l,d=>by
  unfold IF at d;split at d
  case h_2=>cases d
  rename_i b tl f e;cases d;rw[sV f,MZ e];rfl
def WZ(T:Cj)(h:H)(ts:List TypeId)(args:List V):Option (V×H):=
 match ts,args with
 |[pt,_],[.ptr b 0,.int .i64<|.ofNat n]=>
  match T.und pt,h.get b with
  |some (.pointer e),some (.cells cs c fz)=>
   match T.inf e,IF (cs.take n)with
   |some i,some l=>bif zo i.size 1&&zo e c&&zh 0 n&&z7 n cs.length&&z7 n 9223372036854775807&&z7 fz.2 fz.1 then some (.str l,h.kill b)else none
   |_,_=>none
  |_,_=>none
 |_,_=>none
theorem Ext.gone{w':World}(hr:R p h w){b r n:Nat}{o:O}{x':Obj}(i:h.get b=some o)(hp:p[b]?=some (r,n))
  (A:w'.heap=w.heap.setIfInBounds r x') (l:w'.os=w.os) (D:w'.output=w.output) (G:w'.tape=w.tape) (J:∀cs t fz,o=.cells cs t fz->¬Lk n fz) (E:w.drawn<=w'.drawn:=by exact Nat.le_refl _):Ext p h w p (h.kill b) w':=by
 refine⟨(by simp),⟨hr.len,fun c j d=>?_,(hr.kill b).inj⟩,by simp[A],fun s u M=>?_,fun s K=>?_,l,D,G,fun s u q=>?_,E⟩
 ·rw[H.DZ]at d;by_cases e:c=b
  ·grind
  ·rw[wc e]at d;obtain⟨s,m,y,B,L,I⟩:=hr.obj c j d;have f:r≠s:=fun g=>e<|hr.inj c b j o s m n d i B<|g▸hp
   grind
 ·grind [Im]
 ·grind [H.DZ,Im]
 ·obtain⟨c,m,cs,t,fz,z,k,x⟩:=q;by_cases e:c=b
  ·grind
  ·have f:r≠s:=fun g=>e<|hr.inj c b _ o s m n z i k<|g▸hp
   refine⟨by grind,.inl ⟨c,m,cs,t,fz,by simp_all,k,x⟩⟩
theorem WM{w:World}{r n:Nat}{c:Array Value}{e:TypeId}{fz:Nat×Nat}(b:w.heap[r]?=some (.cells c e fz))(h0:n≠0):
  ∃fz',(w.freeze ⟨r,0,none⟩ n).heap=w.heap.setIfInBounds r (.cells c e fz'):=by
 refine⟨if fz.1==fz.2 then(0,0+n)else(min fz.1 0,max fz.2<|0+n),?_⟩;simp_all [World.freeze,Qw]
theorem vA(K:T.Ok P)(hr:R p h w){ts:Array TypeId}{t:TypeId}{args:List V}{args':Array Value}(U:Ay p args args'.toList){v:V}{h':H}(d:WZ T h ts.toList args=some (v,h')):
  ∃v' w',(Builtin.unsafeString_ ts t args').run P w=.ok v' w'/\Ae p v v'/\Ext p h w p h' w':=by
 unfold WZ at d;split at d
 case h_2=>cases d
 rename_i pt G b n s;have s:ts= #[pt,G]:=ah;subst s;split at d
 case h_2=>cases d
 rename_i e cs N fz L J;split at d
 case h_2=>cases d
 rename_i i l W M;cases I:(zo i.size 1&&zo e N&&zh 0 n&&z7 n cs.length&&z7 n 9223372036854775807&&z7 fz.2 fz.1)with
 |false=>grind
 |true=>
  rw[I]at d;cases d;simp only[ze,zt,yn,Bx,w5]at I;obtain⟨x,y,E,u,X⟩:=U.two;have:args'= #[x,y]:=ah;subst this;obtain⟨r,m,u,rfl⟩:=u;subst X;obtain⟨r',m',ob,k1,k2,c,fz',rfl,k4,k5,k6,k7⟩:=hr.obj b _ J;rw[u]at k1;cases k1;obtain⟨j,z,j1,j2,_⟩:=K.inf e i W;have D:P.cellsOf e=1:=by grind [Program.cellsOf]
  have q:=MZ M;have k:l.length=n:=by
   have:=wi List.length q;grind
  have A:w.shape? r=some (e,m):=by grind [World.shape?]
  have g:∀j x,l[j]?=some x->w.cell? ((⟨r,0,none⟩:Addr).add j)=some (.int .u8 x.toNat):=by
   intro j x hx;have Y:cs[j]?=some (.int .u8 (x.toNat:Int)):=by
    have:=wi (·[j]?) q;grind
   obtain⟨v,Z,Q⟩:=k6.get Y rfl;grind [Ae,Addr.NT,World.cell?]
  have o:=Lib.run_unsafeString_row w pt G t e (K.und _ _ L) D r m A l ah ae ae g;obtain⟨O,B⟩:=WM (n:=l.length) k2 ae;refine⟨.string<|bytesOf l,w.freeze ⟨r,0,none⟩ l.length,?_,by rfl,?_⟩
  ·rw[<-k];exact o
  ·have f:(w.freeze ⟨r,0,none⟩ l.length).os=w.os/\(w.freeze ⟨r,0,none⟩ l.length).output=w.output/\(w.freeze ⟨r,0,none⟩ l.length).tape=w.tape/\(w.freeze ⟨r,0,none⟩ l.length).drawn=w.drawn:=by
    unfold World.freeze;grind
   exact Ext.gone hr J u B f.1 f.2.1 f.2.2.1 (by
    grind [Lk])<|Nat.le_of_eq f.2.2.2.symm
end
mutual
def cv:Value->Option V
 | .bool b=>some<|.bool b
 | .int k n=>some<|.int k n
 | .string s=>some<|.str s.data.toList
 | .pointer none=>some .nilp
 | .slice none 0 0=>some .nils
 | .map none=>some .nilm
 | .nilFunc=>some .nilf
 | .nilIface=>some .nili
 | .func f ⟨[]⟩ ⟨[]⟩=>some<|.fn f [] []
 | .agg ⟨cs⟩=>(cvs cs).map .agg
 | .tuple ⟨cs⟩=>(cvs cs).map .tup
 |_=>none
def cvs:List Value->Option (List V)
 |[]=>some []
 |v::vs=>match cv v,cvs vs with
  |some x,some b=>some (x::b)
  |_,_=>none
end
mutual
theorem Yb(p:Pl):∀ {v:Value} {x:V},cv v=some x->Ae p x v
 | .bool b,x,h=>by grind [cv,Ae]
 | .int k n,x,h=>by grind [cv,Ae]
 | .string s,x,h=>by simp[cv]at h;subst h;rfl
 | .pointer none,x,h=>by grind [cv,Ae]
 | .pointer (some a),x,h=>by simp[cv]at h
 | .slice none 0 0,x,h=>by grind [cv,Ae]
 | .slice none 0 (_+1),x,h=>by simp[cv]at h
 | .slice none (_+1) _,x,h=>by simp[cv]at h
 | .slice (some a) _ _,x,h=>by simp[cv]at h
 | .map none,x,h=>by grind [cv,Ae]
 | .map (some a),x,h=>by simp[cv]at h
 | .nilFunc,x,h=>by grind [cv,Ae]
 | .nilIface,x,h=>by grind [cv,Ae]
 | .func f ⟨[]⟩ ⟨[]⟩,x,h=>by simp[cv]at h;subst h;simp[Ae]
 | .func f ⟨_::_⟩ _,x,h=>by simp[cv]at h
 | .func f ⟨[]⟩ ⟨_::_⟩,x,h=>by simp[cv]at h
 | .agg ⟨cs⟩,x,h=>by
  simp only[cv,zi]at h;obtain⟨d,c,rfl⟩:=h;exact⟨_,rfl,Vd p c⟩
 | .tuple ⟨cs⟩,x,h=>by
  simp only[cv,zi]at h;obtain⟨d,c,rfl⟩:=h;exact⟨_,rfl,Vd p c⟩
 | .float _ _,x,h=>by simp[cv]at h
 | .complex _ _ _,x,h=>by simp[cv]at h
 | .chan _,x,h=>by simp[cv]at h
 | .iface _ _,x,h=>by simp[cv]at h
theorem Vd(p:Pl):∀ {vs:List Value} {b:List V},cvs vs=some b->Ay p b vs
 |[],b,h=>by simp_all [cvs]
 |v::vs,b,h=>by
  unfold cvs at h;split at h
  case h_2=>cases h
  rename_i x e c d;cases h;exact(Bm ..).2 ⟨Yb p c,Vd p d⟩
end
structure Fn where
 ntmps:Nat
 results:Array ResultVar
 body:Code
 cert:Bool
structure Ctx where
 T:Cj
 ng:Nat
 fn:FuncId->Option Fn
 prim:FuncId->Option (List V->H->Option (V×H))
 spec:FuncId->Option (List V->H->Option (V×H))
 mg:Bool
def Gl(_:Ctx)(p:Pl):Prop:=Gp p
theorem Gl.ext{C:Ctx}{p p':Pl}{h h':H}{w w':World}(b:Gl C p)(e:Ext p h w p' h' w'):Gl C p':=by
 obtain⟨q,rfl⟩:=e.pre;exact Gp.app b q
def ev(_:Ctx)(fr:Fr):Operand->Option V
 | .tmp t=>some<|fr.get t
 | .const v=>cv v
 | .global g=>bif gin g FI then some (.ptr g 0)else none
 | .func f=>some<|.fn (.func f) [] []
theorem Bc{C:Ctx}{p:Pl}{fr:Fr}{a:Act}(d:Gl C p)(i:CN p fr a){x:Operand}{v:V}(b:ev C fr x=some v):Ae p v (a.eval x):=by
 cases x with
 |tmp t=>grind [ev,Act.eval,CN]
 |const v=>exact Yb p b
 |global g=>
  simp only[ev]at b;cases c:gin g FI with
  |true=>
   rw[c]at b;simp only[we,zg]at b;subst b;obtain⟨o,e⟩:=aG c;exact⟨g,_,d _ e,rfl⟩
  |false=>grind
 |func f=>simp only[ev,zg]at b;subst b;simp[Ae,Act.eval]
def WX(C:Ctx)(fr:Fr):List Operand->Option (List V)
 |[]=>some []
 |x::b=>match ev C fr x,WX C fr b with
  |some v,some vs=>some (v::vs)
  |_,_=>none
theorem Kc{C:Ctx}{p:Pl}{fr:Fr}{a:Act}(c:Gl C p)(d:CN p fr a):∀ {b:List Operand} {vs:List V},WX C fr b=some vs->Ay p vs (b.map a.eval)
 |[],vs,h=>by simp_all [WX]
 |x::b,vs,h=>by
  unfold WX at h;split at h
  case h_2=>cases h
  rename_i v f e g;cases h;exact(Bm ..).2 ⟨Bc c d e,Kc c d g⟩
def XP(C:Ctx)(fr:Fr):Option Operand->Option (Option V)
 |none=>some none
 |some x=>(ev C fr x).map some
theorem Pg{C:Ctx}{p:Pl}{fr:Fr}{a:Act}(d:Gl C p)(e:CN p fr a){x:Option Operand}{v:Option V}(b:XP C fr x=some v):H3 p v (x.map a.eval):=by
 cases x with
 |none=>simp[XP]at b;subst b;rfl
 |some x=>
  simp only[XP,zi]at b;obtain⟨u,c,rfl⟩:=b;exact⟨_,rfl,Bc d e c⟩
def Yr(C:Ctx)(fr:Fr):List (Nat×Operand)->Option (List<|Nat×V)
 |[]=>some []
 |(i,x)::b=>match ev C fr x,Yr C fr b with
  |some v,some vs=>some ((i,v)::vs)
  |_,_=>none
theorem OX{C:Ctx}{p:Pl}{fr:Fr}{a:Act}(c:Gl C p)(d:CN p fr a):∀ {b:List (Nat×Operand)} {vs:List (Nat×V)},Yr C fr b=some vs->VE p vs (b.map fun(i,x)=>(i,a.eval x))
 |[],vs,h=>by simp[Yr]at h;subst h;exact .nil
 |(i,x)::b,vs,h=>by
  unfold Yr at h;split at h
  case h_2=>cases h
  rename_i v f e g;cases h;exact .cons (Bc c d e)<|OX c d g
inductive OR where
 |val (v:V) (h:H)
 |skip (h:H)
 |enter (f:FuncId) (args:List V)
 |round (b:Nat) (l:LS) (fr:Fr)
 |alts (l:List (V×H))
def Fr.iX(f:Fr)(t:Nat)(v:V):Fr:=bif zh t f.n then⟨f.n,f.m.set t<|some v⟩else f
def HU:List Tmp->List V->Fr->Fr
 |t::ts,v::vs,f=>HU ts vs<|f.iX t v
 |_,_,f=>f
theorem EY.iX{p:Pl}{f:Fr}{tmps:Array Value}(c:EY p f tmps){v:V}{v':Value}(g:Ae p v v')(t:Nat):EY p (f.iX t v) (tmps.setIfInBounds t v'):=by
 unfold Fr.iX;simp only[Hz];by_cases b:t<f.n
 ·simp only[b,decide_true,we];refine⟨by simp[c.1],fun s=>?_⟩;have d:t<tmps.size:=c.1▸b;by_cases e:s=t
  ·simp_all [Fr.get]
  ·have:=c.2 s;simp only[Fr.get,PM.DI,wc e]at this ⊢;rw[zk,z8 ae, <-zk];omega
 ·grind [EY]
theorem EY.HU{p:Pl}:∀ {ts:List Tmp} {vs:List V} {b:List Value},Ay p vs b->∀ {f:Fr} {tmps:Array Value},EY p f tmps->EY p (HU ts vs f) ((ts.zip b).foldl (fun tmps (t,a)=>tmps.setIfInBounds t a) tmps)
 |[],vs,b,_,f,tmps,c=>by simpa [Det.HU]using c
 |t::ts,[],b,d,f,tmps,c=>by simp_all [Det.HU]
 |t::ts,v::vs,b,d,f,tmps,c=>by
  obtain⟨u,i,rfl,e,g⟩:=d;exact EY.HU g<|c.iX e t
def BS(h:H):Option V->Option OR
 |some v=>some<|.val v h
 |none=>none
def FT:Option (V×H)->Option OR
 |some (v,h)=>some<|.val v h
 |none=>none
def rH:Option H->Option OR
 |some h=>some<|.skip h
 |none=>none
def Fs(C:Ctx)(h:H)(b:Builtin)(ts:Array TypeId)(args:List V):Option OR:=
 match b with
 | .len=>BS h<|GO C.T h ts args
 | .append=>FT<|Hj C.T h ts args
 | .copy=>FT<|tI C.T h ts args
 | .max=>BS h<|G6 qD args
 | .min=>BS h<|G6 AaC args
 | .cap=>BS h<|Ae1 C.T ts args
 | .delete=>FT<|M0 C.T h ts args
 | .clear=>FT<|Gu C.T h ts args
 | .unsafeSliceData=>BS h<|P3 args
 | .unsafeString=>FT<|WZ C.T h ts.toList args
 |_=>none
def IT(C:Ctx)(h:H)(f:V)(args:List V):Option OR:=
 match f with
 | .fn (.func g) first captured=>
  match C.prim g with
  |some q=>FT<|q (first++args++captured) h
  |none=>match C.fn g with
   |some _=>some<|.enter g<|first++args++captured
   |none=>none
 | .yld b=>match h.get b with
  |some (.loop l)=>bif zo args.length l.ps.size then some (.round b l<|HU l.ps.toList args l.fr)else none
  |_=>none
 |_=>none
def OY(C:Ctx)(h:H)(x:V)(name:String)(args:List V):Option OR:=
 match x with
 | .iface t v=>match C.T.mth t name with
  |some g=>IT C h (.fn (.func g) [] []) (v::args)
  |none=>none
 |_=>none
def aL:Operand->Bool
 | .const _=>true
 |_=>false
def Aan(T:Cj)(op:BinOp)(t:TypeId)(x y:Operand)(v u:V):Option V:=
 match op,v,u,T.und t with
 | .eql,.nili,.nili,some (.interface _)=>bif aL x||aL y then some (.bool true)else none
 | .neq,.nili,.nili,some (.interface _)=>bif aL x||aL y then some (.bool false)else none
 |_,_,_,_=>none
def K1(T:Cj)(op:BinOp)(t:TypeId)(x y:Operand)(v u:V):Option V:=
 match Aan T op t x y v u with
 |some r=>some r
 |none=>Lv T op t v u
def Hp(C:Ctx)(fr:Fr)(h:H)(o:Oper):Option OR:=
 let ρ:=ev C fr
 match o.op with
 | .move x| .assign x=>BS h<|ρ x
 | .pick c a b=>match ρ c with
  |some (.bool t)=>BS h<|if t then ρ a else ρ b
  |_=>none
 | .alloc t=>FT<|Hr C.T h t
 | .box t x=>FT<|(ρ x).map fun v=>gK h t v
 | .build t e=>match Yr C fr e.toList with
  |some ps=>BS h<|Lg C.T t ps
  |none=>none
 | .buildSlice t n e=>match Yr C fr e.toList with
  |some ps=>FT<|Fm C.T h t n ps
  |none=>none
 | .load t x=>match ρ x with
  |some v=>BS h<|FH C.T h t v
  |none=>none
 | .store t x y=>match ρ x,ρ y with
  |some v,some u=>rH<|Iy C.T h t v u
  |_,_=>none
 | .nilCheck x=>match ρ x with
  |some (.ptr b i)=>BS h<|some<|.ptr b i
  |some (.iface t v)=>BS h<|some<|.iface t v
  |_=>none
 | .binOp op t x y _=>match ρ x,ρ y with
  |some v,some u=>BS h<|K1 C.T op t x y v u
  |_,_=>none
 | .unOp op _ x=>match ρ x with
  |some v=>BS h<|dun op v
  |none=>none
 | .convert s d x=>match ρ x with
  |some v=>BS h<|GI C.T h s d v
  |none=>none
 | .makeInterface t x=>match ρ x,C.T.und t with
  |some v,some d=>match d with
   | .interface _=>none
   |_=>BS h<|some<|.iface t v
  |_,_=>none
 | .makeFunc f first captured=>match WX C fr first.toList,WX C fr captured.toList with
  |some a,some b=>BS h<|some<|.fn f a b
  |_,_=>none
 | .makeMap _ r=>match XP C fr r with
  |some v=>FT<|Ji h v
  |none=>none
 | .makeSlice t l c=>match ρ l,ρ c with
  |some v,some u=>FT<|RR C.T h t v u
  |_,_=>none
 | .slice t x lo z mx=>match ρ x,XP C fr lo,XP C fr z,XP C fr mx with
  |some v,some l,some r,some m=>BS h<|Eh C.T t v l r m
  |_,_,_,_=>none
 | .fieldAddr t x f=>match ρ x with
  |some v=>BS h<|Lq C.T t v f
  |none=>none
 | .field t x f=>match ρ x with
  |some v=>BS h<|Ln C.T t v f
  |none=>none
 | .indexAddr t x i=>match ρ x,ρ i with
  |some v,some u=>BS h<|FX C.T t v u
  |_,_=>none
 | .index t x i=>match ρ x,ρ i with
  |some v,some u=>BS h<|JG C.T t v u
  |_,_=>none
 | .lookup t x i ok=>match ρ x,ρ i with
  |some v,some u=>BS h<|Fg C.T h t v u ok
  |_,_=>none
 | .mapUpdate t m k x| .insert t m k x=>match ρ m,ρ k,ρ x with
  |some a,some b,some c=>rH<|IK C.T h t a b c
  |_,_,_=>none
 | .range t x=>match ρ x with
  |some v=>FT<|Ig C.T h t v
  |none=>none
 | .next x j=>match ρ x with
  |some v=>bif j then FT (Ov h v j)else(U6 h v j).map .alts
  |none=>none
 | .entry x=>match ρ x with
  |some v=>BS h<|UR h v
  |none=>none
 | .extract x i=>match ρ x with
  |some v=>BS h<|HX v i
  |none=>none
 | .call c=>match c.callee,WX C fr c.args.toList with
  | .builtin b,some args=>Fs C h b c.argTypes args
  | .value f,some args=>match ρ f with
   |some g=>IT C h g args
   |none=>none
  | .invoke x q,some args=>match ρ x with
   |some v=>OY C h v q args
   |none=>none
  |_,_=>none
 |_=>none
abbrev G0:=Ctx->Fr->H->Option OR
def Adh(a0:Operand):G0:=fun C fr h=>BS h<|ev C fr a0
def nK(a0:Operand):G0:=fun C fr h=>BS h<|ev C fr a0
def Ad9(a0:Operand)(a1:Operand)(a2:Operand):G0:=fun C fr h=>match ev C fr a0 with|some (.bool t)=>BS h (if t then ev C fr a1 else ev C fr a2)|_=>none
def Aba(a0:TypeId):G0:=fun C _fr h=>FT<|Hr C.T h a0
def Ahi(a0:TypeId)(a1:Operand):G0:=fun C fr h=>FT<|(ev C fr a1).map fun v=>gK h a0 v
def zE(a0:TypeId)(a1:Array (Nat×Operand)):G0:=fun C fr h=>match Yr C fr a1.toList with|some ps=>BS h (Lg C.T a0 ps)|none=>none
def Vi(a0:TypeId)(a1:Nat)(a2:Array (Nat×Operand)):G0:=fun C fr h=>match Yr C fr a2.toList with|some ps=>FT (Fm C.T h a0 a1 ps)|none=>none
def lE(a0:TypeId)(a1:Operand)(a2:Operand)(a3:Operand):G0:=fun C fr h=>match ev C fr a1,ev C fr a2,ev C fr a3 with|some a,some b,some c=>rH (IK C.T h a0 a b c)|_,_,_=>none
def AeV(a0:TypeId)(a1:Operand):G0:=fun C fr h=>match ev C fr a1 with|some v=>BS h (FH C.T h a0 v)|none=>none
def zL(a0:TypeId)(a1:Operand)(a2:Operand):G0:=fun C fr h=>match ev C fr a1,ev C fr a2 with|some v,some u=>rH (Iy C.T h a0 v u)|_,_=>none
def AaF(_a0:Nat):G0:=fun _ _ _=>none
def wZ(_a0:Nat):G0:=fun _ _ _=>none
def Zd(a0:Operand):G0:=fun C fr h=>match ev C fr a0 with|some (.ptr b i)=>BS h (some<|.ptr b i)|some (.iface t v)=>BS h (some<|.iface t v)|_=>none
def xR(a0:BinOp)(a1:TypeId)(a2:Operand)(a3:Operand)(_a4:TypeId):G0:=fun C fr h=>match ev C fr a2,ev C fr a3 with|some v,some u=>BS h (K1 C.T a0 a1 a2 a3 v u)|_,_=>none
def AeW(a0:UnOp)(_a1:TypeId)(a2:Operand):G0:=fun C fr h=>match ev C fr a2 with|some v=>BS h (dun a0 v)|none=>none
def iW(a0:TypeId)(a1:TypeId)(a2:Operand):G0:=fun C fr h=>match ev C fr a2 with|some v=>BS h (GI C.T h a0 a1 v)|none=>none
def IY(_a0:TypeId)(_a1:Operand):G0:=fun _ _ _=>none
def OG(a0:TypeId)(a1:Operand):G0:=fun C fr h=>match ev C fr a1,C.T.und a0 with|some v,some d=>(match d with| .interface _=>none|_=>BS h<|some<|.iface a0 v)|_,_=>none
def Yj(a0:Go.Fn)(a1:Array Operand)(a2:Array Operand):G0:=fun C fr h=>match WX C fr a1.toList,WX C fr a2.toList with|some a,some b=>BS h (some<|.fn a0 a b)|_,_=>none
def fK(_a0:TypeId)(a1:Option Operand):G0:=fun C fr h=>match XP C fr a1 with|some v=>FT (Ji h v)|none=>none
def YO(_a0:TypeId)(_a1:Operand):G0:=fun _ _ _=>none
def W3(a0:TypeId)(a1:Operand)(a2:Operand):G0:=fun C fr h=>match ev C fr a1,ev C fr a2 with|some v,some u=>FT (RR C.T h a0 v u)|_,_=>none
def Abt(a0:TypeId)(a1:Operand)(a2:Option Operand)(a3:Option Operand)(a4:Option Operand):G0:=fun C fr h=>match ev C fr a1,XP C fr a2,XP C fr a3,XP C fr a4 with|some v,some l,some r,some m=>BS h (Eh C.T a0 v l r m)|_,_,_,_=>none
def Wh(a0:TypeId)(a1:Operand)(a2:Nat):G0:=fun C fr h=>match ev C fr a1 with|some v=>BS h (Lq C.T a0 v a2)|none=>none
def AaE(a0:TypeId)(a1:Operand)(a2:Nat):G0:=fun C fr h=>match ev C fr a1 with|some v=>BS h (Ln C.T a0 v a2)|none=>none
def VT(a0:TypeId)(a1:Operand)(a2:Operand):G0:=fun C fr h=>match ev C fr a1,ev C fr a2 with|some v,some u=>BS h (FX C.T a0 v u)|_,_=>none
def yC(a0:TypeId)(a1:Operand)(a2:Operand):G0:=fun C fr h=>match ev C fr a1,ev C fr a2 with|some v,some u=>BS h (JG C.T a0 v u)|_,_=>none
def oM(a0:TypeId)(a1:Operand)(a2:Operand)(a3:Bool):G0:=fun C fr h=>match ev C fr a1,ev C fr a2 with|some v,some u=>BS h (Fg C.T h a0 v u a3)|_,_=>none
def WB(a0:TypeId)(a1:Operand)(a2:Operand)(a3:Operand):G0:=fun C fr h=>match ev C fr a1,ev C fr a2,ev C fr a3 with|some a,some b,some c=>rH (IK C.T h a0 a b c)|_,_,_=>none
def Ya(_a0:TypeId)(_a1:Operand)(_a2:Operand):G0:=fun _ _ _=>none
def Vf(_a0:TypeId)(_a1:Operand)(_a2:Operand)(_a3:Operand):G0:=fun _ _ _=>none
def xF(a0:TypeId)(a1:Operand):G0:=fun C fr h=>match ev C fr a1 with|some v=>FT (Ig C.T h a0 v)|none=>none
def AeR(a0:Operand)(a1:Bool):G0:=fun C fr h=>match ev C fr a0 with|some v=>bif a1 then FT (Ov h v a1)else(U6 h v a1).map .alts|none=>none
def xH(a0:Operand):G0:=fun C fr h=>match ev C fr a0 with|some v=>BS h (UR h v)|none=>none
def Vq(_a0:Operand)(_a1:TypeId)(_a2:TypeId)(_a3:Bool):G0:=fun _ _ _=>none
def fB(a0:Operand)(a1:Nat):G0:=fun C fr h=>match ev C fr a0 with|some v=>BS h (HX v a1)|none=>none
def AeA(a0:Call):G0:=fun C fr h=>match a0.callee,WX C fr a0.args.toList with| .builtin b,some args=>Fs C h b a0.argTypes args| .value f,some args=>(match ev C fr f with|some g=>IT C h g args|none=>none)| .invoke x c,some args=>(match ev C fr x with|some v=>OY C h v c args|none=>none)|_,_=>none
def Ah3(_a0:Call):G0:=fun _ _ _=>none
def AaB(_a0:Call):G0:=fun _ _ _=>none
def AaW(_a0:Operand):G0:=fun _ _ _=>none
def Adv(_a0:Operand)(_a1:Operand):G0:=fun _ _ _=>none
def Aee(_a0:TypeId)(_a1:Operand)(_a2:Bool):G0:=fun _ _ _=>none
def lV(_a0:Array SelectCase)(_a1:Bool):G0:=fun _ _ _=>none
def opF(o:Op):G0:=@Op.casesOn (fun _=>G0) o Adh nK Ad9 Aba Ahi zE Vi lE AeV zL AaF wZ Zd xR AeW iW IY OG Yj fK YO W3 Abt Wh AaE VT yC oM WB Ya Vf xF AeR xH Vq fB AeA Ah3 AaB AaW Adv Aee lV
def Hu(C:Ctx)(fr:Fr)(h:H)(o:Oper):Option OR:=opF o.op C fr h
theorem Dg(C:Ctx)(fr:Fr)(h:H)(o:Oper):Hu C fr h o=Hp C fr h o:=by
 unfold Hu Hp;cases o.op<;>rfl
def JM(C:Ctx)(fr:Fr)(h:H)(o:Oper):Option OR:=
 match Hu C fr h o with
 |some r=>some r
 |none=>match o.op with
  | .convert s d x=>match ev C fr x with
   |some v=>match A8 C.T h s d v with
    |some u=>some<|.val u h
    |none=>FT<|Uw C.T h s d v
   |none=>none
  |_=>none
structure Ctx.Ok(C:Ctx)(P:Program):Prop where
 T:C.T.Ok P
 fn : ∀ f i, C.fn f = some i -> ∃ fn, P.funcs[f]? = some fn /\ fn.name ≠ "runtime.NumGoroutine" /\ fn.body = some i.body /\ fn.ntmps = i.ntmps /\ fn.results = i.results
 prim:∀f q,C.prim f=some q->∀(p:Pl) (h:H) (w:World) (args:List V) (args':Array Value) v h',R p h w->Gl C p->Ay p args args'.toList->q args h=some (v,h')->
  ∃v' p' w',(callFunc f args').run P w=.ok (.value v') w'/\Ae p' v v'/\Ext p h w p' h' w'
 spec:∀f q,C.spec f=some q->∀(p:Pl) (h:H) (w:World) (args:List V) (args':Array Value) v h',R p h w->Gl C p->Ay p args args'.toList->q args h=some (v,h')->
  Calls P f args' w fun e w'=>∃v' p',e=.returned v'/\Ae p' v v'/\Ext p h w p' h' w'
def Sb(p:Pl)(h:H)(w:World):OR->Result Next->Prop
 | .val v h',r=>∃v' p' w',r=.ok (.value v') w'/\Ae p' v v'/\Ext p h w p' h' w'
 | .skip h',r=>∃p' w',r=.ok .skip w'/\Ext p h w p' h' w'
 | .enter f args,r=>∃args',r=.ok (.enter f args') w/\Ay p args args'.toList
 | .round b l fr,r=>∃k n f tmps,p[b]?=some (k,n)/\h.get b=some (.loop l)/\r=.ok (.round k f tmps l.asg l.body) w/\EY p fr tmps
 | .alts l,r=>∃v h' v' p' w',(v,h')∈l/\r=.ok (.value v') w'/\Ae p' v v'/\Ext p h w p' h' w'
section
variable {C:Ctx}{P:Program}{p:Pl}{h:H}{w:World}{fr:Fr}{a:Act}
theorem Cg{s:Sem Value}{v:Option V}{r:OR}(hr:R p h w)(b:BS h v=some r)(d:∀x,v=some x->∃v',s.run P w=.ok v' w/\Ae p x v'):Sb p h w r ((do pure (.value<|<-s):Sem Next).run P w):=by
 cases v with
 |none=>simp[BS]at b
 |some x=>
  simp only[BS,zg]at b;subst b;obtain⟨v',c,e⟩:=d x rfl;exact⟨v',p,w,by simp[c],e,zq hr⟩
theorem DK{s:Sem Value}{v:Option (V×H)}{r:OR}(b:FT v=some r)(c:∀x h',v=some (x,h')->∃v' p' w',s.run P w=.ok v' w'/\Ae p' x v'/\Ext p h w p' h' w'):Sb p h w r ((do pure (.value<|<-s):Sem Next).run P w):=by
 match v,b,c with
 |some (x,h'),b,c=>
  simp only[FT,zg]at b;subst b;obtain⟨v',p',w',d,e,f⟩:=c x h' rfl;exact⟨v',p',w',by simp[d],e,f⟩
 |none,b,_=>simp[FT]at b
theorem bU{s:Sem Unit}{v:Option H}{r:OR}(b:rH v=some r)(d:∀h',v=some h'->∃w',s.run P w=.ok () w'/\Ext p h w p h' w'):Sb p h w r ((do s;pure .skip:Sem Next).run P w):=by
 cases v with
 |none=>simp[rH]at b
 |some h'=>
  simp only[rH,zg]at b;subst b;obtain⟨w',c,e⟩:=d h' rfl;exact⟨p,w',by simp[c],e⟩
theorem NJ(A:C.Ok P)(hr:R p h w)(J:Gl C p){f:V}{G:Value}{args:List V}{args':Array Value}(E:Ae p f G)(u:Ay p args args'.toList){r:OR}(b:IT C h f args=some r):
  Sb p h w r ((do let d<-zx G args';invoke d.target d.args:Sem Next).run P w):=by
 unfold IT at b;split at b
 case h_3=>cases b
 case h_2=>
  split at b
  case h_2=>cases b
  rename_i l B;rw[Bx]at b;by_cases N:args.length=l.ps.size
  ·simp only[N,decide_true,we,zg]at b;subst b;obtain⟨k,n,hp,rfl⟩:=E;obtain⟨k',n',o,s,z,f0,tmps,r,m,j,L,rfl⟩:=hr.obj _ _ B;have Q:=u.length;simp only[zx,zf,zp,zd,invoke];have e:((l.ps.zip args').foldl (fun tmps (t,a)=>tmps.setIfInBounds t a) tmps)=(l.ps.toList.zip args'.toList).foldl (fun tmps (t,a)=>tmps.setIfInBounds t a) tmps:=by
    grind [Array.toList_zip]
   have D:=EY.HU (ts:=l.ps.toList) u j;refine⟨k,n,f0,_,hp,B,?_,D⟩;simp_all [run_yield]
  grind
 rename_i g first captured
 obtain⟨x,y,rfl,O,K⟩:=E;have c:Ay p (first++args++captured) (x++args'++y).toList:=by
  simpa using(O.append u).append K
 simp only[zx,zf,zp,zd,invoke];split at b
 case h_1=>
  rename_i q I;match hqr:q (first++args++captured) h,b with
  |some (v,h'),b=>
   simp only[FT,zg]at b;subst b;obtain⟨v',p',w',s,z,j⟩:=A.prim g q I p h w _ _ v h' hr J c hqr;exact⟨v',p',w',s,z,j⟩
  |none,b=>simp[FT]at b
 case h_2=>
  split at b
  case h_2=>cases b
  rename_i i M;cases b;obtain⟨fn,s,z,j,L,D⟩:=A.fn g i M;refine⟨_,?_,c⟩;simp_all [callFunc]
theorem Xv(l:C.Ok P)(hr:R p h w)(q:Gl C p){x:V}{x':Value}{name:String}{args:List V}{args':Array Value}(z:Ae p x x')(B:Ay p args args'.toList){r:OR}(c:OY C h x name args=some r):
  Sb p h w r ((invoke (.fn (.method name) #[])<|#[x']++args').run P w):=by
 unfold OY at c;split at c
 case h_2=>cases c
 rename_i t v;split at c
 case h_2=>cases c
 rename_i g s;obtain⟨y,rfl,A⟩:=z;obtain⟨j,m,d,h1,h2,h3,h4,h5,h6⟩:=l.T.mth t name g s;have key:(invoke (.fn (.method name) #[])<|#[.iface t y]++args').run P w=((do let d<-zx (.func (.func g) #[] #[]) (#[y]++args');invoke d.target d.args:Sem Next).run P w):=by
  have n:(underlying t).run P w=.ok d w:=by simp_all [underlying]
  have u:(typeInfo t).run P w=.ok j w:=by unfold typeInfo;simp[h1]
  have b:∀k,(method (k+1) t y name).run P w=.ok (g,y) w:=by
   simp_all [method,follow,receiverAt,Place.get]
  have i:=b<|P.types.size+99;have e:P.types.size+Made.depth=P.types.size+99+1:=rfl;have h0:(#[Value.iface t y]++args')[0]?=some (.iface t y):=by
   grind
  have o:(#[Value.iface t y]++args').extract 1 (#[Value.iface t y]++args').size=args':=by
   simp
  simp only[invoke,zx,h0,o];simp[callMethod,e,i]
 rw[key];exact NJ l hr q (f:=.fn (.func g) [] []) (by simp[Ae]) (by simp_all) c
theorem WC(f:C.Ok P)(hr:R p h w){b:Builtin}{ts:Array TypeId}{t:TypeId}{cs:Array Bool}{args:List V}{args':Array Value}(e:Ay p args args'.toList){r:OR}(d:Fs C h b ts args=some r):
  Sb p h w r ((builtin b ts t cs args').run P w):=by
 unfold Fs at d;split at d
 case h_1=>exact Cg hr d fun x c=>Abj f.T hr e c
 case h_2=>exact DK d fun x h' c=>Yk f.T hr e c
 case h_3=>exact DK d fun x h' c=>tL f.T hr e c
 case h_4=>exact Cg hr d fun x c=>AbV e c
 case h_5=>exact Cg hr d fun x c=>AbC e c
 case h_6=>exact Cg hr d fun x c=>yV f.T e c
 case h_7=>exact DK d fun x h' c=>Zm f.T hr e c
 case h_8=>exact DK d fun x h' c=>jH f.T hr e c
 case h_9=>exact Cg hr d fun x c=>hO e c
 case h_10=>
  refine DK d fun x h' c=>?_
  obtain⟨v',w',i,g,j⟩:=vA (t:=t) f.T hr e c;grind
 grind
theorem sO{T:Cj}(k:T.Ok P){op:BinOp}{t:TypeId}{x y:Operand}{v u:V}{v' j:Value}(i:Ae p v v')(l:Ae p u j){z:V}(f:K1 T op t x y v u=some z):
  ∃n,(do eqGuard op t x y v' j;binOp op t v' j:Sem Value).run P w=.ok n w/\Ae p z n:=by
 unfold K1 at f;split at f
 case h_2=>
  simp only[zf,jB k i l f,zd];exact xX k i l f
 case h_1=>
  rename_i r hr;have B:∀ {b:Bool},(bif aL x||aL y then some (V.bool b)else none)=some z->z=.bool b/\((∃c,x=.const c)\/∃c,y=.const c):=by
   intro b g;cases d:(aL x||aL y)with
   |false=>grind
   |true=>
    simp only[d,we,zg]at g;refine⟨g.symm,?_⟩;simp only[zm]at d;rcases d with d|d
    ·left;cases x<;>first|exact⟨_,rfl⟩|cases d
    ·right;cases y<;>first|exact⟨_,rfl⟩|cases d
  have A:∀op,(op=.eql\/op=.neq)->((∃c,x=.const c)\/∃c,y=.const c)->(eqGuard op t x y .nilIface .nilIface).run P w=.ok () w:=by
   intro op s d;rcases s with rfl|rfl<;>unfold eqGuard<;>rcases d with⟨c,rfl⟩|⟨c,rfl⟩<;>simp
  have q:∀ {o},T.und t=some (.interface o)->(Op.equal t .nilIface .nilIface).run P w=.ok true w:=by
   intro o e;unfold Op.equal Op.maxDepth Op.equalIn;rw[zf,AE k e];rfl
  unfold Aan at hr;split at hr
  case h_1=>
   have g:=(O9 (t:=t) (y':=.nilIface) i rfl).1;simp_all [Ae]
  case h_2=>
   have g:=(O9 (t:=t) (y':=.nilIface) i rfl).2;simp_all [Ae]
  grind
theorem oX(E:C.Ok P)(hr:R p h w)(q:Gl C p)(A:CN p fr a){o:Oper}{r:OR}(e:Hu C fr h o=some r):Sb p h w r ((execOp a.eval o).run P w):=by
 rw[Dg]at e;unfold Hp at e;unfold execOp;cases ho:o.op<;>simp only[ho]at e ⊢<;>try (cases e;done)
 case move x|assign x=>
  cases j:ev C fr x with
  |none=>simp[j,BS]at e
  |some v=>simp[j,BS]at e;subst e;exact⟨_,p,w,rfl,Bc q A j,zq hr⟩
 case pick c x y=>
  split at e
  case h_2=>cases e
  rename_i t Y;have O:=Bc q A Y;simp only[Ae]at O;simp only[zf,O,asBool,zp,zd];cases t
  ·cases j:ev C fr y with
   |none=>simp[j,BS]at e
   |some v=>simp[j,BS]at e;subst e;exact⟨_,p,w,by simp,Bc q A j,zq hr⟩
  ·cases j:ev C fr x with
   |none=>simp[j,BS]at e
   |some v=>simp[j,BS]at e;subst e;exact⟨_,p,w,by simp,Bc q A j,zq hr⟩
 case alloc t=>exact DK e fun x h' j=>iE E.T hr j
 case box t x=>
  refine DK e fun v h' j=>?_
  rw[zi]at j;obtain⟨u,I,N⟩:=j;have:=Abx (P:=P) (t:=t) hr<|Bc q A I;grind
 case build t M=>
  split at e
  case h_2=>cases e
  rename_i ps K;refine Cg hr e fun x j=>gS E.T ?_ j
  have:=OX q A K;simp_all
 case buildSlice t n M=>
  split at e
  case h_2=>cases e
  rename_i ps K;refine DK e fun x h' j=>ZA E.T hr ?_ j
  have:=OX q A K;simp_all
 case load t x=>
  split at e
  case h_2=>cases e
  rename_i v B;exact Cg hr e fun x j=>Wd E.T hr (Bc q A B) j
 case store t x y=>
  split at e
  case h_2=>cases e
  rename_i v u B I;exact bU e fun h' j=>jF E.T hr (Bc q A B) (Bc q A I) j
 case nilCheck x=>
  split at e
  case h_3=>cases e
  case h_1=>
   rename_i b i B;have j:=Bc q A B;have J:=j;simp only[Ae]at J;obtain⟨r',n,hp,N⟩:=J;simp only[BS,zg]at e;subst e;rw[N];exact⟨_,p,w,rfl,N▸j,zq hr⟩
  case h_2=>
   rename_i t v B;have j:=Bc q A B;have J:=j;simp only[Ae]at J;obtain⟨y,N,_⟩:=J;simp only[BS,zg]at e;subst e;rw[N];exact⟨_,p,w,rfl,N▸j,zq hr⟩
 case binOp op t x y t2=>
  split at e
  case h_2=>cases e
  rename_i v u B I;refine Cg hr e fun z L=>?_
  exact sO E.T (Bc q A B) (Bc q A I) L
 case unOp op t x=>
  split at e
  case h_2=>cases e
  rename_i v B;exact Cg hr e fun x j=>Aed (Bc q A B) j
 case convert s d x=>
  split at e
  case h_2=>cases e
  rename_i v B;exact Cg hr e fun x j=>mW E.T hr (Bc q A B) j
 case makeInterface t x=>
  split at e
  case h_2=>cases e
  rename_i v d B W;split at e
  case h_1=>cases e
  case h_2=>
   refine Cg hr e fun z L=>?_
   cases L;refine⟨.iface t<|a.eval x,?_,by exact⟨_,rfl,Bc q A B⟩⟩;unfold Instr.makeInterface;simp only[zf,AE E.T W,zd];rfl
 case makeFunc f first captured=>
  split at e
  case h_2=>cases e
  rename_i x y j hy;refine Cg hr e fun z L=>?_
  cases L;exact⟨_,rfl,by exact⟨_,_,rfl,by simpa using Kc q A j,by simpa using Kc q A hy⟩⟩
 case makeMap t x=>
  split at e
  case h_2=>cases e
  rename_i v B;exact DK e fun x h' j=>W5 hr (Pg q A B) j
 case makeSlice t l c=>
  split at e
  case h_2=>cases e
  rename_i v u B I;exact DK e fun x h' j=>mQ E.T hr (Bc q A B) (Bc q A I) j
 case slice t x lo hi mx=>
  split at e
  case h_2=>cases e
  rename_i v l r' m B U X Z;exact Cg hr e fun x j=>gB E.T (Bc q A B) (Pg q A U) (Pg q A X) (Pg q A Z) j
 case fieldAddr t x f=>
  split at e
  case h_2=>cases e
  rename_i v B;exact Cg hr e fun x j=>fS E.T (Bc q A B) j
 case field t x f=>
  split at e
  case h_2=>cases e
  rename_i v B;exact Cg hr e fun x j=>gA E.T (Bc q A B) j
 case indexAddr t x i=>
  split at e
  case h_2=>cases e
  rename_i v u B I;exact Cg hr e fun x j=>eL E.T (Bc q A B) (Bc q A I) j
 case index t x i=>
  split at e
  case h_2=>cases e
  rename_i v u B I;exact Cg hr e fun x j=>jL E.T (Bc q A B) (Bc q A I) j
 case lookup t x i ok=>
  split at e
  case h_2=>cases e
  rename_i v u B I;exact Cg hr e fun x j=>Y2 E.T hr (Bc q A B) (Bc q A I) j
 case mapUpdate t m k x|insert t m k x=>
  split at e
  case h_2=>cases e
  rename_i v u z B I L;exact bU e fun h' j=>Yo E.T hr (Bc q A B) (Bc q A I) (Bc q A L) j
 case range t x=>
  split at e
  case h_2=>cases e
  rename_i v B;exact DK e fun x h' j=>Zj E.T hr (Bc q A B) j
 case next x b=>
  split at e
  case h_2=>cases e
  rename_i v B;cases b with
  |true=>exact DK e fun x h' j=>pN hr (Bc q A B) j
  |false=>
   simp only[wg,zi]at e;obtain⟨l,U,rfl⟩:=e;obtain⟨v,h',v',p',w',g1,g2,g3,g4⟩:=fA (P:=P) (t:=o.type) hr (Bc q A B) U;grind [zf,zd,zp,Sb]
 case entry x=>
  split at e
  case h_2=>cases e
  rename_i v B;exact Cg hr e fun x j=>fZ hr (Bc q A B) j
 case extract x i=>
  split at e
  case h_2=>cases e
  rename_i v B;exact Cg hr e fun x j=>VP (Bc q A B) j
 case call c=>
  split at e
  case h_4=>cases e
  case h_1=>
   rename_i b args G D;have:=Kc q A D;unfold resolve;simp only[G,zf,zp,zd,invoke];exact WC E hr (by simp_all) e
  case h_2=>
   rename_i f args G D;split at e
   case h_2=>cases e
   rename_i g Q;have:=Kc q A D;unfold resolve;simp only[G];exact NJ E hr q (Bc q A Q) (by simp_all) e
  case h_3=>
   rename_i x nm args G D;split at e
   case h_2=>cases e
   rename_i v B;have:=Kc q A D;unfold resolve;simp only[G,zf,zp,zd];exact Xv E hr q (Bc q A B) (by simp_all) e
theorem MU(e:C.Ok P)(hr:R p h w)(f:Gl C p)(g:CN p fr a){o:Oper}{r:OR}(b:JM C fr h o=some r):Sb p h w r ((execOp a.eval o).run P w):=by
 unfold JM at b;split at b
 case h_1=>
  grind [oX]
 case h_2=>
  split at b
  case h_2=>cases b
  rename_i s d x k;split at b
  case h_2=>cases b
  rename_i v i;unfold execOp;simp only[k];split at b
  case h_1=>
   rename_i u j;exact Cg (v:=some u) hr b fun x c=>by cases c;exact zX e.T hr (Bc f g i) j
  exact DK b fun x h' c=>gG e.T hr (Bc f g i) c
end
def Bi(fr:Fr)(ops:Array Oper)(o:Oper):Bool:=
 match o.guard with
 |none=>true
 |some (j,c)=>
  match (ops[j]?).bind (·.dst)with
  |some t=>bif zh t fr.n then(match fr.get t with| .bool b=>b==c|_=>false)else false
  |none=>false
inductive Cl where
 |fn (f:FuncId) (args:List V)
 |rnd (b:Nat) (l:LS) (fr:Fr)
abbrev DP:=Cl->H->Option (List<|V×H)
def bl{α d:Type}:List α->(α->Option (List d))->Option (List d)
 |[],_=>some []
 |a::c,f=>match f a with
  |none=>none
  |some x=>match c with
   |[]=>some x
   |b::e=>match bl (b::e) f with
    |some y=>some<|x++y
    |none=>none
theorem JV{α g:Type}{f:α->Option (List g)}:∀ {l:List α} {r:List g},bl l f=some r->∀a∈l,∃x,f a=some x/\∀b∈x,b∈r
 |[],r,_,a,e=>by cases e
 |[c],r,h,a,e=>by
  grind [bl]
 |c::d::i,r,h,a,e=>by
  unfold bl at h;split at h
  ·cases h
  simp only at h;split at h
  case h_2=>cases h
  rename_i y j;rcases ym.1 e with rfl|e
  ·grind
  ·obtain⟨z,k,n⟩:=JV j a e;grind
def ID(fr:Fr)(d:Option Nat):List (V×H)->Option (List<|Fr×H)
 |[]=>some []
 |(v,h)::l=>match fr.put d v with
  |some f=>match ID fr d l with
   |some r=>some ((f,h)::r)
   |none=>none
  |none=>none
theorem Rb{fr:Fr}{d:Option Nat}:∀ {l:List (V×H)} {r:List (Fr×H)},ID fr d l=some r->∀v h,(v,h)∈l->∃f,fr.put d v=some f/\(f,h)∈r
 |[],r,_,v,h,hm=>by cases hm
 |(u,k)::l,r,b,v,h,hm=>by
  unfold ID at b;split at b
  case h_2=>cases b
  split at b
  case h_2=>cases b
  rename_i i hr;rcases ym.1 hm with e|hm
  ·grind
  ·obtain⟨g,c,j⟩:=Rb hr v h hm;grind
def step1(C:Ctx)(call:DP)(ops:Array Oper)(o:Oper)(fr:Fr)(h:H):Option (List<|Fr×H):=
 bif Bi fr ops o then
  match JM C fr h o with
  |some (.val v h')=>match fr.put o.dst v with
   |some fr'=>some [(fr',h')]
   |none=>none
  |some (.skip h')=>match fr.put o.dst (.tup [])with
   |some fr'=>some [(fr',h')]
   |none=>none
  |some (.enter f args)=>match call (.fn f args) h with
   |some l=>ID fr o.dst l
   |none=>none
  |some (.round b ls f)=>match call (.rnd b ls f) h with
   |some l=>ID fr o.dst l
   |none=>none
  |some (.alts l)=>ID fr o.dst l
  |none=>none
 else match fr.put o.dst (.tup [])with
  |some fr'=>some [(fr',h)]
  |none=>none
def U3(C:Ctx)(call:DP)(ops:Array Oper):List Oper->Fr->H->Option (List<|Fr×H)
 |[],fr,h=>some [(fr,h)]
 |o::b,fr,h=>match step1 C call ops o fr h with
  |some l=>bl l fun x=>U3 C call ops b x.1 x.2
  |none=>none
def FW(ro:Option Nat):Fence:={ ya with round:=ro }
theorem ZJ{ro:Option Nat}{n:Nat}{P:Program}{f:FuncId}{args:Array Value}{w:World}{R:Ending->World->Prop}:CallsIn (FW ro) n P f args w R↔Calls P f args w R:=by
 have:CallsIn (FW ro) n P f args w R↔CallsIn ya n P f args w R:=Iff.rfl;grind [callsIn_wide]
theorem AeY{ro:Option Nat}{n:Nat}{P:Program}{k:Nat}{f:FuncId}{tmps:Array Value}{asg body:Code}{w:World}{R:Ending->World->Prop}(h:RoundIn ya 0 P k f tmps asg body w R):RoundIn (FW ro) n P k f tmps asg body w R:=
 ⟨trivial,fun c cs _=>h.2 c cs<|room_wide _⟩
inductive DX where
 |normal
 |exit (id:Nat)
 |ret
def DX.TY:DX->Exit
 | .normal=>.normal
 | .exit id=>.exit id
 | .ret=>.ret
section
variable {C:Ctx}{P:Program}{p:Pl}{h:H}{w:World}{fr:Fr}{a:Act}
theorem CN.put(f:CN p fr a){d:Option Nat}{v:V}{v':Value}(i:Ae p v v'){fr':Fr}(c:fr.put d v=some fr'):CN p fr' (a.put d v'):=by
 unfold Fr.put at c;cases d with
 |none=>cases c;exact f
 |some t=>
  simp only[Hz]at c;by_cases b:t<fr.n
  ·simp only[b,decide_true,we,zg]at c;subst c;refine⟨by simp[yo,f.1],fun s=>?_⟩;have g:t<a.tmps.size:=f.1▸b;by_cases e:s=t
   ·simp_all [Fr.get,yo]
   ·have:=f.2 s;simp only[Fr.get,PM.DI,wc e,yo]at this ⊢;rw[zk,z8 ae, <-zk];omega
  grind
theorem CN.mono(b:CN p fr a){p':Pl}(hp:∃q,p'=p++q):CN p' fr a:=by
 obtain⟨q,rfl⟩:=hp;exact⟨b.1,fun t=>(b.2 t).mono q⟩
theorem CN.ext(b:CN p fr a){p':Pl}{h':H}{w':World}(e:Ext p h w p' h' w'):CN p' fr a:=b.mono e.pre
theorem Aav{p:Pl}{v:V}{b:Bool}(c:Ae p v (.bool b)):v=.bool b:=by
 cases v<;>simp only[Ae]at c<;>first|(cases c;rfl)|(simp at c;done)|(done)|(done)|(done)|(done)|(done)
theorem Tt(l:CN p fr a)(ops:Array Oper)(o:Oper):zy o (yielded ops a.tmps)=Bi fr ops o:=by
 unfold zy Bi;cases r:o.guard with
 |none=>rfl
 |some q=>
  obtain⟨j,f⟩:=q;simp only;unfold yielded;cases s:(ops[j]?).bind (·.dst)with
  |none=>simp
  |some t=>
   simp only[Option.bind_some,Hz];by_cases c:t<fr.n
   ·have d:t<a.tmps.size:=l.1▸c;have g:=l.2 t;simp only[c,decide_true,we];have e:a.tmps[t]?=some (a.tmps.getD t undef):=by simp[d]
    rw[e];cases i:a.tmps.getD t undef with
    |bool b=>
     rw[i]at g;have:=Aav g;grind
    |_=>
     rw[i]at g;cases k:fr.get t with
     |bool b=>rw[k]at g;simp[Ae]at g
     |_=>cases f<;>rfl
   ·have:a.tmps[t]?=none:=Array.getElem?_eq_none<|Nat.le_of_not_lt<|l.1▸c;grind
def Ho(p:Pl)(h:H)(w:World)(l:List (V×H))(e:Ending)(w':World):Prop:=
 ∃v h' v' p',(v,h')∈l/\e=.returned v'/\Ae p' v v'/\Ext p h w p' h' w'
structure DP.Ok(C:Ctx)(P:Program)(call:DP):Prop where
 fn:∀f args h l,call (.fn f args) h=some l->∀(p:Pl) (w:World) (args':Array Value),R p h w->Gl C p->Ay p args args'.toList->Calls P f args' w (Ho p h w l)
 rnd:∀b ls fr h l,call (.rnd b ls fr) h=some l->∀(p:Pl) (w:World) (k n:Nat) (f:FuncId) (tmps:Array Value),R p h w->Gl C p->h.get b=some (.loop ls)->p[b]?=some (k,n)->EY p fr tmps->
  RoundIn ya 0 P k f tmps ls.asg ls.body w (Ho p h w l)
theorem H2{o:Oper}{r:OR}(b:Hu C fr h o=some r):∀c,o.op≠ .defer c:=by
 grind [Dg,Hp]
theorem GH{o:Oper}{r:OR}(b:JM C fr h o=some r):∀c,o.op≠ .defer c:=by
 grind [JM,H2]
theorem U0{p':Pl}{l:List (V×H)}{r:List (Fr×H)}{d:Option Nat}(hp:ID fr d l=some r)(n:CN p fr a){K:Act->World->Prop}
  (e:∀x∈r,∀p' b w',CN p' x.1 b->Ext p h w p' x.2 w'->b.defers=a.defers->K b w') {v:V} {h':H} {v':Value} {w':World} (j:(v,h')∈l) (k:Ae p' v v') (c:Ext p h w p' h' w'):K (a.put d v') w':=by
 obtain⟨f,g,i⟩:=Rb hp v h' j;exact e _ i p' _ w' ((n.ext c).put k g) c (by cases d<;>rfl)
theorem iI(A:C.Ok P){call:DP}(q:call.Ok C P)(hr:R p h w)(u:Gl C p)(j:CN p fr a){ops:Array Oper}{i:Nat}{o:Oper}(O:ops[i]?=some o){l:List (Fr×H)}
  (d:step1 C call ops o fr h=some l) {ro:Option Nat} {n:Nat} {Q:Exit->Act->World->Prop} {K:Act->World->Prop}
  (z:∀x∈l,∀p' J w',CN p' x.1 J->Ext p h w p' x.2 w'->J.defers=a.defers->K J w'):wpOpIn (FW ro) n P ops Q i K a w:=by
 have t:∀v,(a.put o.dst v).defers=a.defers:=by intro v;cases o.dst<;>rfl
 unfold step1 at d;unfold wpOpIn;simp only[O];rw[Tt j];cases L:Bi fr ops o with
 |false=>
  simp only[L,wg]at d;refine⟨fun _ _=>trivial,?_⟩;split at d
  case h_2=>cases d
  rename_i D hp;cases d;exact z _ (zn.2 rfl) p _ w (j.put (by simp[Ae,undef]) hp) (zq hr)<|t _
 |true=>
  simp only[L,we]at d;refine⟨fun _ _=>trivial,?_⟩;split at d
  case h_6=>cases d
  case h_1=>
   rename_i v M c;split at d
   case h_2=>cases d
   rename_i D hp;cases d;obtain⟨v',p',w',s,y,r⟩:=MU A hr u j c;rw[zl _ _ _<|GH c,s,zr];exact z _ (zn.2 rfl) p' _ w' ((j.ext r).put y hp) r<|t _
  case h_2=>
   rename_i M c;split at d
   case h_2=>cases d
   rename_i D hp;cases d;obtain⟨p',w',s,r⟩:=MU A hr u j c;rw[zl _ _ _<|GH c,s,Oper.uponIn_skip];exact z _ (zn.2 rfl) p' _ w' ((j.ext r).put (by simp[Ae,undef]) hp) r<|t _
  case h_3=>
   rename_i f args c;split at d
   case h_2=>cases d
   rename_i l1 E;obtain⟨args',s,y⟩:=MU A hr u j c;rw[zl _ _ _<|GH c,s,Oper.uponIn_enter];refine⟨(by grind [FW,ya]),ZJ.2<|(q.fn f args h l1 E p w args' hr u y).mono ?_⟩;rintro e w' ⟨v,h',v',p',B,rfl,G,I⟩;exact U0 d j z B G I
  case h_4=>
   rename_i b ls f c;split at d
   case h_2=>cases d
   rename_i l1 E;obtain⟨k,m,g,tmps,s,y,r,N⟩:=MU A hr u j c;rw[zl _ _ _<|GH c,r,Oper.uponIn_round];refine⟨(by grind [FW,ya]),(AeY<|q.rnd b ls f h l1 E p w k m g tmps hr u y s N).mono ?_⟩;rintro e w' ⟨v,h',v',p',B,rfl,G,I⟩;exact U0 d j z B G I
  case h_5=>
   rename_i l1 c;obtain⟨v,h',v',p',w',B,s,y,r⟩:=MU A hr u j c;rw[zl _ _ _<|GH c,s,zr];exact U0 d j z B y r
theorem Ws(t:C.Ok P){call:DP}(b:call.Ok C P){ops:Array Oper}{ro:Option Nat}{n:Nat}{Q:Exit->Act->World->Prop}:
  ∀(l:List Oper) (k:Nat),(∀j,l[j]?=ops[k+j]?)->∀ {p:Pl} {h:H} {w:World} {fr:Fr} {a:Act},R p h w->Gl C p->CN p fr a->∀ {L:List (Fr×H)},U3 C call ops l fr h=some L->
  (∀x∈L,∀p' r w',CN p' x.1 r->Ext p h w p' x.2 w'->r.defers=a.defers->Q .normal r w')->wpOpsIn (FW ro) n P ops Q (List.range' k l.length) a w
 |[],k,_,p,h,w,fr,a,hr,q,g,L,d,f=>by
  cases d;exact f _ (zn.2 rfl) p a w g (zq hr) rfl
 |o::l,k,z,p,h,w,fr,a,hr,q,g,L,d,f=>by
  unfold U3 at d;split at d
  case h_2=>cases d
  rename_i l1 G;refine iI t b hr q g (by simpa using(z 0).symm) G (K:=wpOpsIn (FW ro) n P ops Q<|List.range' (k+1) l.length) fun x M N a1 O e c A=>?_
  obtain⟨L1,I,E⟩:=JV d x M;exact Ws t b l (k+1) (fun j=>by have:=z<|j+1;grind) c.rel (q.ext c) e I
   fun y J D a2 B s i u=>f y (E y J) D a2 B s (c.trans i) ah
theorem Y9(d:C.Ok P){call:DP}(b:call.Ok C P){ops:Array Oper}{ro:Option Nat}{n:Nat}{Q:Exit->Act->World->Prop}(hr:R p h w)(i:Gl C p)(f:CN p fr a){L:List (Fr×H)}
  (e:U3 C call ops ops.toList fr h=some L) {id:Nat}
  (g:∀x∈L,∀p' c w',CN p' x.1 c->Ext p h w p' x.2 w'->c.defers=a.defers->Q .normal c w'):(Code.region id ops false).wpIn (FW ro) n P Q a w:=by
 refine wpIn_region ?_;have:=Ws (Q:=Q) (ro:=ro) (n:=n) d b ops.toList 0 (by simp) hr i f e g;grind [List.range_eq_range']
end
theorem Nh{C:Ctx}{fr fr':Fr}:∀ {b:List Operand},(∀x∈b,ev C fr x=ev C fr' x)->WX C fr b=WX C fr' b
 |[],_=>rfl
 |x::b,h=>by
  unfold WX;rw[h x (by simp),Nh<|fun y c=>h y<|by simp[c]]
theorem Kh{C:Ctx}{fr fr':Fr}:∀ {b:List (Nat×Operand)},(∀x∈b,ev C fr x.2=ev C fr' x.2)->Yr C fr b=Yr C fr' b
 |[],_=>rfl
 |(i,x)::b,h=>by
  unfold Yr;rw[h (i,x) (by simp),Kh<|fun y c=>h y<|by simp[c]]
theorem S8{C:Ctx}{fr fr':Fr}{x:Option Operand}(h:∀y,x=some y->ev C fr y=ev C fr' y):XP C fr x=XP C fr' x:=by
 cases x with
 |none=>rfl
 |some y=>simp[XP,h y rfl]
theorem iU{C:Ctx}{fr fr':Fr}{h:H}{o:Oper}(d:∀x∈o.op.operands,ev C fr x=ev C fr' x):Hu C fr h o=Hu C fr' h o:=by
 obtain⟨dst,op,b,pos,after,guard⟩:=o;cases op<;>simp only[yi]at d<;>simp only[Dg,Hp]
 case build t ps=>grind [Kh]
 case buildSlice t n ps=>grind [Kh]
 case makeFunc f first captured=>grind [Nh]
 case makeMap t r=>grind [S8]
 case slice t x lo e mx=>
  grind [S8]
 case call c=>
  grind [Nh,Call.operands]
 all_goals (first|rfl|(simp_all;done))
def reads(ops:Array Oper)(o:Oper):List Tmp:=o.looksAt ops
theorem xV{C:Ctx}{fr fr':Fr}{x:Operand}(h:∀t,x=.tmp t->fr.get t=fr'.get t):ev C fr x=ev C fr' x:=by
 cases x with
 |tmp t=>simp only[ev,h t rfl]
 |_=>rfl
theorem mem_reads{ops:Array Oper}{o:Oper}{t:Tmp}(h:Operand.tmp t∈o.op.operands):t∈reads ops o:=
 List.mem_append_left _ (List.mem_filterMap.2 ⟨.tmp t,by grind,rfl⟩)
theorem UD{fr fr':Fr}{ops:Array Oper}{o:Oper}(d:fr.n=fr'.n)(h:∀t∈reads ops o,fr.get t=fr'.get t):Bi fr ops o=Bi fr' ops o:=by
 unfold Bi;cases e:o.guard with
 |none=>rfl
 |some c=>
  obtain⟨j,b⟩:=c;simp only;cases f:(ops[j]?).bind (·.dst)with
  |none=>rfl
  |some t=>
   simp only[d];rw[h t<|List.mem_append_right _ ah]
def SG(l:List Tmp)(fr:Fr):Fr:=⟨fr.n,l.foldr (fun t m=>m.set t<|some<|fr.get t) .leaf⟩
def Qa(l:List Tmp)(a:Act):Act:={ a with tmps:=Array.ofFn (n:=a.tmps.size) fun t=>if l.contains t.1 then a.tmps.getD t undef else undef }
theorem N4(l:List Tmp)(fr:Fr)(t:Tmp):(SG l fr).get t=if t∈l then fr.get t else .tup []:=by
 unfold SG Fr.get;induction l with
 |nil=>simp
 |cons x l b=>
  simp only[List.foldr_cons,PM.DI,ym];grind
theorem Sr(l:List Tmp)(a:Act)(t:Tmp):(Qa l a).tmps.getD t undef=if t∈l then a.tmps.getD t undef else undef:=by
 unfold Qa;by_cases h:t<a.tmps.size
 ·simp[h]
 simp_all
section
variable {C:Ctx}{P:Program}{p:Pl}{h:H}{w:World}{fr:Fr}{a:Act}
structure FOn(p:Pl)(fr:Fr)(a:Act)(l:List Tmp):Prop where
 n:fr.n=a.tmps.size
 get:∀t∈l,Ae p (fr.get t) (a.tmps.getD t undef)
theorem FOn.QC{l:List Tmp}(c:FOn p fr a l):CN p (SG l fr) (Qa l a):=by
 refine⟨by simp[SG,Qa,c.n],fun t=>?_⟩;rw[N4,Sr];by_cases b:t∈l
 ·simp only[b,wm];exact c.get t b
 simp_all [Ae,undef]
theorem N0{ops:Array Oper}{o:Oper}{x:Operand}(b:x∈o.op.operands):(Qa (reads ops o) a).eval x=a.eval x:=by
 cases x with
 |tmp t=>
  have:=Sr (reads ops o) a t;rw[wd<|mem_reads b]at this;exact this
 |_=>rfl
theorem Vz{ops:Array Oper}{o:Oper}{x:Operand}(b:x∈o.op.operands):ev C (SG (reads ops o) fr) x=ev C fr x:=by
 refine xV fun t c=>?_
 simp_all [N4,mem_reads]
theorem J8(c:C.Ok P)(hr:R p h w)(d:Gl C p){ops:Array Oper}{o:Oper}(e:FOn p fr a (reads ops o))(i:∀cs b,o.op≠ .select cs b){r:OR}(g:Hu C fr h o=some r):
  Sb p h w r ((execOp a.eval o).run P w):=by
 have f:=oX c hr d e.QC (o:=o) (r:=r) (by grind [iU,Vz]);grind [execOp_congr,N0]
theorem SP{ops:Array Oper}{o:Oper}(f:FOn p fr a (reads ops o)):zy o (yielded ops a.tmps)=Bi fr ops o:=by
 have b:=Tt f.QC ops o;rw[UD (fr:=SG (reads ops o) fr) (fr':=fr) (ops:=ops) (o:=o) rfl (by simp_all [N4])]at b;rw[<-b];unfold zy;cases i:o.guard with
 |none=>rfl
 |some d=>
  obtain⟨j,c⟩:=d;simp only;unfold yielded;cases k:(ops[j]?).bind (·.dst)with
  |none=>rfl
  |some t=>
   have g:t∈reads ops o:=List.mem_append_right _ ah;by_cases e:t<a.tmps.size
   ·simp_all [Qa]
   simp_all [Qa]
end
def ET(o:Oper):Bool:=
 match o.op with
 | .move _| .assign _| .pick .. | .build .. | .load .. | .nilCheck _| .binOp .. | .unOp .. | .convert .. | .makeInterface .. | .makeFunc .. | .slice .. | .fieldAddr .. | .field .. | .indexAddr .. | .index .. | .lookup .. | .extract .. =>true
 | .call { callee:=.builtin .len,.. }| .call { callee:=.builtin .max,.. }| .call { callee:=.builtin .min,.. }| .call { callee:=.builtin .unsafeSliceData,.. }=>true
 |_=>false
def R4(o:Oper):Bool:=
 match o.op with
 | .load .. | .convert .. | .lookup .. =>true
 | .call { callee:=.builtin .len,.. }=>true
 |_=>false
def C2(o:Oper):Bool:=
 match o.op with
 | .alloc _| .box .. | .buildSlice .. =>true
 |_=>false
theorem Hm{h:H}{v:Option V}{r:OR}(b:BS h v=some r):∃x,v=some x/\r=.val x h:=by
 cases v with
 |none=>cases b
 |some x=>cases b;simp
theorem rd_val{C:Ctx}{fr:Fr}{h:H}{o:Oper}(e:ET o=true){r:OR}(d:Hu C fr h o=some r):∃v,r=.val v h:=by
 obtain⟨dst,op,g,pos,after,guard⟩:=o;cases op<;>simp only[ET]at e<;>simp only[Dg,Hp]at d<;>try (cases e;done)
 case call c=>
  obtain⟨callee,args,ts⟩:=c;cases callee with
  |builtin b=>
   cases i:WX C fr args.toList with
   |none=>grind
   |some j=>
    simp only[i]at d;cases b<;>first|(cases e;done)|(obtain⟨x,_,rfl⟩:=Hm d;simp)
  |value f=>cases e
  |invoke=>cases e
 all_goals
  repeat' split at d
  all_goals first
   |(cases d;done)
   |(obtain⟨x,_,rfl⟩:=Hm d;exact⟨x,rfl⟩)
theorem oO{C:Ctx}{fr:Fr}{h:H}{o:Oper}(g:ET o=true)(k:R4 o=false){v:V}(d:Hu C fr h o=some (.val v h))(h':H):Hu C fr h' o=some (.val v h'):=by
 have key:∀ {x:Option V},BS h x=some (.val v h)->BS h' x=some (.val v h'):=by
  intro x l;obtain⟨y,rfl,e⟩:=Hm l;cases e;rfl
 obtain⟨dst,op,i,pos,after,guard⟩:=o;cases op<;>simp only[ET]at g<;>simp only[R4]at k<;>simp only[Dg,Hp]at d ⊢<;>try (first|(done)|(done))
 case call c=>
  obtain⟨callee,args,ts⟩:=c;cases callee with
  |builtin b=>
   cases n:WX C fr args.toList with
   |none=>grind
   |some j=>
    grind [Fs]
  |value f=>cases g
  |invoke=>cases g
 all_goals
  repeat' split at d
  all_goals first
   |(done)
   |exact key d
   |grind
section
variable {C:Ctx}{P:Program}{p:Pl}{h:H}{w:World}{fr:Fr}{a:Act}
def X0(T:Cj)(t:TypeId)(len:Nat)(b:List (Nat×V)):Option (List V×TypeId):=
 match T.und t with
 |some (.slice e)=>match T.inf e with
  |some i=>
   bif z7 (len*i.size) 16777216&&zh 0 (i.zero.length)&&zo i.zero.length i.size then
    (I8 (fun k=>some (k*i.size,i.size)) (F7 i.zero<|len*i.size) b).map fun cs=>(cs,e)
   else none
  |none=>none
 |_=>none
def wR(C:Ctx)(fr:Fr)(o:Oper):Option (O×(Nat->V)):=
 match o.op with
 | .alloc t=>match C.T.inf t with
  |some i=>some (.cells i.zero t (0,0),fun b=>.ptr b 0)
  |none=>none
 | .box t x=>match ev C fr x with
  |some v=>some (.cells v.cells t (0,0),fun b=>.ptr b 0)
  |none=>none
 | .buildSlice t n c=>match Yr C fr c.toList with
  |some ps=>match X0 C.T t n ps with
   |some (cs,e)=>some (.cells cs e (0,0),fun b=>.sl b 0 n n 0)
   |none=>none
  |none=>none
 |_=>none
theorem Adu(A:C.Ok P)(M:Gl C p){ops:Array Oper}{o:Oper}(L:FOn p fr a (reads ops o)){ob:O}{f:Nat->V}(l:wR C fr o=some (ob,f)):
  ∃x n v',(execOp a.eval o).run P w=.ok (.value v') { w with heap:=w.heap.push x }/\LM p n ob x/\∀(q:Pl) b,q[b]?=some (w.heap.size,n)->Ae q (f b) v':=by
 have K:=L.QC;have d:∀(t:TypeId) (cs:List V) (c:Array Value),Ay p cs c.toList->LM p c.size (.cells cs t (0,0)) (.cells c t):=by
  intro t cs c y;refine⟨c,(0,0),rfl,rfl,by have:=y.length;grind,?_,ae⟩;have:=y.length;rw[List.take_of_length_le ae];exact y.toC
 unfold wR at l;split at l
 case h_4=>cases l
 case h_1=>
  rename_i t D;split at l
  case h_2=>cases l
  rename_i i B;cases l;obtain⟨z,J,r⟩:=EL A.T B;refine⟨.cells z.cells t,_,.pointer<|some ⟨w.heap.size,0,none⟩,?_,d _ _ _<|r p,(by simp_all [Ae])⟩;simp_all [execOp,Instr.alloc,newVar,CZ]
 case h_2=>
  rename_i t x D;split at l
  case h_2=>cases l
  rename_i v N;cases l;have y:Ae p v (a.eval x):=by
   have:=Bc (C:=C) M K (x:=x) (v:=v) (by grind [Vz,yi]);grind [N0,yi]
  refine⟨.cells (a.eval x).cells t,_,.pointer<|some ⟨w.heap.size,0,none⟩,?_,d _ _ _ y.cells,(by simp_all [Ae])⟩;simp_all [execOp,Instr.box,newVar,CZ]
 case h_3=>
  rename_i t len s D;split at l
  case h_2=>cases l
  rename_i ps G;split at l
  case h_2=>cases l
  rename_i cs e g;cases l;have hp:VE p ps (s.map fun(i,x)=>(i,a.eval x)).toList:=by
   grind [OX,Kh,Vz,yi,Array.toList_map,List.map_congr_left,N0]
  unfold X0 at g;split at g
  case h_2=>cases g
  rename_i I E;split at g
  case h_2=>cases g
  rename_i i B;cases j:(z7 (len*i.size) 16777216&&zh 0 (i.zero.length)&&zo i.zero.length i.size)with
  |false=>grind
  |true=>
   simp only[j,we,zi,yk]at g;obtain⟨cs',u,rfl,rfl⟩:=g;simp only[ze,yn,zt,Bx,w5]at j;obtain⟨⟨c1,c2⟩,c3⟩:=j;obtain⟨z,J,r⟩:=EL A.T B;obtain⟨oo,h1,h2⟩:=MF (p:=p) (place:=fun k=>some (k*i.size,i.size)) hp (Kf (r p) c2<|len*i.size) u;refine⟨.cells oo I,_,.slice (some ⟨w.heap.size,0,none⟩) len len,?_,d _ _ _ h2,(by simp_all [Ae])⟩;unfold execOp;simp only[D];unfold Instr.buildSlice;simp only[zf,AE A.T E,zd,BH A.T B];by_cases h0:len*i.size=0
   ·grind [zf,zp,zd,CZ]
   simp_all [CZ]
theorem Ext.rI{z p:Pl}{l h:H}{i w:World}(j:Ext z l i p h w){r n:Nat}{o:O}{x:Obj}(Z:w.heap[r]?=some x)(Y:LM p n o x)(hi:¬Im p h r)(R:i.heap.size<=r):
  Ext z l i (p++[(r,n)]) (h.push o) w:=by
 have hr:=j.rel;have A:(p++[(r,n)])[h.nx]?=some (r,n):=by rw[<-hr.len];simp
 have g:∀b,b<h.nx->(p++[(r,n)])[b]?=p[b]?:=ah;have d:∀c f,(h.push o).get c=some f->(c=h.nx/\f=o)\/(c<h.nx/\h.get c=some f):=by
  intro c f k;rw[H.CW]at k;by_cases e:c=h.nx
  ·grind
  ·rw[wc e]at k;exact .inr ⟨hr.lt k,k⟩
 refine⟨?_,⟨by simp[hr.len],fun c f k=>?_,fun c N f G s m W k L h1 Q=>?_⟩,j.size,j.same,fun s J=>?_,j.os,j.out,j.tape,fun s J U=>?_,j.dr⟩
 ·obtain⟨q,rfl⟩:=j.pre;simp
 ·rcases d c f k with⟨rfl,rfl⟩|⟨D,E⟩
  ·exact⟨r,n,x,A,Z,Y.mono _⟩
  ·obtain⟨s,m,y,B,u,K⟩:=hr.obj c f E;exact⟨s,m,y,by grind,u,K.mono _⟩
 ·rcases d c f k with⟨rfl,rfl⟩|⟨D,E⟩<;>rcases d N G L with⟨rfl,rfl⟩|⟨M,I⟩
  ·rfl
  ·grind [Im]
  ·grind [Im]
  ·rw[g c D]at h1;rw[g N M]at Q;exact hr.inj c N f G s m W E I h1 Q
 ·obtain⟨c,f,m,B,u⟩:=J;rcases d c f B with⟨rfl,rfl⟩|⟨D,E⟩
  ·grind
  ·rw[g c D]at u;exact j.im s ⟨c,f,m,E,u⟩
 ·obtain⟨D,h1⟩:=j.lock s J U;refine⟨D,?_⟩;rcases h1 with⟨c,m,cs,t,fz,B,u,K⟩|h1
  ·have X:=hr.lt B;exact .inl ⟨c,m,cs,t,fz,by rw[H.CW,wc ae];exact B,by grind,K⟩
  ·refine .inr ?_;rintro⟨c,f,m,B,u⟩;rcases d c f B with⟨rfl,rfl⟩|⟨M,I⟩
   ·grind
   ·rw[g c M]at u;exact h1 ⟨c,f,m,I,u⟩
theorem Ext.aside{e p:Pl}{d h:H}{f w:World}(c:Ext e d f p h w)(x:Obj):Ext e d f p h { w with heap:=w.heap.push x }:=by
 have hr:=c.rel;refine⟨c.pre,⟨hr.len,fun b o j=>?_,hr.inj⟩,by have:=c.size;grind,fun r g q=>?_,c.im,c.os,c.out,c.tape,fun r g k=>?_,c.dr⟩
 ·obtain⟨r,n,y,i,l,s⟩:=hr.obj b o j;grind
 ·have i:=c.same r g q;grind
 ·obtain⟨i,l⟩:=c.lock r g k;grind
end
def Em(C:Ctx)(call:DP)(fr:Fr)(h:H)(o:Oper):Option (V×H):=
 match Hu C fr h o with
 |some (.val v h')=>some (v,h')
 |some (.skip h')=>some (.tup [],h')
 |some (.enter f args)=>match call (.fn f args) h with
  |some [x]=>some x
  |_=>none
 |_=>none
def C9(o:Oper):Bool:= !ET o&& !C2 o
structure Stat(ops:Array Oper)(anc:Nat->Nat->Bool)(ord pos:Nat->Nat)(sc:Nat->Option Nat):Prop where
 sel:Region.noSelect ops=true
 ordp:∀q,q<ops.size->ord q<ops.size/\pos (ord q)=q
 posp:∀i,i<ops.size->pos i<ops.size/\ord (pos i)=i
 edge:∀j i,anc j i=true->∃(o:Oper) (e:Edge),ops[j]?=some o/\e∈o.after/\yb .any e=true/\(e.on=i\/anc e.on i=true)
 dir:∀(j:Nat) (o:Oper) (e:Edge),ops[j]?=some o->e∈o.after->yb .any e=true->anc j e.on=true/\e.on<ops.size
 apos:∀j i,anc j i=true->pos i<pos j
 s1:∀(i j:Nat) (o o':Oper),ops[i]?=some o->ops[j]?=some o'->C9 o=true->C9 o'=true->i≠j->anc i j=true\/anc j i=true
 s2:∀(i j:Nat) (o o':Oper),ops[i]?=some o->ops[j]?=some o'->C9 o=true->ET o'=true->anc j i=true\/pos j<pos i
 q1:∀(i k:Nat),sc i=some k->∃(o ok:Oper) (t:Tmp),ops[i]?=some o/\ops[k]?=some ok/\(o.op=.assign (.tmp t)\/o.op=.move (.tmp t))/\o.guard=none/\C2 ok=true/\ok.dst=some t/\anc i k=true
 s3:∀(j k:Nat) (o o':Oper) (t:Tmp),ops[j]?=some o->ops[k]?=some o'->(C2 o=true\/(sc j).isSome=true)->C9 o'=false->o.dst=some t->t∈reads ops o'->anc k j=true->
  sc k=some j\/∃(i:Nat) (oi:Oper),ops[i]?=some oi/\C9 oi=true/\anc i j=true/\anc k i=true
 s4:∀(i j:Nat) (o o':Oper),ops[i]?=some o->ops[j]?=some o'->C9 o=true->C2 o'=true->anc i j=true\/pos i<pos j
 s5:∀(i j:Nat) (o o':Oper),ops[i]?=some o->ops[j]?=some o'->ET o=true->R4 o=true->C2 o'=true->pos j<pos i->∃(k:Nat) (ok:Oper),ops[k]?=some ok/\C9 ok=true/\pos j<pos k/\pos k<pos i
 s6:∀(i j:Nat) (o o':Oper) (t:Tmp),ops[i]?=some o->ops[j]?=some o'->i≠j->o.dst=some t->o'.dst≠some t/\(t∈reads ops o'->anc j i=true\/anc i j=true)
structure Canon(C:Ctx)(call:DP)(ops:Array Oper)(anc:Nat->Nat->Bool)(ord pos:Nat->Nat)(fr0:Fr)(h0:H)(v:Nat->V)(Hh:Nat->H)(F:Nat->Fr):Prop where
 h0:Hh 0=h0
 f0:F 0=fr0
 fn:∀q,q<=ops.size->(F q).n=fr0.n
 fget:∀q,q<ops.size->∀(o:Oper),ops[ord q]?=some o->∀t,(F (q+1)).get t=if o.dst=some t then v (ord q)else(F q).get t
 dst:∀(i:Nat) (o:Oper) (t:Tmp),ops[i]?=some o->o.dst=some t->t<fr0.n
 step:∀(i:Nat) (o:Oper),ops[i]?=some o->
  (Bi (F (pos i)) ops o=false/\v i=.tup []/\Hh (pos i+1)=Hh (pos i))\/
  (Bi (F (pos i)) ops o=true/\
   ((ET o=true/\Hu C (F (pos i)) (Hh (pos i)) o=some (.val (v i) (Hh (pos i)))/\Hh (pos i+1)=Hh (pos i))\/
    (C2 o=true/\∃ob f,wR C (F (pos i)) o=some (ob,f)/\v i=f (Hh (pos i)).nx/\Hh (pos i+1)=(Hh (pos i)).push ob)\/
    (C9 o=true/\Em C call (F (pos i)) (Hh (pos i)) o=some (v i,Hh (pos i+1)))))
 stable:∀(i j:Nat) (o oj:Oper),ops[i]?=some o->ops[j]?=some oj->C9 o=true->ET oj=true->R4 oj=true->Bi (F (pos j)) ops oj=true->pos j<pos i->anc i j=false->
  Hu C (F (pos j)) (Hh (pos i+1)) oj=some (.val (v j) (Hh (pos i+1)))
theorem kinds(o:Oper):ET o=true\/C2 o=true\/C9 o=true:=by
 grind [C9]
theorem Kg{o:Oper}(h:ET o=true):C2 o=false:=by
 grind [ET,C2]
theorem UE{o:Oper}(h:C9 o=true):ET o=false/\C2 o=false:=by
 grind [C9]
section
variable {C:Ctx}{P:Program}{call:DP}{ops:Array Oper}{anc:Nat->Nat->Bool}{ord pos:Nat->Nat}{sc:Nat->Option Nat}{fr0:Fr}{h0:H}{v:Nat->V}{Hh:Nat->H}{F:Nat->Fr}
theorem Fw(st:Stat ops anc ord pos sc)(i:Canon C call ops anc ord pos fr0 h0 v Hh F){k:Nat}{o:Oper}{t:Tmp}(f:ops[k]?=some o)(j:o.dst=some t):
  ∀q,q<=ops.size->pos k<q->(F q).get t=v k
 |0,_,h=>by omega
 |q+1,l,h=>by
  have b:q<ops.size:=ae
  obtain⟨g,r⟩:=st.ordp q b;rw[i.fget q b (ops[ord q]) (by simp[g]) t];have d:=(zc.1 f).1;by_cases e:pos k=q
  ·have n:ord q=k:=by rw[<-e];exact(st.posp k d).2
   grind
  ·have c:ord q≠k:=ah;have:=(st.s6 k (ord q) o (ops[ord q]) t f (by simp[g]) (Ne.symm c) j).1;rw[wc this];exact Fw st i f j q ae ae
theorem Fz(st:Stat ops anc ord pos sc)(c:Canon C call ops anc ord pos fr0 h0 v Hh F){t:Tmp}:
  ∀q,q<=ops.size->(∀k o,ops[k]?=some o->o.dst=some t->¬pos k<q)->(F q).get t=fr0.get t
 |0,_,_=>by rw[c.f0]
 |q+1,e,h=>by
  have b:q<ops.size:=ae
  obtain⟨d,f⟩:=st.ordp q b;rw[c.fget q b (ops[ord q]) (by simp[d]) t,wc]
  ·exact Fz st c q ae ah
  grind
theorem Afb(st:Stat ops anc ord pos sc)(d:Canon C call ops anc ord pos fr0 h0 v Hh F){i k:Nat}(h:sc i=some k):v i=v k:=by
 obtain⟨o,ok,t,c,g,s,j,n,e,l⟩:=st.q1 i k h;have b:=(zc.1 c).1;have q:=Fw st d g e (pos i) (Nat.le_of_lt (st.posp i b).1)<|st.apos i k l;have r:Bi (F<|pos i) ops o=true:=by unfold Bi;rw[j]
 have f:ET o=true:=by grind [ET]
 rcases d.step i o c with⟨u,_⟩|⟨_,⟨_,u,_⟩|⟨u,_⟩|⟨u,_⟩⟩
 ·grind
 ·grind [Dg,Hp,ev,BS]
 ·grind [Kg]
 grind [UE]
structure Inv(C:Ctx)(ops:Array Oper)(pos:Nat->Nat)(sc:Nat->Option Nat)(fr0:Fr)(v:Nat->V)(Hh:Nat->H)(F:Nat->Fr)(p0:Pl)(h0:H)(w0:World)(df:List Deferred)
  (S:Nat->Prop) (m:Nat) (fl:Nat->Nat) (p:Pl) (a:Act) (w:World):Prop where
 ext:Ext p0 h0 w0 p (Hh m) w
 gl:Gl C p
 mn:m<=ops.size
 mh:∀(k:Nat) (o:Oper),ops[k]?=some o->C9 o=true->(S k↔pos k<m)
 ma:∀(k:Nat) (o:Oper),ops[k]?=some o->C2 o=true->pos k<m->S k
 sz:a.tmps.size=fr0.n
 df:a.defers=df
 slot:∀t,(∀(i:Nat) (o:Oper),S i->ops[i]?=some o->o.dst≠some t)->Ae p (fr0.get t) (a.tmps.getD t undef)
 slotw:∀(i:Nat) (o:Oper) (t:Tmp),S i->ops[i]?=some o->o.dst=some t->((C2 o=true\/(sc i).isSome=true)->Bi (F (pos i)) ops o=true->pos i<m)->Ae p (v i) (a.tmps.getD t undef)
 flt:∀(i:Nat) (o:Oper),S i->ops[i]?=some o->C2 o=true->Bi (F (pos i)) ops o=true->m<=pos i->
  ∃n x ob f v',wR C (F (pos i)) o=some (ob,f)/\w.heap[fl i]?=some x/\w0.heap.size<=fl i/\¬Im p (Hh m) (fl i)/\LM p n ob x/\
   (∀(q:Pl) b,q[b]?=some (fl i,n)->Ae q (f b) v')/\(∀t,o.dst=some t->a.tmps.getD t undef=v')
 inj:∀(i j:Nat) (o o':Oper),S i->S j->ops[i]?=some o->ops[j]?=some o'->C2 o=true->C2 o'=true->Bi (F (pos i)) ops o=true->Bi (F (pos j)) ops o'=true->
  m<=pos i->m<=pos j->fl i=fl j->i=j
structure Nc(ops:Array Oper)(pos:Nat->Nat)(sc:Nat->Option Nat)(S:Nat->Prop)(m:Nat)(a:Act):Prop where
 eq:∀(i k:Nat) (o ok:Oper) (t tk:Tmp),S i->ops[i]?=some o->sc i=some k->ops[k]?=some ok->o.dst=some t->ok.dst=some tk->m<=pos i->a.tmps.getD t undef=a.tmps.getD tk undef/\S k
theorem Inv.adv(st:Stat ops anc ord pos sc)(cn:Canon C call ops anc ord pos fr0 h0 v Hh F){p0:Pl}{w0:World}{df:List Deferred}{S:Nat->Prop}{fl:Nat->Nat}{a:Act}{w:World}:
  ∀(d m:Nat) {p:Pl},Inv C ops pos sc fr0 v Hh F p0 h0 w0 df S m fl p a w->Nc ops pos sc S m a->m+d<=ops.size->
  (∀q,m<=q->q<m+d->∀(o:Oper),ops[ord q]?=some o->C9 o=false/\(C2 o=true->S (ord q)))->
  ∃p',Inv C ops pos sc fr0 v Hh F p0 h0 w0 df S (m+d) fl p' a w
 |0,m,p,g,_,_,_=>⟨p,g⟩
 |d+1,m,p,g,N,hn,hq=>by
  have hm:m<ops.size:=ae
  obtain⟨g1,g2⟩:=st.ordp m hm;obtain⟨O,hj⟩:∃O,ops[ord m]?=some O:=(by simp_all);obtain⟨q1,q2⟩:=hq m ae ae _ hj;have one:∃p',Inv C ops pos sc fr0 v Hh F p0 h0 w0 df S (m+1) fl p' a w:=by
   have K:∀(k:Nat) (o:Oper),ops[k]?=some o->C9 o=true->(S k↔pos k<m+1):=by
    intro k o u hv;rw[g.mh k o u hv];constructor
    ·omega
    ·intro h;by_cases e:pos k=m
     ·have y:=(zc.1 u).1;have J:ord m=k:=by rw[<-e];exact(st.posp k y).2
      grind
     ·omega
   have L:∀(k:Nat) (o:Oper),ops[k]?=some o->C2 o=true->pos k<m+1->S k:=by
    intro k o u M hlt;by_cases e:pos k=m
    ·have y:=(zc.1 u).1;have J:ord m=k:=by rw[<-e];exact(st.posp k y).2
     grind
    ·exact g.ma k o u M ae
   have same:Hh (m+1)=Hh m->(C2 O=true->Bi (F<|pos<|ord m) ops O=false)->(Bi (F<|pos<|ord m) ops O=false->v (ord m)=.tup [])->
     Inv C ops pos sc fr0 v Hh F p0 h0 w0 df S (m+1) fl p a w:=by
    intro hh M _;refine⟨by rw[hh];exact g.ext,g.gl,by omega,K,L,g.sz,g.df,g.slot,fun i o t l c I Y=>?_,fun i o l c s r B=>?_,fun i j o o' l D c G s A r z B R he=>?_⟩
    ·by_cases hcp:(sc i).isSome=true/\pos i=m
     ·obtain⟨k,u⟩:=ye.1 hcp.1;obtain⟨o2,ok,tk,h1,h2,h3,h4,h5,h6,h7⟩:=st.q1 i k u;obtain⟨e1,J⟩:=N.eq i k o ok t tk l c u h2 I h6 ae;rw[Afb st cn u,e1];have:=st.apos _ _ h7;exact g.slotw k ok tk J h2 h6 ae
     ·refine g.slotw i o t l c I fun s r=>?_
      have h1:=Y s r;by_cases e:pos i=m
      ·have E:=(zc.1 c).1;have J:ord m=i:=by rw[<-e];exact(st.posp i E).2
       grind
      ·omega
    ·obtain⟨n,x,ob,f,v',U,k2,k3,k4,k5⟩:=g.flt i o l c s r ae;exact⟨n,x,ob,f,v',U,k2,k3,by grind,k5⟩
    ·exact g.inj i j o o' l D c G s A r z ae ae he
   rcases cn.step (ord m) _ hj with⟨u1,u2,W⟩|⟨u1,⟨u2,W,u4⟩|⟨u2,ob,f,W,u4,u5⟩|⟨u2,W⟩⟩
   ·grind
   ·grind [Kg]
   ·
    obtain⟨n,x,Q,f',v',U,k2,k3,k4,k5,k6,k7⟩:=g.flt (ord m) _ (q2 u2) hj u2 u1 ae;rw[W]at U;cases U;rw[g2]at u4 u5;have hx:=g.ext.rI k2 k5 k4 k3;rw[<-u5]at hx;have hnew:(p++[(fl<|ord m,n)])[(Hh m).nx]?=some (fl<|ord m,n):=by rw[<-g.ext.rel.len];simp
    refine⟨p++[(fl<|ord m,n)],hx,?_,by omega,K,L,g.sz,g.df,fun t I=>(g.slot t I).mono _,fun i o t l c I Y=>?_,fun i o l c s r B=>?_,fun i j o o' l D c G s A r z B R he=>?_⟩
    ·exact Gp.app g.gl _
    ·by_cases e:i=ord m
     ·grind
     ·refine(g.slotw i o t l c I fun s r=>?_).mono _;have h1:=Y s r;have E:=(zc.1 c).1;have:pos i≠m:=fun J=>e (by rw[<-J];exact(st.posp i E).2.symm)
      omega
    ·obtain⟨n',x',Q,f',Z,l1,l2,l3,l4,l5,l6,l7⟩:=g.flt i o l c s r ae;refine⟨n',x',Q,f',Z,l1,l2,l3,?_,l5.mono _,l6,l7⟩;rintro⟨b,ob2,n2,X,m2⟩;rw[u5,H.CW]at X;by_cases e:b=(Hh m).nx
     ·have:fl (ord m)=fl i:=ah;have:=g.inj (ord m) i _ o (q2 u2) l hj c u2 s u1 r ae ae this;grind
     ·rw[wc e]at X;have hb:=g.ext.rel.lt X;rw[List.getElem?_append_left ah]at m2;exact l4 ⟨b,ob2,n2,X,m2⟩
    ·exact g.inj i j o o' l D c G s A r z ae ae he
   grind
  obtain⟨p',c⟩:=one;obtain⟨p'',hi''⟩:=Inv.adv st cn d (m+1) c ⟨fun i k o ok t tk g1 g2 g3 g4 g5 g6 g7=>N.eq i k o ok t tk g1 g2 g3 g4 g5 g6 ae⟩ ae ah;grind
end
section
variable {C:Ctx}{P:Program}{call:DP}{ops:Array Oper}{anc:Nat->Nat->Bool}{ord pos:Nat->Nat}{sc:Nat->Option Nat}{fr0:Fr}{h0:H}{v:Nat->V}{Hh:Nat->H}{F:Nat->Fr}
 {p0:Pl} {w0:World} {df:List Deferred} {S:Nat->Prop} {m:Nat} {fl:Nat->Nat} {p:Pl} {a:Act} {w:World}
structure SA(anc:Nat->Nat->Bool)(S:Nat->Prop)(i:Nat):Prop where
 fresh:¬S i
 all:∀k,anc i k=true->S k
def Down(anc:Nat->Nat->Bool)(S:Nat->Prop):Prop:=∀i k,S i->anc i k=true->S k
theorem operands(st:Stat ops anc ord pos sc)(l:Canon C call ops anc ord pos fr0 h0 v Hh F)(q:Inv C ops pos sc fr0 v Hh F p0 h0 w0 df S m fl p a w)(z:Down anc S){i:Nat}{o:Oper}(u:ops[i]?=some o)(hr:SA anc S i)
  (D:∀(k:Nat) (ok:Oper) (t:Tmp),ops[k]?=some ok->(C2 ok=true\/(sc k).isSome=true)->ok.dst=some t->t∈reads ops o->anc i k=true->pos k<m):FOn p (F<|pos i) a (reads ops o):=by
 have s:=(zc.1 u).1;have E:=(st.posp i s).1;refine⟨by rw[l.fn _ ae,q.sz],fun t A=>?_⟩;by_cases B:∃(k:Nat) (ok:Oper),k≠i/\ops[k]?=some ok/\ok.dst=some t
 ·obtain⟨k,ok,r,n,c⟩:=B;rcases(st.s6 k i ok o t n u r c).2 A with h1|h1
  ·have g:=hr.all k h1;rw[Fw st l n c (pos i) ae<|st.apos i k h1];exact q.slotw k ok t g n c ah
  ·have g:¬S k:=fun h=>hr.fresh<|z k i h h1
   have d:∀(j:Nat) (oj:Oper),ops[j]?=some oj->oj.dst=some t->j=k:=by
    intro j oj f b;by_cases e:j=k
    ·exact e
    ·exact wh b (st.s6 k j ok oj t n f ae c).1
   rw[Fz st l (pos i) ae fun j oj f b y=>by
    have:=d j oj f b;subst this;have:=st.apos _ _ h1;omega]
   refine q.slot t fun j oj x f b=>?_
   grind
 ·have d:∀(j:Nat) (oj:Oper),ops[j]?=some oj->oj.dst=some t->j=i:=by
   grind
  rw[Fz st l (pos i) ae ah];refine q.slot t fun j oj x f b=>?_
  have:=d j oj f b;subst this;exact hr.fresh x
def Rest(ops:Array Oper)(pos:Nat->Nat)(S:Nat->Prop)(m:Nat):Prop:=m=0\/∃(k:Nat) (o:Oper),ops[k]?=some o/\C9 o=true/\S k/\m=pos k+1
theorem QL(st:Stat ops anc ord pos sc)(s:Down anc S)(t:Inv C ops pos sc fr0 v Hh F p0 h0 w0 df S m fl p a w)(b:Rest ops pos S m){k:Nat}{o:Oper}(l:ops[k]?=some o)(hr:¬S k):
  m<=pos k\/∃(i:Nat) (oi:Oper),ops[i]?=some oi/\C9 oi=true/\S i/\m=pos i+1/\pos k<pos i/\anc i k=false:=by
 by_cases j:m<=pos k
 ·omega
 ·right;rcases b with rfl|⟨i,oi,g,n,r,q⟩
  ·omega
  ·refine⟨i,oi,g,n,r,q,?_,?_⟩
   ·have c:k≠i:=ah;have f:=(zc.1 l).1;have d:=(zc.1 g).1;have:pos k≠pos i:=fun e=>c (by rw[<-(st.posp k f).2,e,(st.posp i d).2])
    omega
   grind [Down]
theorem Qm(st:Stat ops anc ord pos sc)(l:Inv C ops pos sc fr0 v Hh F p0 h0 w0 df S m fl p a w){i:Nat}{o:Oper}(g:ops[i]?=some o)(hr:SA anc S i)(j:C2 o=false){k:Nat}{ok:Oper}(f:ops[k]?=some ok)
  (e:C9 ok=true) (n:m<=pos k) (q:pos k<pos i):False:=by
 have c:¬S k:=fun h=>by have:=(l.mh k ok f e).1 h;omega
 have d:k≠i:=ah;rcases kinds o with h|h|h
 ·rcases st.s2 k i ok o f g e h with b|b
  ·exact c<|hr.all k b
  ·omega
 ·grind
 ·rcases st.s1 k i ok o f g e h d with b|b
  ·have:=st.apos _ _ b;omega
  ·exact c<|hr.all k b
theorem YA(st:Stat ops anc ord pos sc)(n:Canon C call ops anc ord pos fr0 h0 v Hh F)(x:Down anc S)(E:Inv C ops pos sc fr0 v Hh F p0 h0 w0 df S m fl p a w)(b:Rest ops pos S m){i:Nat}{o:Oper}(e:ops[i]?=some o)
  (hr:SA anc S i) (l:ET o=true) (g:Bi (F<|pos i) ops o=true) (q:Hu C (F<|pos i) (Hh<|pos i) o=some (.val (v i)<|Hh<|pos i)):Hu C (F<|pos i) (Hh m) o=some (.val (v i)<|Hh m):=by
 have r:=Kg l;cases c:R4 o with
 |false=>grind [oO]
 |true=>
  rcases QL st x E b e hr.fresh with y|⟨k,ok,t,B,Q,D,z,A⟩
  ·have j:=(zc.1 e).1;have G:=(st.posp i j).1;have key:∀d,m+d<=pos i->Hh (m+d)=Hh m:=by
    intro d;induction d with
    |zero=>simp
    |succ d I=>
     intro s;obtain⟨N,O⟩:=st.ordp (m+d) ae;obtain⟨f,hq⟩:∃f,ops[ord<|m+d]?=some f:=ah;rcases n.step _ f hq with⟨_,_,u⟩|⟨_,⟨_,_,u⟩|⟨u1,_⟩|⟨u1,_⟩⟩
     ·grind
     ·grind
     ·obtain⟨k,ok,L,M,K,J⟩:=st.s5 i _ o f e hq l c u1 ae;grind [Qm]
     grind [Qm]
   have:=key (pos i-m) ae;grind
  ·rw[D];exact n.stable k i ok o t e B l c g z A
theorem DG{a:Act}{d:Option Tmp}{x:Value}{t:Tmp}(h:d≠some t):(a.put d x).tmps.getD t undef=a.tmps.getD t undef:=by
 cases d with
 |none=>rfl
 |some s=>
  simp_all [yo]
theorem Gf{a:Act}{x:Value}{t:Tmp}(h:t<a.tmps.size):(a.put (some t) x).tmps.getD t undef=x:=by
 simp[yo,h]
theorem P9{a:Act}{d:Option Tmp}{x:Value}:(a.put d x).tmps.size=a.tmps.size:=by cases d<;>simp[yo]
theorem PG{a:Act}{d:Option Tmp}{x:Value}:(a.put d x).defers=a.defers:=by cases d<;>rfl
theorem Nc.put(st:Stat ops anc ord pos sc){S:Nat->Prop}{m n:Nat}{a:Act}(D:Nc ops pos sc S m a){i:Nat}{o:Oper}(g:ops[i]?=some o)(b:¬S i)(hr:SA anc S i){x:Value}(L:m<=n)
  (u:∀(k:Nat) (ok:Oper) (t tk:Tmp),sc i=some k->ops[k]?=some ok->o.dst=some t->ok.dst=some tk->n<=pos i->(a.put o.dst x).tmps.getD t undef=a.tmps.getD tk undef):
  Nc ops pos sc (fun k=>S k\/k=i) n (a.put o.dst x):=by
 refine⟨fun j k oj ok t tk A f q c s d y=>?_⟩;obtain⟨o1,O,t2,q1,J,G,K,R,M,z⟩:=st.q1 j k q;by_cases e:j=i
 ·subst e;rw[g]at f;cases f;have B:S k:=hr.all k z;refine⟨?_,.inl B⟩;rw[u k ok t tk q c s d y];have l:k≠j:=ah;have:o.dst≠some tk:=(st.s6 k j ok o tk c g l d).1;rw[DG this]
 ·have E:=A.resolve_right e;obtain⟨U,I⟩:=D.eq j k oj ok t tk E f q c s d ae;have r:k≠i:=ah;have Q:o.dst≠some t:=(st.s6 j i oj o t f g e s).1;have N:o.dst≠some tk:=(st.s6 k i ok o tk c g r d).1;grind [DG]
theorem Inv.quiet(st:Stat ops anc ord pos sc)(M:Canon C call ops anc ord pos fr0 h0 v Hh F)(c:Inv C ops pos sc fr0 v Hh F p0 h0 w0 df S m fl p a w){i:Nat}{o:Oper}(E:ops[i]?=some o)(q:¬S i)(G:C9 o=false)
  (N:C2 o=true->Bi (F<|pos i) ops o=false) {x:Value} (hx:((sc i).isSome=true->Bi (F<|pos i) ops o=true->pos i<m)->Ae p (v i) x):Inv C ops pos sc fr0 v Hh F p0 h0 w0 df (fun k=>S k\/k=i) m fl p (a.put o.dst x) w:=by
 have I:∀(k:Nat) (ok:Oper) (t:Tmp),k≠i->ops[k]?=some ok->ok.dst=some t->o.dst≠some t:=fun k ok t r b g=>(st.s6 k i ok o t b E r g).1
 refine⟨c.ext,c.gl,c.mn,fun k ok b W=>?_,fun k ok b s z=>.inl<|c.ma k ok b s z,by rw[P9,c.sz],by rw[PG,c.df],fun t g=>?_,fun k ok t J b g Q=>?_,fun k ok J b D B d=>?_,
  fun k j ok oj J Z b hj D A B u d l K=>?_⟩
 ·rw[<-c.mh k ok b W];grind
 ·have L:o.dst≠some t:=ah;rw[DG L];exact c.slot t ah
 ·by_cases e:k=i
  ·subst e;rw[E]at b;cases b;rw[g,Gf<|by rw[c.sz];exact M.dst k o t E g];grind
  ·rw[DG ah];exact c.slotw k ok t ah b g Q
 ·obtain⟨n,y,ob,f,v',X,Y,U,O,k5,R,k7⟩:=c.flt k ok ah b D B d;exact⟨n,y,ob,f,v',X,Y,U,O,k5,R,(by grind [DG])⟩
 ·exact c.inj k j ok oj ah ah b hj D A B u d l K
theorem Inv.made(st:Stat ops anc ord pos sc)(c:Inv C ops pos sc fr0 v Hh F p0 h0 w0 df S m fl p a w){i:Nat}{o:Oper}(L:ops[i]?=some o)(s:C2 o=true)(hwd:Bi (F<|pos i) ops o=true)(g:m<=pos i)
  (Z:Canon C call ops anc ord pos fr0 h0 v Hh F) {ob:O} {f:Nat->V} (z:wR C (F<|pos i) o=some (ob,f)) {x:Obj} {n:Nat} {v':Value} (hx:LM p n ob x) (R:∀(q:Pl) b,q[b]?=some (w.heap.size,n)->Ae q (f b) v'):
  Inv C ops pos sc fr0 v Hh F p0 h0 w0 df (fun k=>S k\/k=i) m (fun k=>if k=i then w.heap.size else fl k) p (a.put o.dst v') { w with heap:=w.heap.push x }:=by
 have Q:∀(k:Nat) (ok:Oper) (t:Tmp),k≠i->ops[k]?=some ok->ok.dst=some t->o.dst≠some t:=fun k ok t E d r=>(st.s6 k i ok o t d L E r).1
 have N:C9 o=false:=by simp[C9,s]
 refine⟨c.ext.aside x,c.gl,c.mn,fun k ok d R=>?_,fun k ok d s J=>.inl<|c.ma k ok d s J,by rw[P9,c.sz],by rw[PG,c.df],fun t r=>?_,fun k ok t U d r hc=>?_,fun k ok U d D B g=>?_,
  fun k j ok oj U hS' d X D A B u g l M=>?_⟩
 ·rw[<-c.mh k ok d R];grind
 ·have Y:o.dst≠some t:=ah;rw[DG Y];exact c.slot t ah
 ·by_cases e:k=i
  ·grind
  ·rw[DG ah];exact c.slotw k ok t ah d r hc
 ·by_cases e:k=i
  ·subst e;rw[L]at d;cases d;refine⟨n,x,ob,f,v',z,by simp,by simpa using c.ext.size,fun G=>?_,hx,by grind,fun t r=>?_⟩
   ·have:=c.ext.rel.aB G;grind
   ·rw[r,Gf<|by rw[c.sz];exact Z.dst k o t L r]
  ·obtain⟨n',y,K,f',I,k1,W,k3,k4,k5,k6,k7⟩:=c.flt k ok ah d D B g;refine⟨n',y,K,f',I,k1,?_,by grind,by grind,k5,by grind,(by grind [DG])⟩;grind
 ·by_cases e:k=i<;>by_cases e':j=i
  ·omega
  ·obtain⟨_,_,_,_,_,_,W,_⟩:=c.flt j oj ah X A u l;grind
  ·obtain⟨_,_,_,_,_,_,W,_⟩:=c.flt k ok ah d D B g;grind
  ·simp only[e,vg,e']at M;exact c.inj k j ok oj ah ah d X D A B u g l M
theorem Inv.wrote(st:Stat ops anc ord pos sc)(W:Canon C call ops anc ord pos fr0 h0 v Hh F){i:Nat}{o:Oper}(c:Inv C ops pos sc fr0 v Hh F p0 h0 w0 df S (pos i) fl p a w)(u:ops[i]?=some o)(_:C9 o=true)(s:¬S i)
  {p':Pl} {w':World} {x:Value} (d:Ext p (Hh<|pos i) w p' (Hh<|pos i+1) w') (hx:Ae p' (v i) x):
  Inv C ops pos sc fr0 v Hh F p0 h0 w0 df (fun k=>S k\/k=i) (pos i+1) fl p' (a.put o.dst x) w':=by
 have O:∀(k:Nat) (ok:Oper) (t:Tmp),k≠i->ops[k]?=some ok->ok.dst=some t->o.dst≠some t:=fun k ok t z b g=>(st.s6 k i ok o t b u z g).1
 have r:=(zc.1 u).1;have Z:∀ {k:Nat} {ok:Oper},ops[k]?=some ok->pos k=pos i->k=i:=fun {k ok} b e=>by
  have D:=(zc.1 b).1;rw[<-(st.posp k D).2,e,(st.posp i r).2]
 refine⟨c.ext.trans d,c.gl.ext d,(st.posp i r).1,fun k ok b Q=>?_,fun k ok b E l=>?_,by rw[P9,c.sz],by rw[PG,c.df],fun t g=>?_,fun k ok t R b g hc=>?_,fun k ok R b L K A=>?_,
  fun k j ok oj R hS' b hj L I K G A N J=>?_⟩
 ·constructor
  ·rintro(h|rfl)
   ·have:=(c.mh k ok b Q).1 h;omega
   ·omega
  ·intro h;by_cases e:pos k=pos i
   ·grind
   ·exact .inl ((c.mh k ok b Q).2 ae)
 ·by_cases e:pos k=pos i
  ·grind
  ·exact .inl (c.ma k ok b E ae)
 ·have M:o.dst≠some t:=ah;rw[DG M];exact d.jS (c.slot t ah)
 ·by_cases e:k=i
  ·subst e;rw[u]at b;cases b;rw[g,Gf<|by rw[c.sz];exact W.dst k o t u g];exact hx
  ·rw[DG ah];refine d.jS (c.slotw k ok t ah b g fun M h2=>?_);grind
 ·obtain⟨n,y,ob,f,v',k1,U,k3,X,k5,Y,k7⟩:=c.flt k ok ah b L K ae;have l:=(zc.1 U).1;obtain⟨q,rfl⟩:=d.pre;refine⟨n,y,ob,f,v',k1,by rw[d.same _ l X];exact U,k3,fun B=>?_,k5.mono _,Y,(by grind [DG])⟩;rcases d.im _ B with h|h
  ·grind
  ·omega
 ·exact c.inj k j ok oj ah ah b hj L I K G ae ae J
theorem Inv.along(b:Inv C ops pos sc fr0 v Hh F p0 h0 w0 df S m fl p a w){p':Pl}{w':World}(c:Ext p (Hh m) w p' (Hh m) w'):Inv C ops pos sc fr0 v Hh F p0 h0 w0 df S m fl p' a w':=by
 refine⟨b.ext.trans c,b.gl.ext c,b.mn,b.mh,b.ma,b.sz,b.df,fun t r=>c.jS<|b.slot t r,fun i o t l G L I=>c.jS<|b.slotw i o t l G L I,fun k ok K B D x e=>?_,b.inj⟩;obtain⟨n,y,ob,f,v',u,j,J,s,E,A,z⟩:=b.flt k ok K B D x e;have d:=(zc.1 j).1;obtain⟨q,rfl⟩:=c.pre;refine⟨n,y,ob,f,v',u,by rw[c.same _ d s];exact j,J,fun g=>?_,E.mono _,A,z⟩;rcases c.im _ g with h|h
 ·grind
 ·omega
theorem mZ{o:Oper}(h:C2 o=true):∀c,o.op≠ .defer c:=by
 grind [C2]
theorem up(Y:C.Ok P)(U:call.Ok C P)(st:Stat ops anc ord pos sc)(B:Canon C call ops anc ord pos fr0 h0 v Hh F)(G:Inv C ops pos sc fr0 v Hh F p0 h0 w0 df S m fl p a w)(M:Nc ops pos sc S m a)(hd:Down anc S)(I:Rest ops pos S m)
  {i:Nat} {o:Oper} (d:ops[i]?=some o) (hr:SA anc S i) {Q:Exit->Act->World->Prop} {K:Act->World->Prop}
  (N:∀m' fl' p' a' w',Inv C ops pos sc fr0 v Hh F p0 h0 w0 df (fun k=>S k\/k=i) m' fl' p' a' w'->Nc ops pos sc (fun k=>S k\/k=i) m' a'->Rest ops pos (fun k=>S k\/k=i) m'->K a' w') {ro:Option Nat} {nn:Nat}:wpOpIn (FW ro) nn P ops Q i K a w:=by
 have hin:=(zc.1 d).1;have D:∀cs b,o.op≠ .select cs b:=fun cs b=>Region.noSelect_spec st.sel i o cs b d
 have g:Rest ops pos (fun k=>S k\/k=i) m:=by
  grind [Rest]
 unfold wpOpIn;simp only[d];cases r:C9 o with
 |false=>
  by_cases hcp:(sc i).isSome=true/\m<=pos i
  ·
   obtain⟨k,hk⟩:=ye.1 hcp.1;obtain⟨o2,ok,t,q1,q2,q3,q4,q5,q6,q7⟩:=st.q1 i k hk;rw[d]at q1;cases q1;have hw:zy o (yielded ops a.tmps)=true:=by grind [zy]
   simp only[hw,wm];refine⟨fun _ _=>trivial,?_⟩;have hrun:(execOp a.eval o).run P w=.ok (.value<|a.tmps.getD t undef) w:=by
    unfold execOp;rcases q3 with q3|q3<;>simp[q3,Act.eval]
   rw[zl _ _ _ ah,hrun,zr];have Z:C2 o=false:=by grind [C2]
   refine N m fl p _ w (G.quiet st B d hr.fresh r ah<|by grind [Bi]) (M.put st d hr.fresh hr ae fun k' ok' t' tk h1 h2 X h4 _=>?_) g;rw[hk]at h1;cases h1;rw[q2]at h2;cases h2;rw[q6]at h4;cases h4;rw[X,Gf<|by rw[G.sz];exact B.dst i o t' d X]
  have hcp':∀k,sc i=some k->pos i<m:=ah;have hfl:∀(k:Nat) (ok:Oper) (t:Tmp),ops[k]?=some ok->(C2 ok=true\/(sc k).isSome=true)->ok.dst=some t->t∈reads ops o->anc i k=true->pos k<m:=by
   intro k ok t hk L hkt ht E;rcases st.s3 k i ok o t hk d L r hkt ht E with h|⟨j,oj,j1,j2,j3,j4⟩
   ·have:=hcp' k h;have:=st.apos _ _ E;omega
   ·have:=(G.mh j oj j1 j2).1<|hr.all j j4;have:=st.apos _ _ j3;omega
  have A:∀x,Nc ops pos sc (fun k=>S k\/k=i) m (a.put o.dst x):=fun x=>M.put st d hr.fresh hr ae ah
  have y:=operands st B G hd d hr hfl;rw[SP y];rcases B.step i o d with⟨u1,u2,s⟩|⟨u1,u⟩
  ·simp only[u1,zz,vg];refine⟨fun _ _=>trivial,?_⟩;exact N m fl p _ w (G.quiet st B d hr.fresh r (fun _=>u1)<|by simp_all [Ae,undef]) (A _) g
  ·simp only[u1,wm];refine⟨fun _ _=>trivial,?_⟩;rcases u with⟨u2,s,u4⟩|⟨u2,ob,f,s,u4,u5⟩|⟨u2,s⟩
   ·have O:=YA st B hd G I d hr u2 u1 s;obtain⟨v',p',w',J,R,W⟩:=J8 Y G.ext.rel G.gl y D O;rw[zl _ _ _<|H2 O,J,zr];have hi2:=G.along W;exact N m fl p' _ w' (hi2.quiet st B d hr.fresh r (by grind [Kg]) fun _=>R) (A _) g
   ·have hle:m<=pos i:=by
     rcases QL st hd G I d hr.fresh with h|⟨k,ok,h1,h2,X,h4,h5,h6⟩
     ·exact h
     ·rcases st.s4 k i ok o h1 d h2 u2 with h7|h7
      ·grind
      ·omega
    obtain⟨x,n,v',J,R,W⟩:=Adu (P:=P) Y G.gl y s;rw[zl _ _ _<|mZ u2,J,zr];exact N m _ p _ _ (G.made st d u2 u1 hle B s R W) (A _) g
   grind
 |true=>
  obtain⟨hnr,Z⟩:=UE r;have hle:m<=pos i:=by
   rcases yp (pos i) m with h|h
   ·exact wh ((G.mh i o d r).2 h) hr.fresh
   omega
  have hpn:=(st.posp i hin).1;obtain⟨p1,c⟩:=Inv.adv st B (pos i-m) m G M ae (fun q h1 h2 oq hq=>by
   obtain⟨J,R⟩:=st.ordp q ae;refine⟨?_,fun L=>?_⟩
   ·grind [Qm]
   ·rcases st.s4 i (ord q) o oq d hq r L with X|X
    ·exact hr.all _ X
    omega)
  rw[show m+(pos i-m)=pos i from by omega]at c;have y:=operands st B c hd d hr fun k ok t hk L _ _ E=>st.apos _ _ E
  have A:∀x,Nc ops pos sc (fun k=>S k\/k=i) (pos i+1) (a.put o.dst x):=fun x=>M.put st d hr.fresh hr ae ae
  rw[SP y];have l:Rest ops pos (fun k=>S k\/k=i) (pos i+1):=.inr ah;rcases B.step i o d with⟨u1,u2,s⟩|⟨u1,u⟩
  ·simp only[u1,zz,vg];refine⟨fun _ _=>trivial,?_⟩;have he:Ext p1 (Hh<|pos i) w p1 (Hh<|pos i+1) w:=by rw[s];exact zq c.ext.rel
   exact N _ _ _ _ _ (c.wrote st B d r hr.fresh he<|by simp_all [Ae,undef]) (A _) l
  ·simp only[u1,wm];refine⟨fun _ _=>trivial,?_⟩;rcases u with⟨u2,s,u4⟩|⟨u2,ob,f,s,u4,u5⟩|⟨u2,s⟩
   ·grind
   ·grind
   ·unfold Em at s;split at s
    case h_4=>cases s
    case h_1=>
     rename_i vv hh z;obtain⟨rfl,rfl⟩:=s;obtain⟨v',p',w',J,R,W⟩:=J8 Y c.ext.rel c.gl y D z;rw[zl _ _ _<|H2 z,J,zr];exact N _ _ _ _ _ (c.wrote st B d r hr.fresh W R) (A _) l
    case h_2=>
     rename_i hh z;simp only[zg,yk]at s;obtain⟨u4,rfl⟩:=s;obtain⟨p',w',J,W⟩:=J8 Y c.ext.rel c.gl y D z;rw[zl _ _ _<|H2 z,J,Oper.uponIn_skip];exact N _ _ _ _ _ (c.wrote st B d r hr.fresh W<|by rw[<-u4];simp[Ae,undef]) (A _) l
    case h_3=>
     rename_i f args z;obtain⟨args',J,R⟩:=J8 Y c.ext.rel c.gl y D z;rw[zl _ _ _<|H2 z,J,Oper.uponIn_enter];split at s
     case h_2=>cases s
     rename_i x1 x2 hcl;cases s;refine⟨(by grind [FW,ya]),ZJ.2<|(U.fn f args _ _ hcl p1 w args' c.ext.rel c.gl R).mono ?_⟩;rintro e w' ⟨v',h',x',p',hm,rfl,k1,k2⟩;rw[zn]at hm;cases hm;exact N _ _ _ _ _ (c.wrote st B d r hr.fresh k2 k1) (A _) l
theorem Inv.congr{b:Nat->Prop}(h:∀k,S k↔b k)(c:Inv C ops pos sc fr0 v Hh F p0 h0 w0 df S m fl p a w):Inv C ops pos sc fr0 v Hh F p0 h0 w0 df b m fl p a w:=by
 have e:S=b:=ah;grind
theorem Nc.congr{b:Nat->Prop}(h:∀k,S k↔b k)(c:Nc ops pos sc S m a):Nc ops pos sc b m a:=by
 have e:S=b:=ah;grind
def Ls(l:Array Bool)(k:Nat):Prop:=l.getD k false=true
theorem VY{l:Array Bool}(n:Nat)(c:l.size=n){i:Nat}(f:i<n)(b:l.getD i true=false):
  ((z6 n).filter fun k=> !(l.setIfInBounds i true).getD k true).length<((z6 n).filter fun k=> !l.getD k true).length:=by
 have sub:∀k,(!(l.setIfInBounds i true).getD k true)=true->(!l.getD k true)=true:=by
  intro k g;by_cases e:i=k
  ·grind
  simp_all
 have key:∀(L:List Nat),(L.filter fun k=> !(l.setIfInBounds i true).getD k true).length<=(L.filter fun k=> !l.getD k true).length/\(i∈L->(L.filter fun k=> !(l.setIfInBounds i true).getD k true).length<(L.filter fun k=> !l.getD k true).length):=by
  intro L;induction L with
  |nil=>simp
  |cons x L d=>
   simp only[List.filter_cons];constructor
   ·grind
   ·by_cases e:i=x
    ·subst e;rw[wc (by simp),wd<|by simp[b]];grind
    grind
 grind
theorem qF(Y:C.Ok P)(u:call.Ok C P)(st:Stat ops anc ord pos sc)(A:Canon C call ops anc ord pos fr0 h0 v Hh F){Q:Exit->Act->World->Prop}
  (hQ:∀p' I w',CN p' (F ops.size) I->Ext p0 h0 w0 p' (Hh ops.size) w'->I.defers=df->Q .normal I w') {ro:Option Nat} {nn:Nat}:
  ∀(c:Nat) (l:Array Bool),l.size=ops.size->((z6 ops.size).filter fun k=> !l.getD k true).length<=c->∀ {m:Nat} {fl:Nat->Nat} {p:Pl} {a:Act} {w:World},
   Inv C ops pos sc fr0 v Hh F p0 h0 w0 df (Ls l) m fl p a w->Nc ops pos sc (Ls l) m a->Down anc (Ls l)->Rest ops pos (Ls l) m->wpAnyIn (FW ro) nn P .any ops Q c l a w:=by
 have fin:∀(l:Array Bool),l.size=ops.size->yg .any ops l=[]->∀ {m:Nat} {fl:Nat->Nat} {p:Pl} {a:Act} {w:World},
   Inv C ops pos sc fr0 v Hh F p0 h0 w0 df (Ls l) m fl p a w->Nc ops pos sc (Ls l) m a->Q .normal a w:=by
  intro l U D m fl p a w x n;have all:∀q,q<=ops.size->∀k,k<ops.size->pos k<q->Ls l k:=by
   intro q;induction q with
   |zero=>omega
   |succ q L=>
    intro hq k f hlt;by_cases e:pos k=q
    ·apply Classical.byContradiction;intro Z;have R:k∈yg .any ops l:=by
      rw[mem_ready];refine⟨?_,ops[k],by simp[f],fun W O hb=>?_⟩
      ·grind [Ls]
      ·obtain⟨N,E⟩:=st.dir k _ W (by simp[f]) O hb;have h3:=st.apos _ _ N;exact L ae W.on E ae
     grind
    grind
  have r:∀k,k<ops.size->Ls l k:=fun k f=>all ops.size ae k f (st.posp k f).1
  obtain⟨p',b⟩:=Inv.adv st A (ops.size-m) m x n (by have:=x.mn;omega) (fun q N E o ho=>by
   obtain⟨X,g2⟩:=st.ordp q ae;refine⟨?_,ah⟩;cases hv:C9 o with
   |false=>rfl
   |true=>have:=(x.mh _ o ho hv).1<|r _ X;omega)
  rw[show m+(ops.size-m)=ops.size from by have:=x.mn;omega]at b;refine hQ p' a w ⟨by rw[A.fn _ ae,b.sz],fun t=>?_⟩ b.ext b.df;by_cases hw:∃(k:Nat) (ok:Oper),ops[k]?=some ok/\ok.dst=some t
  ·obtain⟨k,ok,f,B⟩:=hw;have s:=(zc.1 f).1;rw[Fw st A f B _ ae (st.posp k s).1];exact b.slotw k ok t (r k s) f B fun _ _=>(st.posp k s).1
  ·rw[Fz st A _ ae ah];exact b.slot t ah
 intro c;induction c with
 |zero=>
  intro l U z m fl p a w x n K g;have D:yg .any ops l=[]:=by
   simp_all [yg,z6]
  exact⟨D,ah⟩
 |succ c L=>
  intro l U z m fl p a w x n K g;refine⟨ah,fun i hm=>?_⟩;obtain⟨N,o,E,h3⟩:=mem_ready.1 hm;have hin:=(zc.1 E).1;have d:SA anc (Ls l) i:=by
   refine⟨fun hs=>?_,fun k f=>?_⟩
   ·grind [Ls]
   ·obtain⟨o',e,X,g2,g3,g4⟩:=st.edge i k f;grind [Ls,Down]
  refine up Y u st A x n K g E d fun m' fl' p' I w' b y G=>?_
  have M:∀k,(Ls l k\/k=i)↔Ls (l.setIfInBounds i true) k:=by
   intro k;unfold Ls;by_cases e:k=i
   ·simp_all
   ·rw[getD_set_ne false ae];simp[e]
  refine L (l.setIfInBounds i true) ah ?_ (b.congr M) (y.congr M) ?_ (by simp_all)
  ·grind [VY]
  ·intro j k J f;rw[<-M]at J ⊢;rcases J with J|rfl
   ·exact .inl<|K j k J f
   ·exact .inl<|d.all k f
theorem rF(g:C.Ok P)(b:call.Ok C P)(o:P.follows .mixedOrders=true)(st:Stat ops anc ord pos sc)(d:Canon C call ops anc ord pos fr0 h0 v Hh F){Q:Exit->Act->World->Prop}(hr:R p h0 w)(n:Gl C p)(f:CN p fr0 a)
  {id:Nat} (q:∀p' c w',CN p' (F ops.size) c->Ext p h0 w p' (Hh ops.size) w'->c.defers=a.defers->Q .normal c w') {ro:Option Nat} {l:Nat}:(Code.region id ops true).wpIn (FW ro) l P Q a w:=by
 refine wpIn_region_any o ?_;have j:=Ext.drew hr<|w.drawn+1;have r:∀k,¬Ls (Array.replicate ops.size false) k:=by
  intro k e;unfold Ls at e;rw[zk]at e;grind
 refine qF (p0:=p) (h0:=h0) (w0:=w) (df:=a.defers) g b st d q ops.size _ (by simp) ah (m:=0) (fl:=fun _=>0) (p:=p)
  ⟨by rw[d.h0];exact j,n,Nat.zero_le _,ah,ae,f.1.symm,rfl,fun t _=>f.2 t,ah,ah,ah⟩
  ⟨ah⟩ (fun i k h=>ah) (.inl rfl)
end
structure OV where
 anc:List Nat
 ord:List Nat
 pos:List Nat
 sc:List (Option Nat)
def AfH(acc:List Nat)(o:Oper):Nat:=
 o.after.toList.foldl (fun s e=>bif yb .any e then s|||(2^e.on|||acc.getD e.on 0)else s) 0
def AcP:List Oper->List Nat->List Nat
 |[],b=>b
 |o::os,b=>AcP os<|b++[AfH b o]
def tb(m i:Nat):Bool:=m.testBit i
def sub(a d:Nat):Bool:=zo (a&&&d) a
def Kt(f:Nat->Oper->Bool):Nat->List Oper->Option Nat
 |_,[]=>none
 |i,o::os=>bif f i o then some i else Kt f (i+1) os
def rD(f:Nat->Oper->Bool):Nat->List Oper->List Nat
 |_,[]=>[]
 |i,o::os=>bif f i o then i::rD f (i+1) os else rD f (i+1) os
def WI(ops:List Oper)(anc:List Nat):Nat->Nat->List Nat->List Nat
 |0,_,out=>out.reverse
 |fuel+1,d,out=>
  match Kt (fun i o=>ET o&& !tb d i&&sub (anc.getD i 0) d) 0 ops with
  |some i=>WI ops anc fuel (d|||2^i) (i::out)
  |none=>
   match Kt (fun i o=>C9 o&& !tb d i) 0 ops with
   |some k=>
    let b:=rD (fun i o=>C2 o&& !tb d i&&tb (anc.getD k 0) i) 0 ops
    bif b.isEmpty then WI ops anc fuel (d|||2^k) (k::out)
    else WI ops anc fuel (b.foldl (fun s i=>s|||2^i) d)<|b.reverse++out
   |none=>
    match Kt (fun i o=>C2 o&& !tb d i) 0 ops with
    |some i=>WI ops anc fuel (d|||2^i) (i::out)
    |none=>out.reverse
def idx(l:List Nat)(i:Nat):Nat:=l.getD i 0
def Agl(ord:List Nat)(n:Nat):List Nat:=(z6 n).map fun i=>ord.idxOf i
def Uv(o:Oper):Option Tmp:=
 match o.guard,o.op with
 |none,.assign (.tmp t)=>some t
 |none,.move (.tmp t)=>some t
 |_,_=>none
def Ajc(ops:List Oper)(anc:List Nat)(i:Nat)(o:Oper):Option Nat:=
 match Uv o with
 |some t=>
  match Kt (fun k x=>C2 x&&(x.dst==some t)&&tb (anc.getD i 0) k) 0 ops with
  |some k=>match Kt (fun h x=>C9 x&&tb (anc.getD h 0) k&&tb (anc.getD i 0) h) 0 ops with
   |none=>some k
   |some _=>none
  |none=>none
 |none=>none
def E7(ops:Array Oper):OV:=
 let anc:=AcP ops.toList []
 let ord:=WI ops.toList anc (3*ops.size+3) 0 []
 ⟨anc,ord,Agl ord ops.size,ops.toList.zipIdx.map fun(o,i)=>Ajc ops.toList anc i o⟩
def OV.s(pl:OV)(i:Nat):Option Nat:=pl.sc.getD i none
def OV.a(pl:OV)(j i:Nat):Bool:=(idx pl.anc j).testBit i
def dL(ops:Array Oper)(f:Nat->Oper->Nat->Oper->Bool):Bool:=
 ops.toList.zipIdx.all fun(o,i)=>ops.toList.zipIdx.all fun(o',j)=>f i o j o'
def IW(ops:Array Oper)(pl:OV):Bool:=
 let n:=ops.size
 let A:=pl.a
 let pos:=idx pl.pos
 let ord:=idx pl.ord
 Region.noSelect ops&&
 ((z6 n).all fun q=>zh (ord q) n&&zo (pos<|ord q) q)&&
 ((z6 n).all fun i=>zh (pos i) n&&zo (ord<|pos i) i)&&
 (pl.anc.length==n)&&(pl.ord.length==n)&&
 (pl.sc.zipIdx.all fun(s,i)=>match s with
  |none=>true
  |some k=>match ops[i]?,ops[k]? with
   |some o,some ok=>match Uv o with
    |some t=>C2 ok&&(ok.dst==some t)&&A i k
    |none=>false
   |_,_=>false)&&
 (ops.toList.zipIdx.all fun(o,j)=>zh (idx pl.anc j) (2^n)&&
  ((z6 n).all fun i=> !A j i||((o.after.toList.any fun e=>yb .any e&&(zo e.on i||A e.on i))&&zh (pos i) (pos j)))&&
  (o.after.toList.all fun e=> !yb .any e||(A j e.on&&zh e.on n)))&&
 (dL ops fun i o j o'=>
  (!(C9 o&&C9 o')||zo i j||A i j||A j i)&&
  (!(C9 o&&ET o')||A j i||zh (pos j) (pos i))&&
  (!((C2 o||(pl.s i).isSome)&& !C9 o')|| !A j i||(match o.dst with|some t=> !((reads ops o').contains t)|none=>true)||(pl.s j==some i)||(ops.toList.zipIdx.any fun(x,k)=>C9 x&&A k i&&A j k))&&
  (!(C9 o&&C2 o')||A i j||zh (pos i) (pos j))&&
  (!(ET o&&R4 o&&C2 o')|| !zh (pos j) (pos i)||(ops.toList.zipIdx.any fun(x,k)=>C9 x&&zh (pos j) (pos k)&&zh (pos k) (pos i)))&&
  (zo i j||(match o.dst with
   |none=>true
   |some t=> !(o'.dst==some t)&&(!((reads ops o').contains t)||A j i||A i j))))
theorem Kb{ops:Array Oper}{i:Nat}{o:Oper}(h:ops[i]?=some o):(o,i)∈ops.toList.zipIdx:=by
 grind
theorem kG{ops:Array Oper}{i:Nat}{o:Oper}(h:(o,i)∈ops.toList.zipIdx):ops[i]?=some o:=by
 grind
theorem XJ{o:Oper}{t:Tmp}(h:Uv o=some t):(o.op=.assign (.tmp t)\/o.op=.move (.tmp t))/\o.guard=none:=by
 grind [Uv]
theorem aM{ops:Array Oper}{pl:OV}(E:IW ops pl=true):Stat ops pl.a (idx pl.ord) (idx pl.pos) pl.s:=by
 unfold IW at E;simp only[ze]at E;obtain⟨⟨⟨⟨⟨⟨⟨h0,K⟩,Z⟩,h3⟩,_⟩,R⟩,y⟩,N⟩:=E;simp only[zj,yj,ze,zt,Bx,w5]at K Z;simp only[zj]at y;have l:∀(i j:Nat) (o o':Oper),ops[i]?=some o->ops[j]?=some o'->_:=fun i j o o' f d=>zj.1 (zj.1 N (o,i)<|Kb f) (o',j)<|Kb d
 simp only[ze,zm,zw,Bx,w5,Hz,w9,Bool.and_eq_false_imp]at l;have g:∀(j i:Nat),pl.a j i=true->j<ops.size/\i<ops.size:=by
  intro j i h;have d:j<ops.size:=by
   rcases yp j ops.size with b|b
   ·exact b
   ·have hl:pl.anc.length=ops.size:=by simpa using h3
    unfold OV.a idx at h;rw[yc,List.getElem?_eq_none ae]at h;simp at h
  refine⟨d,?_⟩;have b:=y (ops[j],j) (Kb<|by simp[d]);simp only[ze,zt]at b;rcases yp i ops.size with c|c
  ·exact c
  ·have u:=b.1.1;have O:idx pl.anc j<2^i:=Nat.lt_of_lt_of_le u (Nat.pow_le_pow_right ae c);unfold OV.a at h;rw[Nat.testBit_lt_two_pow O]at h;cases h
 refine⟨h0,ae,ae,fun j i h=>?_,fun j o e d B M=>?_,fun j i h=>?_,fun i j o o' f d z W D=>?_,fun i j o o' f d z hr=>?_,fun i k h=>?_,fun j k o o' t d Y A z q n h=>?_,fun i j o o' f d z A=>?_,
  fun i j o o' f d hr I A Q=>?_,fun i j o o' t f d D q=>?_⟩
 ·obtain⟨d,f⟩:=g j i h;have b:=y (ops[j],j) (Kb<|by simp[d]);simp only[ze,zj,yj,zm,zw]at b;rcases b.1.2 i f with c|c
  ·rw[h]at c;cases c
  ·obtain⟨e,B,u⟩:=yf.1 c.1;simp only[ze,zm,Bx,w5]at u;exact⟨ops[j],e,by simp[d],by simpa using B,u.1,u.2⟩
 ·have b:=y (o,j)<|Kb d;simp only[ze,zj,zm,zw,zt]at b;rcases b.2 e (by simpa using B)with c|c
  ·rw[M]at c;cases c
  omega
 ·obtain⟨d,f⟩:=g j i h;have b:=y (ops[j],j) (Kb<|by simp[d]);simp only[ze,zj,yj,zm,zw,zt]at b;rcases b.1.2 i f with c|c
  ·rw[h]at c;cases c
  omega
 ·have:=(l i j o o' f d).1.1.1.1.1;simp_all
 ·have:=(l i j o o' f d).1.1.1.1.2;simp_all
 ·have n:(pl.s i,i)∈pl.sc.zipIdx:=by
   rw[List.mem_zipIdx_iff_getElem?];unfold OV.s at h ⊢;rw[yc]at h ⊢;cases U:pl.sc[i]? with
   |none=>rw[U]at h;cases h
   |some x=>rfl
  have b:=zj.1 R _ n;simp only[h]at b;split at b
  case h_2=>cases b
  rename_i o ok ho J;split at b
  case h_2=>cases b
  rename_i t q;simp only[ze,wk]at b;obtain⟨X,g2⟩:=XJ q;exact⟨o,ok,t,ho,J,X,g2,b.1.1,b.1.2,b.2⟩
 ·have b:=(l j k o o' d Y).1.1.1.2;have r:(C2 o||(pl.s j).isSome)=true:=by simpa using A
  rw[z,h,q]at b;have L:(reads ops o').contains t=true:=by simpa using n
  simp only[zm]at r;simp only[L,Bool.not_false,Bool.not_true,zz,or_false,Bool.true_eq_false]at b;rcases b with(b|b)|b
  ·exact wh r ae
  ·exact .inl (by simpa using b)
  ·obtain⟨⟨x,i⟩,G,c⟩:=yf.1 b;simp only[ze]at c;exact .inr ⟨i,x,kG G,c.1.1,c.1.2,c.2⟩
 ·have:=(l i j o o' f d).1.1.2;simp_all
 ·have b:=(l i j o o' f d).1.2;rw[hr,I,A]at b;simp only[and_self,forall_const,Bool.true_eq_false,false_or]at b;rcases b with b|b
  ·omega
  ·obtain⟨⟨x,k⟩,n,c⟩:=yf.1 b;simp only[ze,w5]at c;exact⟨k,x,kG n,c.1.1,c.1.2,c.2⟩
 ·have b:=(l i j o o' f d).2;rcases b with b|b
  ·omega
  ·rw[q]at b;simp only[ze,zw,zm,ve]at b;refine⟨b.1,fun n=>?_⟩;rcases b.2 with(c|c)|c
   ·have:(reads ops o').contains t=true:=by simpa using n
    rw[this]at c;cases c
   ·exact .inl c
   ·exact .inr c
theorem xP{ops:Array Oper}{pl:OV}(b:IW ops pl=true):pl.ord.length=ops.size:=by
 unfold IW at b;grind
end Go.Det
