import Derived.Test.YtobmcolckeoejaaGreatDoorX01
import Derived.Laws.IdiomStrings
import Derived.Lib.UnsafeStr
import Derived.Lib.Builder
import Derived.RangeFuncRecord
import Derived.LoopNIn
import Derived.OrdersIn
import Derived.RangeFuncLeaves
/- A part of a proof; no law is stated here. -/
noncomputable section
open Array renaming getElem?_eq_some_iff -> zc, getD_eq_getD_getElem? -> zk, getElem?_toList -> zu, getElem?_setIfInBounds_ne -> z8
open Go.Result renaming andThen_ok -> zd
open Bool renaming and_eq_true -> ze, or_eq_true -> zm, not_eq_true' -> zw, false_eq_true -> zz
open Go.Sem renaming run_bind -> zf, run_pure -> zp, run -> yd
open Option.some renaming injEq -> zg
open Nat renaming blt -> zh, beq -> zo, blt_eq -> zt, ble -> z7, ble_eq -> yn, lt_or_ge -> yp
open Option renaming map_eq_some_iff -> zi, isSome_iff_exists -> ye
open List renaming all_eq_true -> zj, mem_singleton -> zn, range -> z6, getD_eq_getElem?_getD -> yc, any_eq_true -> yf, mem_range -> yj, mem_cons -> ym
open Go.Oper renaming semAt_eq -> zl, uponIn_value -> zr
open Go.Det.Ext renaming refl -> zq
open Go.Deferred renaming ofValue -> zx
open Go.Region renaming wanted -> zy, binds -> yb, ready -> yg
open Go.Fence renaming wide -> ya
open Go.Question renaming forced -> yh
open Go.Op renaming operands -> yi
open Prod.mk renaming injEq -> yk
open Go.Act renaming put -> yo
namespace Go.Det
section
variable {T:B6}{P:Program}{p:Pl}{h:H}{w:World}
def HR(T:B6)(h:H)(t:TypeId)(x:V):Option (V×H):=
 match T.und t,x with
 |some (.map _ _),.nilm=>some (.ptr h.nx 0,h.push<|.miter none 0 [] 0)
 |some (.map _ _),.map b=>match h.get b with
  |some (.map _ c)=>some (.ptr h.nx 0,h.push<|.miter (some b) c [] c)
  |_=>none
 |_,_=>TX T h t x
theorem YZ(i:T.Ok P)(hr:R p h w){t:TypeId}{x:V}{x':Value}(g:Ae p x x'){v:V}{h':H}(c:HR T h t x=some (v,h')):
  ∃v' p' w',(Instr.range t x').run P w=.ok v' w'/\Ae p' v v'/\Ext p h w p' h' w':=by
 unfold HR at c;split at c
 case h_1=>
  rename_i f;cases c;subst g;have e:=Ext.push (n:=0) hr (o:=.miter none 0 [] 0) (x:=.mapIter none 0 #[] 0) rfl;refine⟨.pointer<|some ⟨w.heap.size,0,none⟩,_,_,?_,?_,e⟩
  ·unfold Instr.range;simp only[zf,AA i f,zd,zp,run_newObj]
  ·exact⟨w.heap.size,0,by rw[<-hr.len];simp,rfl⟩
 case h_2=>
  rename_i b f;split at c
  case h_2=>cases c
  rename_i es d j;cases c;obtain⟨r,n,hp,rfl⟩:=g;obtain⟨r',n',o,h1,h2,l,h3,h4⟩:=hr.obj _ _ j;rw[hp]at h1;cases h1;subst h3;have e:=Ext.push (n:=0) hr (o:=.miter (some b) d [] d) (x:=.mapIter (some r) d #[] d) ⟨r,n,hp,rfl⟩;refine⟨.pointer<|some ⟨w.heap.size,0,none⟩,_,_,?_,?_,e⟩
  ·unfold Instr.range;simp only[zf,AA i f,zd,zp,getObj,yd,h2,run_newObj]
  ·exact⟨w.heap.size,0,by rw[<-hr.len];simp,rfl⟩
 grind [fJ]
def Ua(h:H)(d:V)(c:Bool):Option (List<|V×H):=
 match d,c with
 | .ptr b 0,false=>
  match h.get b with
  |some (.miter none _ _ _)=>some [(.tup [.bool false],h)]
  |some (.miter (some m) since seen last)=>
   match h.get m with
   |some (.map es f)=>
    bif es.all (fun e=>zh e.2.2 since)&&z7 since last then
     match es.filter (fun e=> !seen.contains e.2.2)with
     |[]=>some [(.tup [.bool false],h)]
     |left=>some (left.map fun e=>(.tup [.bool true,e.1,e.2.1],h.put b<|.miter (some m) since (seen++[e.2.2]) f))
    else none
   |_=>none
  |_=>none
 |_,_=>none
theorem DI.get{es:List (V×V×Nat)}{l:List MapEntry}(c:DI p es l):∀ {i:Nat} {e:MapEntry},l[i]?=some e->∃k v,es[i]?=some (k,v,e.born)/\Ae p k e.key/\Ae p v e.val:=by
 induction c with
 |nil=>simp
 |@cons k v b es j l f n g _ d=>
  grind
theorem DI.filter{es:List (V×V×Nat)}{l:List MapEntry}(g:DI p es l)(q:Nat->Bool):DI p (es.filter fun e=>q e.2.2) (l.filter fun e=>q e.born):=by
 induction g with
 |nil=>exact .nil
 |@cons k v b es j l f i d _ c=>
  simp only[List.filter_cons,d];cases q b with
  |false=>exact c
  |true=>exact .cons f i d c
theorem DI.all{es:List (V×V×Nat)}{l:List MapEntry}(c:DI p es l)(q:Nat->Bool):(es.all fun e=>q e.2.2)=l.all fun e=>q e.born:=by
 induction c with
 |nil=>rfl
 |@cons k v b es i l f j g _ d=>grind
theorem DI.find{es:List (V×V×Nat)}{l:List MapEntry}(d:DI p es l)(q:Nat->Bool){e:V×V×Nat}(i:es.find? (fun e=>q e.2.2)=some e):∃c,l.find? (fun e=>q e.born)=some c/\Ae p e.1 c.key/\Ae p e.2.1 c.val:=by
 induction d with
 |nil=>grind
 |@cons k v b es n l g o j _ f=>
  grind
theorem jH(n:Nat)(b:0<n):∃i d,(choose<|.mapNext n).run P w=.ok i { w with drawn:=d }/\i<n/\w.drawn<=d:=by
 rw[run_choose];by_cases c:n<=1
 ·refine⟨0,w.drawn,?_,b,Nat.le_refl _⟩;simp[yh,c]
 ·refine⟨w.tape w.drawn (.mapNext n) % n,w.drawn+1,?_,Nat.mod_lt _ b,Nat.le_succ _⟩;grind [yh,Question.cut]
theorem dN(hr:R p h w){J:V}{z:Value}{g:Bool}{t:TypeId}(M:Ae p J z){l:List (V×H)}(f:Ua h J g=some l):
  ∃v h' v' p' w',(v,h')∈l/\(Instr.next z g t).run P w=.ok v' w'/\Ae p' v v'/\Ext p h w p' h' w':=by
 unfold Ua at f;split at f
 case h_2=>cases f
 rename_i b;simp only[Ae]at M;obtain⟨r,n,hp,rfl⟩:=M;split at f
 case h_3=>cases f
 case h_1=>
  rename_i since seen last D;cases f;obtain⟨W,n',x,j,B,A⟩:=hr.obj _ _ D;rw[hp]at j;cases j;simp only[Li]at A;subst A;refine⟨_,_,.tuple #[.bool false],p,w,zn.2 rfl,?_,by simp[Ae],zq hr⟩;unfold Instr.next;simp only[zf,getObj,yd,B,zd];rfl
 case h_2=>
  rename_i m since seen last D;split at f
  case h_2=>cases f
  rename_i es G Z;cases E:(es.all (fun e=>zh e.2.2 since)&&z7 since last)with
  |false=>grind
  |true=>
   simp only[E,we]at f;simp only[ze,yn]at E;obtain⟨K,c2⟩:=E;obtain⟨W,n',x,j,B,A⟩:=hr.obj _ _ D;rw[hp]at j;cases j;obtain⟨rm,nm,hpm,rfl⟩:=A;obtain⟨r2,n2,x2,k1,k2,l2,k3,k4⟩:=hr.obj _ _ Z;rw[hpm]at k1;cases k1;subst k3;rw[k4.all fun b=>zh b since]at K;have N:∀e∈l2.toList,e.born<since:=by
    intro e he;have:=zj.1 K e he;simp_all
   have X:(!seen.toArray.isEmpty&& !l2.isEmpty&&l2.all (·.born>=last))=false:=by
    cases hl:l2.toList with
    |nil=>
     simp_all
    |cons e0 Q=>
     grind
   have o:(l2.filter fun e=> !seen.toArray.contains e.born).toList=l2.toList.filter fun e=> !seen.contains e.born:=by
    simp
   have c:=k4.filter fun b=> !seen.contains b
   have e1:((l2.filter fun e=> !seen.toArray.contains e.born).filter (·.born<since))=l2.filter fun e=> !seen.toArray.contains e.born:=by
    grind [Array.toList_inj,Array.toList_filter,List.filter_eq_self]
   have Y:((l2.filter fun e=> !seen.toArray.contains e.born).filter (·.born>=since))= #[]:=by
    apply Array.toList_inj.1;grind [List.filter_eq_nil_iff]
   unfold Instr.next;simp only[zf,getObj,yd,B,zd,k2];rw[wc ah];simp only[e1,Y,Array.append_empty];generalize hL:(l2.filter fun e=> !seen.toArray.contains e.born)=L at*;rw[<-o]at c;have I:=c.length;split at f
   case h_1=>
    cases f;have U:L= #[]:=by
     grind
    refine⟨_,_,.tuple #[.bool false],p,w,zn.2 rfl,?_,by simp[Ae],zq hr⟩;simp_all [yh]
   case h_2=>
    have y:0<L.size:=by
     grind
    have q:L.isEmpty=false:=ah
    simp only[q,zz,vf,Array.empty_append,Array.size_map];obtain⟨i,d,g1,O,g4⟩:=jH (P:=P) (w:=w) L.size y;simp only[zf,g1,zd];have hi:L[i]?=some L[i]:=by simp[O]
    obtain⟨k,v,q1,q2,q3⟩:=c.get (i:=i) (e:=L[i]) (by simp[O]);simp only[Array.getElem?_map,hi,Option.map_some,zf];have u:=Ext.drew hr d;have s:=Ext.put u.rel D hp (o':=.miter (some m) since (seen++[L[i].born]) G) (x':=.mapIter (some rm) since (seen.toArray.push L[i].born) G) ⟨rm,nm,hpm,by simp⟩
     (w':=⟨w.heap.setIfInBounds r<|.mapIter (some rm) since (seen.toArray.push L[i].born) G,w.tape,d,w.os,w.output⟩) rfl rfl rfl rfl
    refine⟨.tup [.bool true,k,v],_,.tuple #[.bool true,L[i].key,L[i].val],p,_,ah,?_,?_,u.trans s⟩
    ·simp[setObj,yd,B]
    simp_all [Ae]
def U1(h:H)(c:V):Option V:=
 match c with
 | .ptr b 0=>
  match h.get b with
  |some (.miter (some m) _ seen last)=>
   match h.get m with
   |some (.map es d)=>
    bif zo d last then
     match seen.getLast? with
     |some s=>match es.find? (fun e=>zo e.2.2 s)with
      |some e=>some<|.tup [e.1,e.2.1]
      |none=>none
     |none=>none
    else none
   |_=>none
  |_=>none
 |_=>none
theorem dH(hr:R p h w){i:V}{d:Value}(k:Ae p i d){v:V}(c:U1 h i=some v):∃v',(Instr.entry d).run P w=.ok v' w/\Ae p v v':=by
 unfold U1 at c;split at c
 case h_2=>cases c
 simp only[Ae]at k;split at c
 case h_2=>cases c
 rename_i m since seen last q;split at c
 case h_2=>cases c
 rename_i es j o;rw[Bn]at c;by_cases f:j=last
 ·simp only[f,decide_true,we]at c;split at c
  case h_2=>cases c
  rename_i s t;split at c
  case h_2=>cases c
  rename_i e l;cases c;obtain⟨u,n',x,r,y,n⟩:=hr.obj _ _ q;simp only[Li]at n;obtain⟨r2,n2,x2,k1,k2,l2,k3,k4⟩:=hr.obj _ _ o;obtain⟨e',q1,q2,q3⟩:=k4.find (fun b=>zo b s) l;refine⟨.tuple #[e'.key,e'.val],?_,by simp_all [Ae]⟩;unfold Instr.entry;have g:l2.find? (fun e=>e.born==s)=some e':=by
   rw[<-Array.find?_toList, <-q1];congr 1;funext e
   rw[Bn];rfl
  simp_all [getObj,yd]
 grind
theorem DI.erase{es:List (V×V×Nat)}{l:List MapEntry}(e:DI p es l)(i:Nat):DI p (es.eraseIdx i) (l.eraseIdx i):=by
 induction e generalizing i with
 |nil=>simp;exact .nil
 |@cons k v b es n l d g f j c=>
  cases i with
  |zero=>grind
  |succ i=>simp;exact .cons d g f<|c i
def LY(T:B6)(h:H)(ts:Array TypeId)(args:List V):Option (V×H):=
 match ts[0]?,args with
 |some f,[.map b,k]=>
  match T.und f with
  |some (.map c _)=>
   match T.und c,h.get b with
   |some d,some (.map es e)=>
    bif Js T c d k then
     match KM T c k es with
     |some (some (i,_))=>some (.tup [],h.put b<|.map (es.eraseIdx i) e)
     |some none=>some (.tup [],h.put b<|.map es e)
     |none=>none
    else none
   |_,_=>none
  |_=>none
 |_,_=>none
theorem Yn(q:T.Ok P)(hr:R p h w){ts:Array TypeId}{t:TypeId}{args:List V}{args':Array Value}(E:Aw p args args'.toList){v:V}{h':H}(c:LY T h ts args=some (v,h')):
  ∃v' p' w',(Builtin.delete_ ts t args').run P w=.ok v' w'/\Ae p' v v'/\Ext p h w p' h' w':=by
 unfold LY at c;split at c
 case h_2=>cases c
 rename_i mt b k J;obtain⟨O,D,f,B,s⟩:=E.two;have z:args'[0]?=some O:=by rw[<-zu,f];rfl
 have x:args'[1]?=some D:=by rw[<-zu,f];rfl
 split at c
 case h_2=>cases c
 rename_i I e K;split at c
 case h_2=>cases c
 rename_i d es i g y;cases A:Js T I d k with
 |false=>grind
 |true=>
  simp only[A,we]at c;rcases Ms (es:=es) hr B (by simp only[entries,y])with⟨rfl,_⟩|⟨r,l,M,b',n,Q,rfl,hp,N,U,o⟩
  ·simp[Ae]at B
  ·cases Q;unfold Builtin.delete_;simp only[J,z,x,zf,AA q K,zd,getObj,yd,U,JU q g s A];split at c
   case h_3=>cases c
   case h_1=>
    rename_i j v0 u;cases c;obtain⟨G,L,v1,rfl,Y,X,k4,W⟩:=run_findKey (P:=P) (w:=w) q s g o u;refine⟨.tuple #[],p,{ w with heap:=w.heap.setIfInBounds r (.map (l.eraseIdxIfInBounds j) i) },?_,by simp[Ae],Ext.put hr y hp (o':=.map (es.eraseIdx j) i) ⟨_,rfl,?_⟩ rfl rfl rfl rfl⟩
    ·simp_all [setObj,yd]
    ·have:=o.erase j;simp_all
   case h_2=>
    rename_i u;cases c;obtain⟨G,L,Z⟩:=run_findKey (P:=P) (w:=w) q s g o u;refine⟨.tuple #[],p,{ w with heap:=w.heap.setIfInBounds r (.map l i) },?_,by simp[Ae],Ext.put hr y hp (o':=.map es i) ⟨_,rfl,o⟩ rfl rfl rfl rfl⟩;simp_all [setObj,yd]
def Gm(T:B6)(h:H)(ts:Array TypeId)(args:List V):Option (V×H):=
 match ts[0]?,args with
 |some t,[x]=>
  match T.und t,x with
  |some (.map _ _),.nilm=>some (.tup [],h)
  |some (.map _ _),.map b=>match h.get b with
   |some (.map _ c)=>some (.tup [],h.put b<|.map [] c)
   |_=>none
  |some (.slice _),.nils=>some (.tup [],h)
  |some (.slice _),.esl=>some (.tup [],h)
  |some (.slice _),.es0=>some (.tup [],h)
  |some (.slice e),.sl b off len _ _=>
   bif zo len 0 then some (.tup [],h)
   else match T.inf e with
    |some i=>bif zh 0 i.zero.length then
      (wr h b off<|FA i.zero<|len*i.zero.length).map fun h'=>(.tup [],h')
     else none
    |none=>none
  |_,_=>none
 |_,_=>none
theorem fF(g:T.Ok P)(hr:R p h w){ts:Array TypeId}{t:TypeId}{args:List V}{args':Array Value}(B:Aw p args args'.toList){v:V}{h':H}(d:Gm T h ts args=some (v,h')):
  ∃v' p' w',(Builtin.clear_ ts t args').run P w=.ok v' w'/\Ae p' v v'/\Ext p h w p' h' w':=by
 unfold Gm at d;split at d
 case h_2=>cases d
 rename_i t0 x D;obtain⟨x',j,k⟩:=B.one;have u:args'[0]?=some x':=by rw[<-zu,j];rfl
 unfold Builtin.clear_;simp only[D,u];split at d
 case h_7=>cases d
 case h_1=>
  rename_i f;cases d;subst k;exact⟨.tuple #[],p,w,by simp[AA g f],by simp[Ae],zq hr⟩
 case h_2=>
  rename_i b f;split at d
  case h_2=>cases d
  rename_i es A y;cases d;obtain⟨r,n,hp,rfl⟩:=k;obtain⟨r',n',o,s,h2,l,h3,h4⟩:=hr.obj _ _ y;rw[hp]at s;cases s;subst h3;refine⟨.tuple #[],p,{ w with heap:=w.heap.setIfInBounds r (.map #[] A) },?_,by simp[Ae],Ext.put hr y hp (o':=.map [] A) ⟨_,rfl,.nil⟩ rfl rfl rfl rfl⟩;simp[zf,AA g f,getObj,setObj,yd,h2]
 case h_3=>
  rename_i e f;cases d;subst k;exact⟨.tuple #[],p,w,by simp[AA g f],by simp[Ae],zq hr⟩
 case h_4=>
  rename_i e f;cases d;obtain⟨_,_,rfl⟩:=k;exact⟨.tuple #[],p,w,by simp[AA g f],by simp[Ae],zq hr⟩
 case h_5=>
  rename_i e f;cases d;obtain⟨_,rfl⟩:=k;exact⟨.tuple #[],p,w,by simp[AA g f],by simp[Ae],zq hr⟩
 case h_6=>
  rename_i e b off len cap o f;obtain⟨r,n,c,hp,rfl,_⟩:=k;rw[Bn]at d;by_cases h0:len=0
  ·simp only[h0,decide_true,we,zg,yk]at d;obtain⟨rfl,rfl⟩:=d;subst h0;exact⟨.tuple #[],p,w,by simp[AA g f],by simp[Ae],zq hr⟩
  ·simp only[h0,decide_false,wg]at d;split at d
   case h_2=>cases d
   rename_i i K;cases G:zh 0 i.zero.length with
   |false=>grind
   |true=>
    simp only[G,we,zi]at d;obtain⟨s,J,I⟩:=d;cases I;obtain⟨z,hzz,hzr⟩:=Er g K;have E:=(hzr p).length;have q:=JB (hzr p) (by simp_all)<|len*i.zero.length;obtain⟨r',m,w',g1,g2,g3⟩:=Uj (P:=P) hr q J;rw[hp]at g1;cases g1;refine⟨.tuple #[],p,w',?_,by simp[Ae],g3⟩;have:Builtin.zeroCells z.cells len=(Array.range<|len*i.zero.length).map (fun i=>z.cells[i % z.cells.size]!):=by
     grind [Builtin.zeroCells]
    simp only[zf,AA g f,zd,hzz,this,g2,zp]
def Adm(T:B6)(ts:Array TypeId)(args:List V):Option V:=
 match ts[0]?,args with
 |some t,[x]=>
  match T.und t,x with
  |some (.slice _),.sl _ _ _ cap 0=>some<|i64 cap
  |some (.slice _),.nils=>some<|i64 0
  |_,_=>none
 |_,_=>none
theorem wM(k:T.Ok P){ts:Array TypeId}{t:TypeId}{args:List V}{args':Array Value}(l:Aw p args args'.toList){v:V}(d:Adm T ts args=some v):
  ∃v',(Builtin.cap_ ts t args').run P w=.ok v' w/\Ae p v v':=by
 unfold Adm at d;split at d
 case h_2=>cases d
 rename_i t0 x o;obtain⟨x',f,g⟩:=l.one;have i:args'[0]?=some x':=by rw[<-zu,f];rfl
 unfold Builtin.cap_;simp only[o,i];split at d
 case h_3=>cases d
 case h_1=>
  rename_i e b off len cap j;cases d;simp only[Ae]at g;obtain⟨r,n,c,hp,rfl,s,y,q,u⟩:=g;have:=q trivial;subst this;exact⟨_,by simp[zf,AA k j];rfl,by rfl⟩
 case h_2=>
  rename_i e j;cases d;subst g;exact⟨_,by simp[zf,AA k j];rfl,by rfl⟩
def T2(T:B6)(h:H)(src dst:TypeId)(x:V):Option (V×H):=
 match T.und src,T.und dst,x with
 |some .string,some<|.slice e,.str s=>
  match T.und e with
  |some (.int .u8)=>some (.sl h.nx 0 s.length s.length 1,h.push<|.cells (s.map fun b=>.int .u8<|.ofNat b.toNat) e (0,0))
  |_=>none
 |_,_,_=>none
theorem dG(i:T.Ok P)(hr:R p h w){src dst:TypeId}{x:V}{x':Value}(q:Ae p x x'){v:V}{h':H}(f:T2 T h src dst x=some (v,h')):
  ∃v' p' w',(convert src dst x').run P w=.ok v' w'/\Ae p' v v'/\Ext p h w p' h' w':=by
 unfold T2 at f;split at f
 case h_2=>cases f
 rename_i e s l u;split at f
 case h_2=>cases f
 rename_i t;cases f;subst q;have d:=run_bytes_of_string (P:=P) w src dst e (bytesOf s) (i.und _ _ l) (i.und _ _ u)<|i.und _ _ t;generalize y:grownCap w (bytesOf s).size 0 e=c at d;have j:s.length<=c:=by
  grind [BZ,grownCap,Question.cut]
 have k:(bytesRow (bytesOf s) c).size=c:=by
  grind [bytesRow,bytesOf,BZ]
 have g:=Ext.drew hr<|w.drawn+1;have r:=Ext.push (n:=c) g.rel (o:=.cells (s.map fun b=>.int .u8<|.ofNat b.toNat) e (0,0)) (x:=.cells (bytesRow (bytesOf s) c) e ((bytesRow (bytesOf s) c).size,(bytesRow (bytesOf s) c).size+1)) (by
  refine⟨_,_,rfl,k,by grind,?_,ae⟩;refine Aw.toC<|Aw.mk ?_ ?_
  ·grind
  ·grind [bytesRow,bytesOf,Ae])
 refine⟨_,_,_,d,?_,g.trans r⟩;refine⟨w.heap.size,c,c,by rw[<-hr.len];simp,by rfl,Nat.le_refl _,j,ae,ae⟩
def BL(T:B6)(h:H)(s d:TypeId)(x:V):Option V:=
 match T.und s,T.und d,x with
 |some (.pointer _),some .unsafePointer,.nilp=>some .nilp
 |some .unsafePointer,some<|.pointer _,.nilp=>some .nilp
 |some (.pointer t),some .unsafePointer,.ptr b off=>
  match T.inf t,h.get b with
  |some i,some (.cells cs _ _)=>bif zh 0 i.size&&zh off cs.length then some (.ptr b off)else none
  |_,_=>none
 |some .unsafePointer,some<|.pointer u,.ptr b off=>
  match T.inf u,h.get b with
  |some i,some (.cells cs e _)=>bif zh 0 i.size&&z7 i.size cs.length&&zo e u&&zo off 0 then some (.ptr b 0)else none
  |_,_=>none
 |_,_,_=>none
theorem Wm(hr:R p h w){b:Nat}{cs:List V}{t:TypeId}{fz:Nat×Nat}(d:h.get b=some (.cells cs t fz)):
  ∃r n,p[b]?=some (r,n)/\w.shape? r=some (t,n)/\cs.length<=n:=by
 obtain⟨r,n,x,f,i,c,fz',rfl,g,e,_⟩:=hr.obj b _ d;grind [World.shape?]
theorem iD{u:TypeId}(c:P.cellsOf u≠0)(k:Nat)(d:1<=k):liesAt P P.depth u k 0 u 1=true:=by
 have b:P.depth=(2*(P.types.size+Made.depth)+1)+1:=rfl;rw[b];simp only[liesAt,zm];rw[b];simp[rowAt,c,d,sameLayout]
theorem wJ(f:T.Ok P)(hr:R p h w){s d:TypeId}{x:V}{x':Value}(o:Ae p x x'){v:V}(c:BL T h s d x=some v):
  ∃v',(convert s d x').run P w=.ok v' w/\Ae p v v':=by
 unfold BL at c;split at c
 case h_5=>cases c
 case h_1=>
  rename_i g k;subst o;cases c;refine⟨.pointer none,?_,by rfl⟩;simp[convert,AA f g,AA f k,Conv.unsafePointer]
 case h_2=>
  rename_i g k;subst o;cases c;refine⟨.pointer none,?_,by rfl⟩;simp[convert,AA f g,AA f k,Conv.unsafePointer]
 case h_3=>
  rename_i t b off g k;split at c
  case h_2=>cases c
  rename_i i cs e fz A y;cases l:(zh 0 i.size&&zh off cs.length)with
  |false=>grind
  |true=>
   rw[l]at c;cases c;simp only[ze,zt]at l;obtain⟨j,z,B,G,_⟩:=f.inf t i A;obtain⟨r,n,k1,k2,k3⟩:=Wm hr y;obtain⟨r',n',q1,rfl⟩:=o;rw[k1]at q1;cases q1;refine⟨_,Lib.run_to_unsafe w ⟨r,off,none⟩ (f.und _ _ g) (f.und _ _ k) B ae k2 ah,?_⟩;simp_all [Ae]
 case h_4=>
  rename_i u b off g k;split at c
  case h_2=>cases c
  rename_i i cs e fz A y;cases l:(zh 0 i.size&&z7 i.size cs.length&&zo e u&&zo off 0)with
  |false=>grind
  |true=>
   rw[l]at c;cases c;simp only[ze,zt,yn,Bn,w5]at l;obtain⟨⟨⟨E,I⟩,rfl⟩,rfl⟩:=l;obtain⟨j,z,B,G,_⟩:=f.inf e i A;obtain⟨r,n,k1,k2,k3⟩:=Wm hr y;obtain⟨r',n',q1,rfl⟩:=o;rw[k1]at q1;cases q1;have q:P.cellsOf e=i.size:=by grind [Program.cellsOf]
   have D:1<=n/P.cellsOf e:=by rw[q];exact Nat.div_pos ae E
   refine⟨_,Lib.run_from_unsafe w ⟨r,0,none⟩ (f.und _ _ g) (f.und _ _ k) B k2 (iD ae _ D),?_⟩;simp_all [Ae]
def P2(args:List V):Option V:=
 match args with
 |[.nils]=>some .nilp
 |[.sl b off _ cap _]=>bif zh 0 cap then some (.ptr b off)else none
 |_=>none
theorem dP{ts:Array TypeId}{t:TypeId}{args:List V}{args':Array Value}(e:Aw p args args'.toList){v:V}(d:P2 args=some v):
  ∃v',(Builtin.unsafeSliceData_ ts t args').run P w=.ok v' w/\Ae p v v':=by
 unfold P2 at d;split at d
 case h_3=>cases d
 case h_1=>
  cases d;obtain⟨x,i,f⟩:=e.one;have:args'= #[x]:=ah;simp_all [Ae,Lib.run_unsafeSliceData_nil]
 case h_2=>
  rename_i b off len cap o;cases g:zh 0 cap with
  |false=>grind
  |true=>
   rw[g]at d;cases d;rw[zt]at g;obtain⟨x,i,f⟩:=e.one;have:args'= #[x]:=ah;subst this;obtain⟨r,n,c,g1,rfl,g2,g3,_⟩:=f;exact⟨_,Lib.run_unsafeSliceData_row w ts t _ len c ae,by simp_all [Ae]⟩
def Ud:V->Option UInt8
 | .int .u8 (.ofNat n)=>bif zh n 256 then some (UInt8.ofNat n)else none
 |_=>none
def HP:List V->Option Rd
 |[]=>some []
 |v::vs=>
  match Ud v,HP vs with
  |some b,some c=>some (b::c)
  |_,_=>none
theorem sD{c:V}{b:UInt8}(h:Ud c=some b):c=.int .u8 (b.toNat:Int):=by
 unfold Ud at h;split at h
 case h_2=>cases h
 rename_i n;cases d:zh n 256 with
 |false=>grind
 |true=>
  rw[zt]at d;have:(UInt8.ofNat n).toNat=n:=by simp;omega
  grind
theorem LN:∀ {cs:List V} {l:Rd},HP cs=some l->cs=l.map fun b=>V.int .u8 (b.toNat:Int)
 |[],l,d=>by cases d;rfl
 |c::cs,l,d=>by
  unfold HP at d;split at d
  case h_2=>cases d
  rename_i b tl f e;cases d;rw[sD f,LN e];rfl
def Xh(T:B6)(h:H)(ts:List TypeId)(args:List V):Option (V×H):=
 match ts,args with
 |[pt,_],[.ptr b 0,.int .i64<|.ofNat n]=>
  match T.und pt,h.get b with
  |some (.pointer e),some (.cells cs c fz)=>
   match T.inf e,HP (cs.take n)with
   |some i,some l=>bif zo i.size 1&&zo e c&&zh 0 n&&z7 n cs.length&&z7 n 9223372036854775807&&z7 fz.2 fz.1 then some (.str l,h.kill b)else none
   |_,_=>none
  |_,_=>none
 |_,_=>none
theorem Ext.gone{w':World}(hr:R p h w){b r n:Nat}{o:O}{x':Obj}(j:h.get b=some o)(hp:p[b]?=some (r,n))
  (G:w'.heap=w.heap.setIfInBounds r x') (q:w'.os=w.os) (z:w'.output=w.output) (x:w'.tape=w.tape) (I:∀cs t fz,o=.cells cs t fz->¬Lk n fz) (D:w.drawn<=w'.drawn:=by exact Nat.le_refl _):Ext p h w p (h.kill b) w':=by
 refine⟨(by simp),⟨hr.len,fun c i d=>?_,(hr.kill b).inj⟩,by simp[G],fun s B J=>?_,fun s M=>?_,q,z,x,fun s B l=>?_,D⟩
 ·rw[H.DL]at d;by_cases e:c=b
  ·grind
  ·rw[wc e]at d;obtain⟨s,m,y,E,L,K⟩:=hr.obj c i d;have f:r≠s:=fun g=>e<|hr.inj c b i o s m n d j E<|g▸hp
   grind
 ·grind [Im]
 ·grind [H.DL,Im]
 ·obtain⟨c,m,cs,t,fz,u,k,A⟩:=l;by_cases e:c=b
  ·grind
  ·have f:r≠s:=fun g=>e<|hr.inj c b _ o s m n u j k<|g▸hp
   refine⟨by grind,.inl ⟨c,m,cs,t,fz,by simp_all,k,A⟩⟩
theorem W5{w:World}{r n:Nat}{c:Array Value}{e:TypeId}{fz:Nat×Nat}(b:w.heap[r]?=some (.cells c e fz))(h0:n≠0):
  ∃fz',(w.freeze ⟨r,0,none⟩ n).heap=w.heap.setIfInBounds r (.cells c e fz'):=by
 refine⟨if fz.1==fz.2 then(0,0+n)else(min fz.1 0,max fz.2<|0+n),?_⟩;simp_all [World.freeze,Pd]
theorem lO(K:T.Ok P)(hr:R p h w){ts:Array TypeId}{t:TypeId}{args:List V}{args':Array Value}(M:Aw p args args'.toList){v:V}{h':H}(d:Xh T h ts.toList args=some (v,h')):
  ∃v' w',(Builtin.unsafeString_ ts t args').run P w=.ok v' w'/\Ae p v v'/\Ext p h w p h' w':=by
 unfold Xh at d;split at d
 case h_2=>cases d
 rename_i pt I b n o;have o:ts= #[pt,I]:=ah;subst o;split at d
 case h_2=>cases d
 rename_i e cs W fz N J;split at d
 case h_2=>cases d
 rename_i i l X L;cases G:(zo i.size 1&&zo e W&&zh 0 n&&z7 n cs.length&&z7 n 9223372036854775807&&z7 fz.2 fz.1)with
 |false=>grind
 |true=>
  rw[G]at d;cases d;simp only[ze,zt,yn,Bn,w5]at G;obtain⟨x,y,A,u,U⟩:=M.two;have:args'= #[x,y]:=ah;subst this;obtain⟨r,m,u,rfl⟩:=u;subst U;obtain⟨r',m',ob,k1,k2,c,fz',rfl,k4,k5,k6,k7⟩:=hr.obj b _ J;rw[u]at k1;cases k1;obtain⟨j,z,j1,j2,_⟩:=K.inf e i X;have B:P.cellsOf e=1:=by grind [Program.cellsOf]
  have s:=LN L;have k:l.length=n:=by
   have:=wi List.length s;grind
  have E:w.shape? r=some (e,m):=by grind [World.shape?]
  have g:∀j x,l[j]?=some x->w.cell? ((⟨r,0,none⟩:Addr).add j)=some (.int .u8 x.toNat):=by
   intro j x Z;have O:cs[j]?=some (.int .u8 (x.toNat:Int)):=by
    have:=wi (·[j]?) s;grind
   obtain⟨v,hv,Y⟩:=k6.get O rfl;grind [Ae,Addr.Nb,World.cell?]
  have q:=Lib.run_unsafeString_row w pt I t e (K.und _ _ N) B r m E l ah ae ae g;obtain⟨Q,D⟩:=W5 (n:=l.length) k2 ae;refine⟨.string<|bytesOf l,w.freeze ⟨r,0,none⟩ l.length,?_,by rfl,?_⟩
  ·rw[<-k];exact q
  ·have f:(w.freeze ⟨r,0,none⟩ l.length).os=w.os/\(w.freeze ⟨r,0,none⟩ l.length).output=w.output/\(w.freeze ⟨r,0,none⟩ l.length).tape=w.tape/\(w.freeze ⟨r,0,none⟩ l.length).drawn=w.drawn:=by
    unfold World.freeze;grind
   exact Ext.gone hr J u D f.1 f.2.1 f.2.2.1 (by
    grind [Lk])<|Nat.le_of_eq f.2.2.2.symm
end
mutual
def cv:Value->Option V
 | .bool b=>some<|.bool b
 | .int k n=>some<|.int k n
 | .string s=>some<|.str s.data.toList
 | .pointer none=>some .nilp
 | .slice none 0 0=>some .nils
 | .map none=>some .nilm
 | .nilFunc=>some .nilf
 | .nilIface=>some .nili
 | .func f ⟨[]⟩ ⟨[]⟩=>some<|.fn f [] []
 | .agg ⟨cs⟩=>(cvs cs).map .agg
 | .tuple ⟨cs⟩=>(cvs cs).map .tup
 |_=>none
def cvs:List Value->Option (List V)
 |[]=>some []
 |v::vs=>match cv v,cvs vs with
  |some x,some b=>some (x::b)
  |_,_=>none
end
mutual
theorem XD(p:Pl):∀ {v:Value} {x:V},cv v=some x->Ae p x v
 | .bool b,x,h=>by grind [cv,Ae]
 | .int k n,x,h=>by grind [cv,Ae]
 | .string s,x,h=>by simp[cv]at h;subst h;rfl
 | .pointer none,x,h=>by grind [cv,Ae]
 | .pointer (some a),x,h=>by simp[cv]at h
 | .slice none 0 0,x,h=>by grind [cv,Ae]
 | .slice none 0 (_+1),x,h=>by simp[cv]at h
 | .slice none (_+1) _,x,h=>by simp[cv]at h
 | .slice (some a) _ _,x,h=>by simp[cv]at h
 | .map none,x,h=>by grind [cv,Ae]
 | .map (some a),x,h=>by simp[cv]at h
 | .nilFunc,x,h=>by grind [cv,Ae]
 | .nilIface,x,h=>by grind [cv,Ae]
 | .func f ⟨[]⟩ ⟨[]⟩,x,h=>by simp[cv]at h;subst h;simp[Ae]
 | .func f ⟨_::_⟩ _,x,h=>by simp[cv]at h
 | .func f ⟨[]⟩ ⟨_::_⟩,x,h=>by simp[cv]at h
 | .agg ⟨cs⟩,x,h=>by
  simp only[cv,zi]at h;obtain⟨d,c,rfl⟩:=h;exact⟨_,rfl,UG p c⟩
 | .tuple ⟨cs⟩,x,h=>by
  simp only[cv,zi]at h;obtain⟨d,c,rfl⟩:=h;exact⟨_,rfl,UG p c⟩
 | .float _ _,x,h=>by simp[cv]at h
 | .complex _ _ _,x,h=>by simp[cv]at h
 | .chan _,x,h=>by simp[cv]at h
 | .iface _ _,x,h=>by simp[cv]at h
theorem UG(p:Pl):∀ {vs:List Value} {b:List V},cvs vs=some b->Aw p b vs
 |[],b,h=>by simp_all [cvs]
 |v::vs,b,h=>by
  unfold cvs at h;split at h
  case h_2=>cases h
  rename_i x e c d;cases h;exact(Bh ..).2 ⟨XD p c,UG p d⟩
end
structure Fn where
 ntmps:Nat
 results:Array ResultVar
 body:Code
 cert:Bool
structure Ctx where
 T:B6
 ng:Nat
 fn:FuncId->Option Fn
 prim:FuncId->Option (List V->H->Option (V×H))
 spec:FuncId->Option (List V->H->Option (V×H))
 mg:Bool
def Gl(_:Ctx)(p:Pl):Prop:=Gp p
theorem Gl.ext{C:Ctx}{p p':Pl}{h h':H}{w w':World}(b:Gl C p)(e:Ext p h w p' h' w'):Gl C p':=by
 obtain⟨q,rfl⟩:=e.pre;exact Gp.app b q
def ev(_:Ctx)(fr:Fr):Operand->Option V
 | .tmp t=>some<|fr.get t
 | .const v=>cv v
 | .global g=>bif gin g Fg then some (.ptr g 0)else none
 | .func f=>some<|.fn (.func f) [] []
theorem A6{C:Ctx}{p:Pl}{fr:Fr}{a:Act}(e:Gl C p)(i:Cx p fr a){x:Operand}{v:V}(b:ev C fr x=some v):Ae p v (a.eval x):=by
 cases x with
 |tmp t=>grind [ev,Act.eval,Cx]
 |const v=>exact XD p b
 |global g=>
  simp only[ev]at b;cases c:gin g Fg with
  |true=>
   rw[c]at b;simp only[we,zg]at b;subst b;obtain⟨o,d⟩:=cY c;exact⟨g,_,e _ d,rfl⟩
  |false=>grind
 |func f=>simp only[ev,zg]at b;subst b;simp[Ae,Act.eval]
def Wo(C:Ctx)(fr:Fr):List Operand->Option (List V)
 |[]=>some []
 |x::b=>match ev C fr x,Wo C fr b with
  |some v,some vs=>some (v::vs)
  |_,_=>none
theorem J5{C:Ctx}{p:Pl}{fr:Fr}{a:Act}(d:Gl C p)(c:Cx p fr a):∀ {b:List Operand} {vs:List V},Wo C fr b=some vs->Aw p vs (b.map a.eval)
 |[],vs,h=>by simp_all [Wo]
 |x::b,vs,h=>by
  unfold Wo at h;split at h
  case h_2=>cases h
  rename_i v g e f;cases h;exact(Bh ..).2 ⟨A6 d c e,J5 d c f⟩
def Xj(C:Ctx)(fr:Fr):Option Operand->Option (Option V)
 |none=>some none
 |some x=>(ev C fr x).map some
theorem OQ{C:Ctx}{p:Pl}{fr:Fr}{a:Act}(d:Gl C p)(e:Cx p fr a){x:Option Operand}{v:Option V}(b:Xj C fr x=some v):HD p v (x.map a.eval):=by
 cases x with
 |none=>simp[Xj]at b;subst b;rfl
 |some x=>
  simp only[Xj,zi]at b;obtain⟨u,c,rfl⟩:=b;exact⟨_,rfl,A6 d e c⟩
def YD(C:Ctx)(fr:Fr):List (Nat×Operand)->Option (List<|Nat×V)
 |[]=>some []
 |(i,x)::b=>match ev C fr x,YD C fr b with
  |some v,some vs=>some ((i,v)::vs)
  |_,_=>none
theorem OF{C:Ctx}{p:Pl}{fr:Fr}{a:Act}(d:Gl C p)(c:Cx p fr a):∀ {b:List (Nat×Operand)} {vs:List (Nat×V)},YD C fr b=some vs->W8 p vs (b.map fun(i,x)=>(i,a.eval x))
 |[],vs,h=>by simp[YD]at h;subst h;exact .nil
 |(i,x)::b,vs,h=>by
  unfold YD at h;split at h
  case h_2=>cases h
  rename_i v g e f;cases h;exact .cons (A6 d c e)<|OF d c f
inductive OR where
 |val (v:V) (h:H)
 |skip (h:H)
 |enter (f:FuncId) (args:List V)
 |round (b:Nat) (l:LS) (fr:Fr)
 |alts (l:List (V×H))
def Fr.dK(f:Fr)(t:Nat)(v:V):Fr:=bif zh t f.n then⟨f.n,f.m.set t<|some v⟩else f
def HB:List Tmp->List V->Fr->Fr
 |t::ts,v::vs,f=>HB ts vs<|f.dK t v
 |_,_,f=>f
theorem EE.dK{p:Pl}{f:Fr}{tmps:Array Value}(c:EE p f tmps){v:V}{v':Value}(g:Ae p v v')(t:Nat):EE p (f.dK t v) (tmps.setIfInBounds t v'):=by
 unfold Fr.dK;simp only[Hu];by_cases b:t<f.n
 ·simp only[b,decide_true,we];refine⟨by simp[c.1],fun s=>?_⟩;have d:t<tmps.size:=c.1▸b;by_cases e:s=t
  ·simp_all [Fr.get]
  ·have:=c.2 s;simp only[Fr.get,PM.Dv,wc e]at this ⊢;rw[zk,z8 ae, <-zk];omega
 ·grind [EE]
theorem EE.HB{p:Pl}:∀ {ts:List Tmp} {vs:List V} {b:List Value},Aw p vs b->∀ {f:Fr} {tmps:Array Value},EE p f tmps->EE p (HB ts vs f) ((ts.zip b).foldl (fun tmps (t,a)=>tmps.setIfInBounds t a) tmps)
 |[],vs,b,_,f,tmps,c=>by simpa [Det.HB]using c
 |t::ts,[],b,d,f,tmps,c=>by simp_all [Det.HB]
 |t::ts,v::vs,b,d,f,tmps,c=>by
  obtain⟨u,i,rfl,e,g⟩:=d;exact EE.HB g<|c.dK e t
def BD(h:H):Option V->Option OR
 |some v=>some<|.val v h
 |none=>none
def Fu:Option (V×H)->Option OR
 |some (v,h)=>some<|.val v h
 |none=>none
def sN:Option H->Option OR
 |some h=>some<|.skip h
 |none=>none
def E8(C:Ctx)(h:H)(b:Builtin)(ts:Array TypeId)(args:List V):Option OR:=
 match b with
 | .len=>BD h<|Gi C.T h ts args
 | .append=>Fu<|GX C.T h ts args
 | .copy=>Fu<|uN C.T h ts args
 | .max=>BD h<|GN sT args
 | .min=>BD h<|GN Aa9 args
 | .cap=>BD h<|Adm C.T ts args
 | .delete=>Fu<|LY C.T h ts args
 | .clear=>Fu<|Gm C.T h ts args
 | .unsafeSliceData=>BD h<|P2 args
 | .unsafeString=>Fu<|Xh C.T h ts.toList args
 |_=>none
def Ip(C:Ctx)(h:H)(f:V)(args:List V):Option OR:=
 match f with
 | .fn (.func g) first captured=>
  match C.prim g with
  |some q=>Fu<|q (first++args++captured) h
  |none=>match C.fn g with
   |some _=>some<|.enter g<|first++args++captured
   |none=>none
 | .yld b=>match h.get b with
  |some (.loop l)=>bif zo args.length l.ps.size then some (.round b l<|HB l.ps.toList args l.fr)else none
  |_=>none
 |_=>none
def OD(C:Ctx)(h:H)(x:V)(name:String)(args:List V):Option OR:=
 match x with
 | .iface t v=>match C.T.mth t name with
  |some g=>Ip C h (.fn (.func g) [] []) (v::args)
  |none=>none
 |_=>none
def ZV:Operand->Bool
 | .const _=>true
 |_=>false
def AaF(T:B6)(op:BinOp)(t:TypeId)(x y:Operand)(v u:V):Option V:=
 match op,v,u,T.und t with
 | .eql,.nili,.nili,some (.interface _)=>bif ZV x||ZV y then some (.bool true)else none
 | .neq,.nili,.nili,some (.interface _)=>bif ZV x||ZV y then some (.bool false)else none
 |_,_,_,_=>none
def Kj(T:B6)(op:BinOp)(t:TypeId)(x y:Operand)(v u:V):Option V:=
 match AaF T op t x y v u with
 |some r=>some r
 |none=>K2 T op t v u
def G2(C:Ctx)(fr:Fr)(h:H)(o:Oper):Option OR:=
 let ρ:=ev C fr
 match o.op with
 | .move x| .assign x=>BD h<|ρ x
 | .pick c a b=>match ρ c with
  |some (.bool t)=>BD h<|if t then ρ a else ρ b
  |_=>none
 | .alloc t=>Fu<|G8 C.T h t
 | .box t x=>Fu<|(ρ x).map fun v=>gN h t v
 | .build t j=>match YD C fr j.toList with
  |some ps=>BD h<|KX C.T t ps
  |none=>none
 | .buildSlice t n j=>match YD C fr j.toList with
  |some ps=>Fu<|EV C.T h t n ps
  |none=>none
 | .load t x=>match ρ x with
  |some v=>BD h<|Fe C.T h t v
  |none=>none
 | .store t x y=>match ρ x,ρ y with
  |some v,some u=>sN<|HZ C.T h t v u
  |_,_=>none
 | .nilCheck x=>match ρ x with
  |some (.ptr b i)=>BD h<|some<|.ptr b i
  |some (.iface t v)=>BD h<|some<|.iface t v
  |_=>none
 | .binOp op t x y _=>match ρ x,ρ y with
  |some v,some u=>BD h<|Kj C.T op t x y v u
  |_,_=>none
 | .unOp op _ x=>match ρ x with
  |some v=>BD h<|dun op v
  |none=>none
 | .convert s d x=>match ρ x with
  |some v=>BD h<|F6 C.T h s d v
  |none=>none
 | .makeInterface t x=>match ρ x,C.T.und t with
  |some v,some d=>match d with
   | .interface _=>none
   |_=>BD h<|some<|.iface t v
  |_,_=>none
 | .makeFunc f first captured=>match Wo C fr first.toList,Wo C fr captured.toList with
  |some a,some b=>BD h<|some<|.fn f a b
  |_,_=>none
 | .makeMap _ r=>match Xj C fr r with
  |some v=>Fu<|IP h v
  |none=>none
 | .makeSlice t l c=>match ρ l,ρ c with
  |some v,some u=>Fu<|Pb C.T h t v u
  |_,_=>none
 | .slice t x q z mx=>match ρ x,Xj C fr q,Xj C fr z,Xj C fr mx with
  |some v,some l,some r,some m=>BD h<|DY C.T t v l r m
  |_,_,_,_=>none
 | .fieldAddr t x f=>match ρ x with
  |some v=>BD h<|KU C.T t v f
  |none=>none
 | .field t x f=>match ρ x with
  |some v=>BD h<|KW C.T t v f
  |none=>none
 | .indexAddr t x i=>match ρ x,ρ i with
  |some v,some u=>BD h<|Fs C.T t v u
  |_,_=>none
 | .index t x i=>match ρ x,ρ i with
  |some v,some u=>BD h<|Jg C.T t v u
  |_,_=>none
 | .lookup t x i ok=>match ρ x,ρ i with
  |some v,some u=>BD h<|ES C.T h t v u ok
  |_,_=>none
 | .mapUpdate t m k x| .insert t m k x=>match ρ m,ρ k,ρ x with
  |some a,some b,some c=>sN<|H2 C.T h t a b c
  |_,_,_=>none
 | .range t x=>match ρ x with
  |some v=>Fu<|HR C.T h t v
  |none=>none
 | .next x e=>match ρ x with
  |some v=>bif e then Fu (NF h v e)else(Ua h v e).map .alts
  |none=>none
 | .entry x=>match ρ x with
  |some v=>BD h<|U1 h v
  |none=>none
 | .extract x i=>match ρ x with
  |some v=>BD h<|Hn v i
  |none=>none
 | .call c=>match c.callee,Wo C fr c.args.toList with
  | .builtin b,some args=>E8 C h b c.argTypes args
  | .value f,some args=>match ρ f with
   |some g=>Ip C h g args
   |none=>none
  | .invoke x A,some args=>match ρ x with
   |some v=>OD C h v A args
   |none=>none
  |_,_=>none
 |_=>none
abbrev Gw:=Ctx->Fr->H->Option OR
def Ad7(a0:Operand):Gw:=fun C fr h=>BD h<|ev C fr a0
def tJ(a0:Operand):Gw:=fun C fr h=>BD h<|ev C fr a0
def AdI(a0:Operand)(a1:Operand)(a2:Operand):Gw:=fun C fr h=>match ev C fr a0 with|some (.bool t)=>BD h (if t then ev C fr a1 else ev C fr a2)|_=>none
def xS(a0:TypeId):Gw:=fun C _fr h=>Fu<|G8 C.T h a0
def Afz(a0:TypeId)(a1:Operand):Gw:=fun C fr h=>Fu<|(ev C fr a1).map fun v=>gN h a0 v
def yB(a0:TypeId)(a1:Array (Nat×Operand)):Gw:=fun C fr h=>match YD C fr a1.toList with|some ps=>BD h (KX C.T a0 ps)|none=>none
def Td(a0:TypeId)(a1:Nat)(a2:Array (Nat×Operand)):Gw:=fun C fr h=>match YD C fr a2.toList with|some ps=>Fu (EV C.T h a0 a1 ps)|none=>none
def sC(a0:TypeId)(a1:Operand)(a2:Operand)(a3:Operand):Gw:=fun C fr h=>match ev C fr a1,ev C fr a2,ev C fr a3 with|some a,some b,some c=>sN (H2 C.T h a0 a b c)|_,_,_=>none
def AcG(a0:TypeId)(a1:Operand):Gw:=fun C fr h=>match ev C fr a1 with|some v=>BD h (Fe C.T h a0 v)|none=>none
def zA(a0:TypeId)(a1:Operand)(a2:Operand):Gw:=fun C fr h=>match ev C fr a1,ev C fr a2 with|some v,some u=>sN (HZ C.T h a0 v u)|_,_=>none
def yT(_a0:Nat):Gw:=fun _ _ _=>none
def zP(_a0:Nat):Gw:=fun _ _ _=>none
def XS(a0:Operand):Gw:=fun C fr h=>match ev C fr a0 with|some (.ptr b i)=>BD h (some<|.ptr b i)|some (.iface t v)=>BD h (some<|.iface t v)|_=>none
def Abf(a0:BinOp)(a1:TypeId)(a2:Operand)(a3:Operand)(_a4:TypeId):Gw:=fun C fr h=>match ev C fr a2,ev C fr a3 with|some v,some u=>BD h (Kj C.T a0 a1 a2 a3 v u)|_,_=>none
def Ad5(a0:UnOp)(_a1:TypeId)(a2:Operand):Gw:=fun C fr h=>match ev C fr a2 with|some v=>BD h (dun a0 v)|none=>none
def gT(a0:TypeId)(a1:TypeId)(a2:Operand):Gw:=fun C fr h=>match ev C fr a2 with|some v=>BD h (F6 C.T h a0 a1 v)|none=>none
def IA(_a0:TypeId)(_a1:Operand):Gw:=fun _ _ _=>none
def N6(a0:TypeId)(a1:Operand):Gw:=fun C fr h=>match ev C fr a1,C.T.und a0 with|some v,some d=>(match d with| .interface _=>none|_=>BD h<|some<|.iface a0 v)|_,_=>none
def Yl(a0:Go.Fn)(a1:Array Operand)(a2:Array Operand):Gw:=fun C fr h=>match Wo C fr a1.toList,Wo C fr a2.toList with|some a,some b=>BD h (some<|.fn a0 a b)|_,_=>none
def fE(_a0:TypeId)(a1:Option Operand):Gw:=fun C fr h=>match Xj C fr a1 with|some v=>Fu (IP h v)|none=>none
def XM(_a0:TypeId)(_a1:Operand):Gw:=fun _ _ _=>none
def WL(a0:TypeId)(a1:Operand)(a2:Operand):Gw:=fun C fr h=>match ev C fr a1,ev C fr a2 with|some v,some u=>Fu (Pb C.T h a0 v u)|_,_=>none
def yU(a0:TypeId)(a1:Operand)(a2:Option Operand)(a3:Option Operand)(a4:Option Operand):Gw:=fun C fr h=>match ev C fr a1,Xj C fr a2,Xj C fr a3,Xj C fr a4 with|some v,some l,some r,some m=>BD h (DY C.T a0 v l r m)|_,_,_,_=>none
def Wz(a0:TypeId)(a1:Operand)(a2:Nat):Gw:=fun C fr h=>match ev C fr a1 with|some v=>BD h (KU C.T a0 v a2)|none=>none
def wV(a0:TypeId)(a1:Operand)(a2:Nat):Gw:=fun C fr h=>match ev C fr a1 with|some v=>BD h (KW C.T a0 v a2)|none=>none
def VI(a0:TypeId)(a1:Operand)(a2:Operand):Gw:=fun C fr h=>match ev C fr a1,ev C fr a2 with|some v,some u=>BD h (Fs C.T a0 v u)|_,_=>none
def Aai(a0:TypeId)(a1:Operand)(a2:Operand):Gw:=fun C fr h=>match ev C fr a1,ev C fr a2 with|some v,some u=>BD h (Jg C.T a0 v u)|_,_=>none
def lD(a0:TypeId)(a1:Operand)(a2:Operand)(a3:Bool):Gw:=fun C fr h=>match ev C fr a1,ev C fr a2 with|some v,some u=>BD h (ES C.T h a0 v u a3)|_,_=>none
def Vz(a0:TypeId)(a1:Operand)(a2:Operand)(a3:Operand):Gw:=fun C fr h=>match ev C fr a1,ev C fr a2,ev C fr a3 with|some a,some b,some c=>sN (H2 C.T h a0 a b c)|_,_,_=>none
def Yp(_a0:TypeId)(_a1:Operand)(_a2:Operand):Gw:=fun _ _ _=>none
def Ur(_a0:TypeId)(_a1:Operand)(_a2:Operand)(_a3:Operand):Gw:=fun _ _ _=>none
def yP(a0:TypeId)(a1:Operand):Gw:=fun C fr h=>match ev C fr a1 with|some v=>Fu (HR C.T h a0 v)|none=>none
def Adr(a0:Operand)(a1:Bool):Gw:=fun C fr h=>match ev C fr a0 with|some v=>bif a1 then Fu (NF h v a1)else(Ua h v a1).map .alts|none=>none
def Abc(a0:Operand):Gw:=fun C fr h=>match ev C fr a0 with|some v=>BD h (U1 h v)|none=>none
def TS(_a0:Operand)(_a1:TypeId)(_a2:TypeId)(_a3:Bool):Gw:=fun _ _ _=>none
def fB(a0:Operand)(a1:Nat):Gw:=fun C fr h=>match ev C fr a0 with|some v=>BD h (Hn v a1)|none=>none
def Ad2(a0:Call):Gw:=fun C fr h=>match a0.callee,Wo C fr a0.args.toList with| .builtin b,some args=>E8 C h b a0.argTypes args| .value f,some args=>(match ev C fr f with|some g=>Ip C h g args|none=>none)| .invoke x c,some args=>(match ev C fr x with|some v=>OD C h v c args|none=>none)|_,_=>none
def Aho(_a0:Call):Gw:=fun _ _ _=>none
def vM(_a0:Call):Gw:=fun _ _ _=>none
def Abd(_a0:Operand):Gw:=fun _ _ _=>none
def Aed(_a0:Operand)(_a1:Operand):Gw:=fun _ _ _=>none
def Ac5(_a0:TypeId)(_a1:Operand)(_a2:Bool):Gw:=fun _ _ _=>none
def jA(_a0:Array SelectCase)(_a1:Bool):Gw:=fun _ _ _=>none
def opF(o:Op):Gw:=@Op.casesOn (fun _=>Gw) o Ad7 tJ AdI xS Afz yB Td sC AcG zA yT zP XS Abf Ad5 gT IA N6 Yl fE XM WL yU Wz wV VI Aai lD Vz Yp Ur yP Adr Abc TS fB Ad2 Aho vM Abd Aed Ac5 jA
def G0(C:Ctx)(fr:Fr)(h:H)(o:Oper):Option OR:=opF o.op C fr h
theorem C1(C:Ctx)(fr:Fr)(h:H)(o:Oper):G0 C fr h o=G2 C fr h o:=by
 unfold G0 G2;cases o.op<;>rfl
def IN(C:Ctx)(fr:Fr)(h:H)(o:Oper):Option OR:=
 match G0 C fr h o with
 |some r=>some r
 |none=>match o.op with
  | .convert s d x=>match ev C fr x with
   |some v=>match BL C.T h s d v with
    |some u=>some<|.val u h
    |none=>Fu<|T2 C.T h s d v
   |none=>none
  |_=>none
structure Ctx.Ok(C:Ctx)(P:Program):Prop where
 T:C.T.Ok P
 fn : ∀ f i, C.fn f = some i -> ∃ fn, P.funcs[f]? = some fn /\ fn.name ≠ "runtime.NumGoroutine" /\ fn.body = some i.body /\ fn.ntmps = i.ntmps /\ fn.results = i.results
 prim:∀f q,C.prim f=some q->∀(p:Pl) (h:H) (w:World) (args:List V) (args':Array Value) v h',R p h w->Gl C p->Aw p args args'.toList->q args h=some (v,h')->
  ∃v' p' w',(callFunc f args').run P w=.ok (.value v') w'/\Ae p' v v'/\Ext p h w p' h' w'
 spec:∀f q,C.spec f=some q->∀(p:Pl) (h:H) (w:World) (args:List V) (args':Array Value) v h',R p h w->Gl C p->Aw p args args'.toList->q args h=some (v,h')->
  Calls P f args' w fun e w'=>∃v' p',e=.returned v'/\Ae p' v v'/\Ext p h w p' h' w'
def RE(p:Pl)(h:H)(w:World):OR->Result Next->Prop
 | .val v h',r=>∃v' p' w',r=.ok (.value v') w'/\Ae p' v v'/\Ext p h w p' h' w'
 | .skip h',r=>∃p' w',r=.ok .skip w'/\Ext p h w p' h' w'
 | .enter f args,r=>∃args',r=.ok (.enter f args') w/\Aw p args args'.toList
 | .round b l fr,r=>∃k n f tmps,p[b]?=some (k,n)/\h.get b=some (.loop l)/\r=.ok (.round k f tmps l.asg l.body) w/\EE p fr tmps
 | .alts l,r=>∃v h' v' p' w',(v,h')∈l/\r=.ok (.value v') w'/\Ae p' v v'/\Ext p h w p' h' w'
section
variable {C:Ctx}{P:Program}{p:Pl}{h:H}{w:World}{fr:Fr}{a:Act}
theorem BY{s:Sem Value}{v:Option V}{r:OR}(hr:R p h w)(b:BD h v=some r)(d:∀x,v=some x->∃v',s.run P w=.ok v' w/\Ae p x v'):RE p h w r ((do pure (.value<|<-s):Sem Next).run P w):=by
 cases v with
 |none=>simp[BD]at b
 |some x=>
  simp only[BD,zg]at b;subst b;obtain⟨v',c,e⟩:=d x rfl;exact⟨v',p,w,by simp[c],e,zq hr⟩
theorem Dm{s:Sem Value}{v:Option (V×H)}{r:OR}(b:Fu v=some r)(c:∀x h',v=some (x,h')->∃v' p' w',s.run P w=.ok v' w'/\Ae p' x v'/\Ext p h w p' h' w'):RE p h w r ((do pure (.value<|<-s):Sem Next).run P w):=by
 match v,b,c with
 |some (x,h'),b,c=>
  simp only[Fu,zg]at b;subst b;obtain⟨v',p',w',e,f,d⟩:=c x h' rfl;exact⟨v',p',w',by simp[e],f,d⟩
 |none,b,_=>simp[Fu]at b
theorem cW{s:Sem Unit}{v:Option H}{r:OR}(b:sN v=some r)(d:∀h',v=some h'->∃w',s.run P w=.ok () w'/\Ext p h w p h' w'):RE p h w r ((do s;pure .skip:Sem Next).run P w):=by
 cases v with
 |none=>simp[sN]at b
 |some h'=>
  simp only[sN,zg]at b;subst b;obtain⟨w',c,e⟩:=d h' rfl;exact⟨p,w',by simp[c],e⟩
theorem Nf(D:C.Ok P)(hr:R p h w)(O:Gl C p){f:V}{B:Value}{args:List V}{args':Array Value}(A:Ae p f B)(s:Aw p args args'.toList){r:OR}(b:Ip C h f args=some r):
  RE p h w r ((do let d<-zx B args';invoke d.target d.args:Sem Next).run P w):=by
 unfold Ip at b;split at b
 case h_3=>cases b
 case h_2=>
  split at b
  case h_2=>cases b
  rename_i l E;rw[Bn]at b;by_cases J:args.length=l.ps.size
  ·simp only[J,decide_true,we,zg]at b;subst b;obtain⟨k,n,hp,rfl⟩:=A;obtain⟨k',n',o,u,z,f0,tmps,r,m,j,M,rfl⟩:=hr.obj _ _ E;have Q:=s.length;simp only[zx,zf,zp,zd,invoke];have e:((l.ps.zip args').foldl (fun tmps (t,a)=>tmps.setIfInBounds t a) tmps)=(l.ps.toList.zip args'.toList).foldl (fun tmps (t,a)=>tmps.setIfInBounds t a) tmps:=by
    grind [Array.toList_zip]
   have G:=EE.HB (ts:=l.ps.toList) s j;refine⟨k,n,f0,_,hp,E,?_,G⟩;simp_all [run_yield]
  grind
 rename_i g first captured
 obtain⟨x,y,rfl,K,I⟩:=A;have c:Aw p (first++args++captured) (x++args'++y).toList:=by
  simpa using(K.append s).append I
 simp only[zx,zf,zp,zd,invoke];split at b
 case h_1=>
  rename_i q L;match hqr:q (first++args++captured) h,b with
  |some (v,h'),b=>
   simp only[Fu,zg]at b;subst b;obtain⟨v',p',w',u,z,j⟩:=D.prim g q L p h w _ _ v h' hr O c hqr;exact⟨v',p',w',u,z,j⟩
  |none,b=>simp[Fu]at b
 case h_2=>
  split at b
  case h_2=>cases b
  rename_i i N;cases b;obtain⟨fn,u,z,j,M,G⟩:=D.fn g i N;refine⟨_,?_,c⟩;simp_all [callFunc]
theorem WZ(n:C.Ok P)(hr:R p h w)(z:Gl C p){x:V}{x':Value}{name:String}{args:List V}{args':Array Value}(o:Ae p x x')(A:Aw p args args'.toList){r:OR}(c:OD C h x name args=some r):
  RE p h w r ((invoke (.fn (.method name) #[])<|#[x']++args').run P w):=by
 unfold OD at c;split at c
 case h_2=>cases c
 rename_i t v;split at c
 case h_2=>cases c
 rename_i g u;obtain⟨y,rfl,B⟩:=o;obtain⟨j,m,d,h1,h2,h3,h4,h5,h6⟩:=n.T.mth t name g u;have key:(invoke (.fn (.method name) #[])<|#[.iface t y]++args').run P w=((do let d<-zx (.func (.func g) #[] #[]) (#[y]++args');invoke d.target d.args:Sem Next).run P w):=by
  have l:(underlying t).run P w=.ok d w:=by simp_all [underlying]
  have q:(typeInfo t).run P w=.ok j w:=by unfold typeInfo;simp[h1]
  have b:∀k,(method (k+1) t y name).run P w=.ok (g,y) w:=by
   simp_all [method,follow,receiverAt,Place.get]
  have i:=b<|P.types.size+99;have e:P.types.size+Made.depth=P.types.size+99+1:=rfl;have h0:(#[Value.iface t y]++args')[0]?=some (.iface t y):=by
   grind
  have s:(#[Value.iface t y]++args').extract 1 (#[Value.iface t y]++args').size=args':=by
   simp
  simp only[invoke,zx,h0,s];simp[callMethod,e,i]
 rw[key];exact Nf n hr z (f:=.fn (.func g) [] []) (by simp[Ae]) (by simp_all) c
theorem WI(f:C.Ok P)(hr:R p h w){b:Builtin}{ts:Array TypeId}{t:TypeId}{cs:Array Bool}{args:List V}{args':Array Value}(e:Aw p args args'.toList){r:OR}(d:E8 C h b ts args=some r):
  RE p h w r ((builtin b ts t cs args').run P w):=by
 unfold E8 at d;split at d
 case h_1=>exact BY hr d fun x c=>vE f.T hr e c
 case h_2=>exact Dm d fun x h' c=>X0 f.T hr e c
 case h_3=>exact Dm d fun x h' c=>oN f.T hr e c
 case h_4=>exact BY hr d fun x c=>Abh e c
 case h_5=>exact BY hr d fun x c=>AaO e c
 case h_6=>exact BY hr d fun x c=>wM f.T e c
 case h_7=>exact Dm d fun x h' c=>Yn f.T hr e c
 case h_8=>exact Dm d fun x h' c=>fF f.T hr e c
 case h_9=>exact BY hr d fun x c=>dP e c
 case h_10=>
  refine Dm d fun x h' c=>?_
  obtain⟨v',w',g,j,i⟩:=lO (t:=t) f.T hr e c;grind
 grind
theorem tM{T:B6}(k:T.Ok P){op:BinOp}{t:TypeId}{x y:Operand}{v u:V}{v' j:Value}(g:Ae p v v')(n:Ae p u j){z:V}(f:Kj T op t x y v u=some z):
  ∃o,(do eqGuard op t x y v' j;binOp op t v' j:Sem Value).run P w=.ok o w/\Ae p z o:=by
 unfold Kj at f;split at f
 case h_2=>
  simp only[zf,iK k g n f,zd];exact Aba k g n f
 case h_1=>
  rename_i r hr;have A:∀ {b:Bool},(bif ZV x||ZV y then some (V.bool b)else none)=some z->z=.bool b/\((∃c,x=.const c)\/∃c,y=.const c):=by
   intro b i;cases d:(ZV x||ZV y)with
   |false=>grind
   |true=>
    simp only[d,we,zg]at i;refine⟨i.symm,?_⟩;simp only[zm]at d;rcases d with d|d
    ·left;cases x<;>first|exact⟨_,rfl⟩|cases d
    ·right;cases y<;>first|exact⟨_,rfl⟩|cases d
  have B:∀op,(op=.eql\/op=.neq)->((∃c,x=.const c)\/∃c,y=.const c)->(eqGuard op t x y .nilIface .nilIface).run P w=.ok () w:=by
   intro op q d;rcases q with rfl|rfl<;>unfold eqGuard<;>rcases d with⟨c,rfl⟩|⟨c,rfl⟩<;>simp
  have s:∀ {l},T.und t=some (.interface l)->(Op.equal t .nilIface .nilIface).run P w=.ok true w:=by
   intro l e;unfold Op.equal Op.maxDepth Op.equalIn;rw[zf,AA k e];rfl
  unfold AaF at hr;split at hr
  case h_1=>
   have i:=(OI (t:=t) (y':=.nilIface) g rfl).1;simp_all [Ae]
  case h_2=>
   have i:=(OI (t:=t) (y':=.nilIface) g rfl).2;simp_all [Ae]
  grind
theorem iZ(E:C.Ok P)(hr:R p h w)(q:Gl C p)(A:Cx p fr a){o:Oper}{r:OR}(e:G0 C fr h o=some r):RE p h w r ((execOp a.eval o).run P w):=by
 rw[C1]at e;unfold G2 at e;unfold execOp;cases Z:o.op<;>simp only[Z]at e ⊢<;>try (cases e;done)
 case move x|assign x=>
  cases j:ev C fr x with
  |none=>simp[j,BD]at e
  |some v=>simp[j,BD]at e;subst e;exact⟨_,p,w,rfl,A6 q A j,zq hr⟩
 case pick c x y=>
  split at e
  case h_2=>cases e
  rename_i t hc;have O:=A6 q A hc;simp only[Ae]at O;simp only[zf,O,asBool,zp,zd];cases t
  ·cases j:ev C fr y with
   |none=>simp[j,BD]at e
   |some v=>simp[j,BD]at e;subst e;exact⟨_,p,w,by simp,A6 q A j,zq hr⟩
  ·cases j:ev C fr x with
   |none=>simp[j,BD]at e
   |some v=>simp[j,BD]at e;subst e;exact⟨_,p,w,by simp,A6 q A j,zq hr⟩
 case alloc t=>exact Dm e fun x h' j=>dU E.T hr j
 case box t x=>
  refine Dm e fun v h' j=>?_
  rw[zi]at j;obtain⟨u,I,N⟩:=j;have:=vS (P:=P) (t:=t) hr<|A6 q A I;grind
 case build t L=>
  split at e
  case h_2=>cases e
  rename_i ps M;refine BY hr e fun x j=>fS E.T ?_ j
  have:=OF q A M;simp_all
 case buildSlice t n L=>
  split at e
  case h_2=>cases e
  rename_i ps M;refine Dm e fun x h' j=>Xp E.T hr ?_ j
  have:=OF q A M;simp_all
 case load t x=>
  split at e
  case h_2=>cases e
  rename_i v B;exact BY hr e fun x j=>Xg E.T hr (A6 q A B) j
 case store t x y=>
  split at e
  case h_2=>cases e
  rename_i v u B I;exact cW e fun h' j=>eU E.T hr (A6 q A B) (A6 q A I) j
 case nilCheck x=>
  split at e
  case h_3=>cases e
  case h_1=>
   rename_i b i B;have j:=A6 q A B;have J:=j;simp only[Ae]at J;obtain⟨Y,n,hp,N⟩:=J;simp only[BD,zg]at e;subst e;rw[N];exact⟨_,p,w,rfl,N▸j,zq hr⟩
  case h_2=>
   rename_i t v B;have j:=A6 q A B;have J:=j;simp only[Ae]at J;obtain⟨y,N,_⟩:=J;simp only[BD,zg]at e;subst e;rw[N];exact⟨_,p,w,rfl,N▸j,zq hr⟩
 case binOp op t x y t2=>
  split at e
  case h_2=>cases e
  rename_i v u B I;refine BY hr e fun z K=>?_
  exact tM E.T (A6 q A B) (A6 q A I) K
 case unOp op t x=>
  split at e
  case h_2=>cases e
  rename_i v B;exact BY hr e fun x j=>AcM (A6 q A B) j
 case convert s d x=>
  split at e
  case h_2=>cases e
  rename_i v B;exact BY hr e fun x j=>oO E.T hr (A6 q A B) j
 case makeInterface t x=>
  split at e
  case h_2=>cases e
  rename_i v d B U;split at e
  case h_1=>cases e
  case h_2=>
   refine BY hr e fun z K=>?_
   cases K;refine⟨.iface t<|a.eval x,?_,by exact⟨_,rfl,A6 q A B⟩⟩;unfold Instr.makeInterface;simp only[zf,AA E.T U,zd];rfl
 case makeFunc f first captured=>
  split at e
  case h_2=>cases e
  rename_i x y j hy;refine BY hr e fun z K=>?_
  cases K;exact⟨_,rfl,by exact⟨_,_,rfl,by simpa using J5 q A j,by simpa using J5 q A hy⟩⟩
 case makeMap t x=>
  split at e
  case h_2=>cases e
  rename_i v B;exact Dm e fun x h' j=>VG hr (OQ q A B) j
 case makeSlice t l c=>
  split at e
  case h_2=>cases e
  rename_i v u B I;exact Dm e fun x h' j=>nR E.T hr (A6 q A B) (A6 q A I) j
 case slice t x lo hi mx=>
  split at e
  case h_2=>cases e
  rename_i v l Y m B Q X hm;exact BY hr e fun x j=>gO E.T (A6 q A B) (OQ q A Q) (OQ q A X) (OQ q A hm) j
 case fieldAddr t x f=>
  split at e
  case h_2=>cases e
  rename_i v B;exact BY hr e fun x j=>eK E.T (A6 q A B) j
 case field t x f=>
  split at e
  case h_2=>cases e
  rename_i v B;exact BY hr e fun x j=>eL E.T (A6 q A B) j
 case indexAddr t x i=>
  split at e
  case h_2=>cases e
  rename_i v u B I;exact BY hr e fun x j=>gK E.T (A6 q A B) (A6 q A I) j
 case index t x i=>
  split at e
  case h_2=>cases e
  rename_i v u B I;exact BY hr e fun x j=>dT E.T (A6 q A B) (A6 q A I) j
 case lookup t x i ok=>
  split at e
  case h_2=>cases e
  rename_i v u B I;exact BY hr e fun x j=>XP E.T hr (A6 q A B) (A6 q A I) j
 case mapUpdate t m k x|insert t m k x=>
  split at e
  case h_2=>cases e
  rename_i v u z B I K;exact cW e fun h' j=>Y6 E.T hr (A6 q A B) (A6 q A I) (A6 q A K) j
 case range t x=>
  split at e
  case h_2=>cases e
  rename_i v B;exact Dm e fun x h' j=>YZ E.T hr (A6 q A B) j
 case next x b=>
  split at e
  case h_2=>cases e
  rename_i v B;cases b with
  |true=>exact Dm e fun x h' j=>lY hr (A6 q A B) j
  |false=>
   simp only[wg,zi]at e;obtain⟨l,Q,rfl⟩:=e;obtain⟨v,h',v',p',w',g1,g2,g3,g4⟩:=dN (P:=P) (t:=o.type) hr (A6 q A B) Q;grind [zf,zd,zp,RE]
 case entry x=>
  split at e
  case h_2=>cases e
  rename_i v B;exact BY hr e fun x j=>dH hr (A6 q A B) j
 case extract x i=>
  split at e
  case h_2=>cases e
  rename_i v B;exact BY hr e fun x j=>Vs (A6 q A B) j
 case call c=>
  split at e
  case h_4=>cases e
  case h_1=>
   rename_i b args G D;have:=J5 q A D;unfold resolve;simp only[G,zf,zp,zd,invoke];exact WI E hr (by simp_all) e
  case h_2=>
   rename_i f args G D;split at e
   case h_2=>cases e
   rename_i g W;have:=J5 q A D;unfold resolve;simp only[G];exact Nf E hr q (A6 q A W) (by simp_all) e
  case h_3=>
   rename_i x nm args G D;split at e
   case h_2=>cases e
   rename_i v B;have:=J5 q A D;unfold resolve;simp only[G,zf,zp,zd];exact WZ E hr q (A6 q A B) (by simp_all) e
theorem Mi(g:C.Ok P)(hr:R p h w)(i:Gl C p)(e:Cx p fr a){o:Oper}{r:OR}(b:IN C fr h o=some r):RE p h w r ((execOp a.eval o).run P w):=by
 unfold IN at b;split at b
 case h_1=>
  grind [iZ]
 case h_2=>
  split at b
  case h_2=>cases b
  rename_i s d x j;split at b
  case h_2=>cases b
  rename_i v f;unfold execOp;simp only[j];split at b
  case h_1=>
   rename_i u k;exact BY (v:=some u) hr b fun x c=>by cases c;exact wJ g.T hr (A6 i e f) k
  exact Dm b fun x h' c=>dG g.T hr (A6 i e f) c
end
def Bb(fr:Fr)(ops:Array Oper)(o:Oper):Bool:=
 match o.guard with
 |none=>true
 |some (j,c)=>
  match (ops[j]?).bind (·.dst)with
  |some t=>bif zh t fr.n then(match fr.get t with| .bool b=>b==c|_=>false)else false
  |none=>false
inductive Cl where
 |fn (f:FuncId) (args:List V)
 |rnd (b:Nat) (l:LS) (fr:Fr)
abbrev Dw:=Cl->H->Option (List<|V×H)
def bl{α d:Type}:List α->(α->Option (List d))->Option (List d)
 |[],_=>some []
 |a::c,f=>match f a with
  |none=>none
  |some x=>match c with
   |[]=>some x
   |b::e=>match bl (b::e) f with
    |some y=>some<|x++y
    |none=>none
theorem IM{α g:Type}{f:α->Option (List g)}:∀ {l:List α} {r:List g},bl l f=some r->∀a∈l,∃x,f a=some x/\∀b∈x,b∈r
 |[],r,_,a,e=>by cases e
 |[c],r,h,a,e=>by
  grind [bl]
 |c::d::j,r,h,a,e=>by
  unfold bl at h;split at h
  ·cases h
  simp only at h;split at h
  case h_2=>cases h
  rename_i y i;rcases ym.1 e with rfl|e
  ·grind
  ·obtain⟨z,k,n⟩:=IM i a e;grind
def HM(fr:Fr)(d:Option Nat):List (V×H)->Option (List<|Fr×H)
 |[]=>some []
 |(v,h)::l=>match fr.put d v with
  |some f=>match HM fr d l with
   |some r=>some ((f,h)::r)
   |none=>none
  |none=>none
theorem PD{fr:Fr}{d:Option Nat}:∀ {l:List (V×H)} {r:List (Fr×H)},HM fr d l=some r->∀v h,(v,h)∈l->∃f,fr.put d v=some f/\(f,h)∈r
 |[],r,_,v,h,hm=>by cases hm
 |(u,k)::l,r,b,v,h,hm=>by
  unfold HM at b;split at b
  case h_2=>cases b
  split at b
  case h_2=>cases b
  rename_i i hr;rcases ym.1 hm with e|hm
  ·grind
  ·obtain⟨g,c,j⟩:=PD hr v h hm;grind
def step1(C:Ctx)(call:Dw)(ops:Array Oper)(o:Oper)(fr:Fr)(h:H):Option (List<|Fr×H):=
 bif Bb fr ops o then
  match IN C fr h o with
  |some (.val v h')=>match fr.put o.dst v with
   |some fr'=>some [(fr',h')]
   |none=>none
  |some (.skip h')=>match fr.put o.dst (.tup [])with
   |some fr'=>some [(fr',h')]
   |none=>none
  |some (.enter f args)=>match call (.fn f args) h with
   |some l=>HM fr o.dst l
   |none=>none
  |some (.round b ls f)=>match call (.rnd b ls f) h with
   |some l=>HM fr o.dst l
   |none=>none
  |some (.alts l)=>HM fr o.dst l
  |none=>none
 else match fr.put o.dst (.tup [])with
  |some fr'=>some [(fr',h)]
  |none=>none
def UX(C:Ctx)(call:Dw)(ops:Array Oper):List Oper->Fr->H->Option (List<|Fr×H)
 |[],fr,h=>some [(fr,h)]
 |o::b,fr,h=>match step1 C call ops o fr h with
  |some l=>bl l fun x=>UX C call ops b x.1 x.2
  |none=>none
def FW(ro:Option Nat):Fence:={ ya with round:=ro }
theorem XV{ro:Option Nat}{n:Nat}{P:Program}{f:FuncId}{args:Array Value}{w:World}{R:Ending->World->Prop}:CallsIn (FW ro) n P f args w R↔Calls P f args w R:=by
 have:CallsIn (FW ro) n P f args w R↔CallsIn ya n P f args w R:=Iff.rfl;grind [callsIn_wide]
theorem Adu{ro:Option Nat}{n:Nat}{P:Program}{k:Nat}{f:FuncId}{tmps:Array Value}{asg body:Code}{w:World}{R:Ending->World->Prop}(h:RoundIn ya 0 P k f tmps asg body w R):RoundIn (FW ro) n P k f tmps asg body w R:=
 ⟨trivial,fun c cs _=>h.2 c cs<|room_wide _⟩
inductive DX where
 |normal
 |exit (id:Nat)
 |ret
def DX.Ti:DX->Exit
 | .normal=>.normal
 | .exit id=>.exit id
 | .ret=>.ret
section
variable {C:Ctx}{P:Program}{p:Pl}{h:H}{w:World}{fr:Fr}{a:Act}
theorem Cx.put(f:Cx p fr a){d:Option Nat}{v:V}{v':Value}(i:Ae p v v'){fr':Fr}(b:fr.put d v=some fr'):Cx p fr' (a.put d v'):=by
 unfold Fr.put at b;cases d with
 |none=>cases b;exact f
 |some t=>
  simp only[Hu]at b;by_cases c:t<fr.n
  ·simp only[c,decide_true,we,zg]at b;subst b;refine⟨by simp[yo,f.1],fun s=>?_⟩;have g:t<a.tmps.size:=f.1▸c;by_cases e:s=t
   ·simp_all [Fr.get,yo]
   ·have:=f.2 s;simp only[Fr.get,PM.Dv,wc e,yo]at this ⊢;rw[zk,z8 ae, <-zk];omega
  grind
theorem Cx.mono(b:Cx p fr a){p':Pl}(hp:∃q,p'=p++q):Cx p' fr a:=by
 obtain⟨q,rfl⟩:=hp;exact⟨b.1,fun t=>(b.2 t).mono q⟩
theorem Cx.ext(b:Cx p fr a){p':Pl}{h':H}{w':World}(e:Ext p h w p' h' w'):Cx p' fr a:=b.mono e.pre
theorem AaR{p:Pl}{v:V}{b:Bool}(c:Ae p v (.bool b)):v=.bool b:=by
 cases v<;>simp only[Ae]at c<;>first|(cases c;rfl)|(simp at c;done)|(done)|(done)|(done)|(done)|(done)
theorem R5(k:Cx p fr a)(ops:Array Oper)(o:Oper):zy o (yielded ops a.tmps)=Bb fr ops o:=by
 unfold zy Bb;cases q:o.guard with
 |none=>rfl
 |some r=>
  obtain⟨j,f⟩:=r;simp only;unfold yielded;cases s:(ops[j]?).bind (·.dst)with
  |none=>simp
  |some t=>
   simp only[Option.bind_some,Hu];by_cases c:t<fr.n
   ·have i:t<a.tmps.size:=k.1▸c;have g:=k.2 t;simp only[c,decide_true,we];have e:a.tmps[t]?=some (a.tmps.getD t undef):=by simp[i]
    rw[e];cases d:a.tmps.getD t undef with
    |bool b=>
     rw[d]at g;have:=AaR g;grind
    |_=>
     rw[d]at g;cases l:fr.get t with
     |bool b=>rw[l]at g;simp[Ae]at g
     |_=>cases f<;>rfl
   ·have:a.tmps[t]?=none:=Array.getElem?_eq_none<|Nat.le_of_not_lt<|k.1▸c;grind
def G1(p:Pl)(h:H)(w:World)(l:List (V×H))(e:Ending)(w':World):Prop:=
 ∃v h' v' p',(v,h')∈l/\e=.returned v'/\Ae p' v v'/\Ext p h w p' h' w'
structure Dw.Ok(C:Ctx)(P:Program)(call:Dw):Prop where
 fn:∀f args h l,call (.fn f args) h=some l->∀(p:Pl) (w:World) (args':Array Value),R p h w->Gl C p->Aw p args args'.toList->Calls P f args' w (G1 p h w l)
 rnd:∀b ls fr h l,call (.rnd b ls fr) h=some l->∀(p:Pl) (w:World) (k n:Nat) (f:FuncId) (tmps:Array Value),R p h w->Gl C p->h.get b=some (.loop ls)->p[b]?=some (k,n)->EE p fr tmps->
  RoundIn ya 0 P k f tmps ls.asg ls.body w (G1 p h w l)
theorem HG{o:Oper}{r:OR}(b:G0 C fr h o=some r):∀c,o.op≠ .defer c:=by
 grind [C1,G2]
theorem FZ{o:Oper}{r:OR}(b:IN C fr h o=some r):∀c,o.op≠ .defer c:=by
 grind [IN,HG]
theorem TE{p':Pl}{l:List (V×H)}{r:List (Fr×H)}{d:Option Nat}(hp:HM fr d l=some r)(g:Cx p fr a){K:Act->World->Prop}
  (i:∀x∈r,∀p' b w',Cx p' x.1 b->Ext p h w p' x.2 w'->b.defers=a.defers->K b w') {v:V} {h':H} {v':Value} {w':World} (j:(v,h')∈l) (k:Ae p' v v') (c:Ext p h w p' h' w'):K (a.put d v') w':=by
 obtain⟨f,e,n⟩:=PD hp v h' j;exact i _ n p' _ w' ((g.ext c).put k e) c (by cases d<;>rfl)
theorem eZ(B:C.Ok P){call:Dw}(q:call.Ok C P)(hr:R p h w)(y:Gl C p)(j:Cx p fr a){ops:Array Oper}{i:Nat}{o:Oper}(O:ops[i]?=some o){l:List (Fr×H)}
  (d:step1 C call ops o fr h=some l) {ro:Option Nat} {n:Nat} {Q:Exit->Act->World->Prop} {K:Act->World->Prop}
  (z:∀x∈l,∀p' E w',Cx p' x.1 E->Ext p h w p' x.2 w'->E.defers=a.defers->K E w'):wpOpIn (FW ro) n P ops Q i K a w:=by
 have u:∀v,(a.put o.dst v).defers=a.defers:=by intro v;cases o.dst<;>rfl
 unfold step1 at d;unfold wpOpIn;simp only[O];rw[R5 j];cases L:Bb fr ops o with
 |false=>
  simp only[L,wg]at d;refine⟨fun _ _=>trivial,?_⟩;split at d
  case h_2=>cases d
  rename_i D hp;cases d;exact z _ (zn.2 rfl) p _ w (j.put (by simp[Ae,undef]) hp) (zq hr)<|u _
 |true=>
  simp only[L,we]at d;refine⟨fun _ _=>trivial,?_⟩;split at d
  case h_6=>cases d
  case h_1=>
   rename_i v M c;split at d
   case h_2=>cases d
   rename_i D hp;cases d;obtain⟨v',p',w',s,t,r⟩:=Mi B hr y j c;rw[zl _ _ _<|FZ c,s,zr];exact z _ (zn.2 rfl) p' _ w' ((j.ext r).put t hp) r<|u _
  case h_2=>
   rename_i M c;split at d
   case h_2=>cases d
   rename_i D hp;cases d;obtain⟨p',w',s,r⟩:=Mi B hr y j c;rw[zl _ _ _<|FZ c,s,Oper.uponIn_skip];exact z _ (zn.2 rfl) p' _ w' ((j.ext r).put (by simp[Ae,undef]) hp) r<|u _
  case h_3=>
   rename_i f args c;split at d
   case h_2=>cases d
   rename_i l1 G;obtain⟨args',s,t⟩:=Mi B hr y j c;rw[zl _ _ _<|FZ c,s,Oper.uponIn_enter];refine⟨(by grind [FW,ya]),XV.2<|(q.fn f args h l1 G p w args' hr y t).mono ?_⟩;rintro e w' ⟨v,h',v',p',A,rfl,I,J⟩;exact TE d j z A I J
  case h_4=>
   rename_i b ls f c;split at d
   case h_2=>cases d
   rename_i l1 G;obtain⟨k,m,g,tmps,s,t,r,N⟩:=Mi B hr y j c;rw[zl _ _ _<|FZ c,r,Oper.uponIn_round];refine⟨(by grind [FW,ya]),(Adu<|q.rnd b ls f h l1 G p w k m g tmps hr y t s N).mono ?_⟩;rintro e w' ⟨v,h',v',p',A,rfl,I,J⟩;exact TE d j z A I J
  case h_5=>
   rename_i l1 c;obtain⟨v,h',v',p',w',A,s,t,r⟩:=Mi B hr y j c;rw[zl _ _ _<|FZ c,s,zr];exact TE d j z A t r
theorem Xf(z:C.Ok P){call:Dw}(b:call.Ok C P){ops:Array Oper}{ro:Option Nat}{n:Nat}{Q:Exit->Act->World->Prop}:
  ∀(l:List Oper) (k:Nat),(∀j,l[j]?=ops[k+j]?)->∀ {p:Pl} {h:H} {w:World} {fr:Fr} {a:Act},R p h w->Gl C p->Cx p fr a->∀ {L:List (Fr×H)},UX C call ops l fr h=some L->
  (∀x∈L,∀p' e w',Cx p' x.1 e->Ext p h w p' x.2 w'->e.defers=a.defers->Q .normal e w')->wpOpsIn (FW ro) n P ops Q (List.range' k l.length) a w
 |[],k,_,p,h,w,fr,a,hr,s,f,L,d,r=>by
  cases d;exact r _ (zn.2 rfl) p a w f (zq hr) rfl
 |o::l,k,t,p,h,w,fr,a,hr,s,f,L,d,r=>by
  unfold UX at d;split at d
  case h_2=>cases d
  rename_i l1 G;refine eZ z b hr s f (by simpa using(t 0).symm) G (K:=wpOpsIn (FW ro) n P ops Q<|List.range' (k+1) l.length) fun x I N a1 O i c u=>?_
  obtain⟨L1,M,J⟩:=IM d x I;exact Xf z b l (k+1) (fun j=>by have:=t<|j+1;grind) c.rel (s.ext c) i M
   fun y B D a2 E q g A=>r y (J y B) D a2 E q (c.trans g) ah
theorem YP(e:C.Ok P){call:Dw}(b:call.Ok C P){ops:Array Oper}{ro:Option Nat}{n:Nat}{Q:Exit->Act->World->Prop}(hr:R p h w)(g:Gl C p)(i:Cx p fr a){L:List (Fr×H)}
  (d:UX C call ops ops.toList fr h=some L) {id:Nat}
  (f:∀x∈L,∀p' c w',Cx p' x.1 c->Ext p h w p' x.2 w'->c.defers=a.defers->Q .normal c w'):(Code.region id ops false).wpIn (FW ro) n P Q a w:=by
 refine wpIn_region ?_;have:=Xf (Q:=Q) (ro:=ro) (n:=n) e b ops.toList 0 (by simp) hr g i d f;grind [List.range_eq_range']
end
theorem M5{C:Ctx}{fr fr':Fr}:∀ {b:List Operand},(∀x∈b,ev C fr x=ev C fr' x)->Wo C fr b=Wo C fr' b
 |[],_=>rfl
 |x::b,h=>by
  unfold Wo;rw[h x (by simp),M5<|fun y c=>h y<|by simp[c]]
theorem Jz{C:Ctx}{fr fr':Fr}:∀ {b:List (Nat×Operand)},(∀x∈b,ev C fr x.2=ev C fr' x.2)->YD C fr b=YD C fr' b
 |[],_=>rfl
 |(i,x)::b,h=>by
  unfold YD;rw[h (i,x) (by simp),Jz<|fun y c=>h y<|by simp[c]]
theorem R6{C:Ctx}{fr fr':Fr}{x:Option Operand}(h:∀y,x=some y->ev C fr y=ev C fr' y):Xj C fr x=Xj C fr' x:=by
 cases x with
 |none=>rfl
 |some y=>simp[Xj,h y rfl]
theorem eT{C:Ctx}{fr fr':Fr}{h:H}{o:Oper}(d:∀x∈o.op.operands,ev C fr x=ev C fr' x):G0 C fr h o=G0 C fr' h o:=by
 obtain⟨dst,op,b,pos,after,guard⟩:=o;cases op<;>simp only[yi]at d<;>simp only[C1,G2]
 case build t ps=>grind [Jz]
 case buildSlice t n ps=>grind [Jz]
 case makeFunc f first captured=>grind [M5]
 case makeMap t r=>grind [R6]
 case slice t x e g mx=>
  grind [R6]
 case call c=>
  grind [M5,Call.operands]
 all_goals (first|rfl|(simp_all;done))
def reads(ops:Array Oper)(o:Oper):List Tmp:=o.looksAt ops
theorem AaI{C:Ctx}{fr fr':Fr}{x:Operand}(h:∀t,x=.tmp t->fr.get t=fr'.get t):ev C fr x=ev C fr' x:=by
 cases x with
 |tmp t=>simp only[ev,h t rfl]
 |_=>rfl
theorem mem_reads{ops:Array Oper}{o:Oper}{t:Tmp}(h:Operand.tmp t∈o.op.operands):t∈reads ops o:=
 List.mem_append_left _ (List.mem_filterMap.2 ⟨.tmp t,by grind,rfl⟩)
theorem Te{fr fr':Fr}{ops:Array Oper}{o:Oper}(c:fr.n=fr'.n)(h:∀t∈reads ops o,fr.get t=fr'.get t):Bb fr ops o=Bb fr' ops o:=by
 unfold Bb;cases f:o.guard with
 |none=>rfl
 |some d=>
  obtain⟨j,b⟩:=d;simp only;cases e:(ops[j]?).bind (·.dst)with
  |none=>rfl
  |some t=>
   simp only[c];rw[h t<|List.mem_append_right _ ah]
def R3(l:List Tmp)(fr:Fr):Fr:=⟨fr.n,l.foldr (fun t m=>m.set t<|some<|fr.get t) .leaf⟩
def Pu(l:List Tmp)(a:Act):Act:={ a with tmps:=Array.ofFn (n:=a.tmps.size) fun t=>if l.contains t.1 then a.tmps.getD t undef else undef }
theorem Nj(l:List Tmp)(fr:Fr)(t:Tmp):(R3 l fr).get t=if t∈l then fr.get t else .tup []:=by
 unfold R3 Fr.get;induction l with
 |nil=>simp
 |cons x l b=>
  simp only[List.foldr_cons,PM.Dv,ym];grind
theorem Sz(l:List Tmp)(a:Act)(t:Tmp):(Pu l a).tmps.getD t undef=if t∈l then a.tmps.getD t undef else undef:=by
 unfold Pu;by_cases h:t<a.tmps.size
 ·simp[h]
 simp_all
section
variable {C:Ctx}{P:Program}{p:Pl}{h:H}{w:World}{fr:Fr}{a:Act}
structure FOn(p:Pl)(fr:Fr)(a:Act)(l:List Tmp):Prop where
 n:fr.n=a.tmps.size
 get:∀t∈l,Ae p (fr.get t) (a.tmps.getD t undef)
theorem FOn.Q5{l:List Tmp}(c:FOn p fr a l):Cx p (R3 l fr) (Pu l a):=by
 refine⟨by simp[R3,Pu,c.n],fun t=>?_⟩;rw[Nj,Sz];by_cases b:t∈l
 ·simp only[b,wm];exact c.get t b
 simp_all [Ae,undef]
theorem MQ{ops:Array Oper}{o:Oper}{x:Operand}(b:x∈o.op.operands):(Pu (reads ops o) a).eval x=a.eval x:=by
 cases x with
 |tmp t=>
  have:=Sz (reads ops o) a t;rw[wd<|mem_reads b]at this;exact this
 |_=>rfl
theorem SQ{ops:Array Oper}{o:Oper}{x:Operand}(c:x∈o.op.operands):ev C (R3 (reads ops o) fr) x=ev C fr x:=by
 refine AaI fun t b=>?_
 simp_all [Nj,mem_reads]
theorem Jy(c:C.Ok P)(hr:R p h w)(d:Gl C p){ops:Array Oper}{o:Oper}(e:FOn p fr a (reads ops o))(i:∀cs b,o.op≠ .select cs b){r:OR}(f:G0 C fr h o=some r):
  RE p h w r ((execOp a.eval o).run P w):=by
 have g:=iZ c hr d e.Q5 (o:=o) (r:=r) (by grind [eT,SQ]);grind [execOp_congr,MQ]
theorem SD{ops:Array Oper}{o:Oper}(d:FOn p fr a (reads ops o)):zy o (yielded ops a.tmps)=Bb fr ops o:=by
 have b:=R5 d.Q5 ops o;rw[Te (fr:=R3 (reads ops o) fr) (fr':=fr) (ops:=ops) (o:=o) rfl (by simp_all [Nj])]at b;rw[<-b];unfold zy;cases i:o.guard with
 |none=>rfl
 |some e=>
  obtain⟨j,c⟩:=e;simp only;unfold yielded;cases k:(ops[j]?).bind (·.dst)with
  |none=>rfl
  |some t=>
   have g:t∈reads ops o:=List.mem_append_right _ ah;by_cases f:t<a.tmps.size
   ·simp_all [Pu]
   simp_all [Pu]
end
def Ez(o:Oper):Bool:=
 match o.op with
 | .move _| .assign _| .pick .. | .build .. | .load .. | .nilCheck _| .binOp .. | .unOp .. | .convert .. | .makeInterface .. | .makeFunc .. | .slice .. | .fieldAddr .. | .field .. | .indexAddr .. | .index .. | .lookup .. | .extract .. =>true
 | .call { callee:=.builtin .len,.. }| .call { callee:=.builtin .max,.. }| .call { callee:=.builtin .min,.. }| .call { callee:=.builtin .unsafeSliceData,.. }=>true
 |_=>false
def Rj(o:Oper):Bool:=
 match o.op with
 | .load .. | .convert .. | .lookup .. =>true
 | .call { callee:=.builtin .len,.. }=>true
 |_=>false
def CJ(o:Oper):Bool:=
 match o.op with
 | .alloc _| .box .. | .buildSlice .. =>true
 |_=>false
theorem GP{h:H}{v:Option V}{r:OR}(b:BD h v=some r):∃x,v=some x/\r=.val x h:=by
 cases v with
 |none=>cases b
 |some x=>cases b;simp
theorem rd_val{C:Ctx}{fr:Fr}{h:H}{o:Oper}(e:Ez o=true){r:OR}(d:G0 C fr h o=some r):∃v,r=.val v h:=by
 obtain⟨dst,op,g,pos,after,guard⟩:=o;cases op<;>simp only[Ez]at e<;>simp only[C1,G2]at d<;>try (cases e;done)
 case call c=>
  obtain⟨callee,args,ts⟩:=c;cases callee with
  |builtin b=>
   cases i:Wo C fr args.toList with
   |none=>grind
   |some j=>
    simp only[i]at d;cases b<;>first|(cases e;done)|(obtain⟨x,_,rfl⟩:=GP d;simp)
  |value f=>cases e
  |invoke=>cases e
 all_goals
  repeat' split at d
  all_goals first
   |(cases d;done)
   |(obtain⟨x,_,rfl⟩:=GP d;exact⟨x,rfl⟩)
theorem tN{C:Ctx}{fr:Fr}{h:H}{o:Oper}(g:Ez o=true)(l:Rj o=false){v:V}(d:G0 C fr h o=some (.val v h))(h':H):G0 C fr h' o=some (.val v h'):=by
 have key:∀ {x:Option V},BD h x=some (.val v h)->BD h' x=some (.val v h'):=by
  intro x j;obtain⟨y,rfl,e⟩:=GP j;cases e;rfl
 obtain⟨dst,op,i,pos,after,guard⟩:=o;cases op<;>simp only[Ez]at g<;>simp only[Rj]at l<;>simp only[C1,G2]at d ⊢<;>try (first|(done)|(done))
 case call c=>
  obtain⟨callee,args,ts⟩:=c;cases callee with
  |builtin b=>
   cases n:Wo C fr args.toList with
   |none=>grind
   |some k=>
    grind [E8]
  |value f=>cases g
  |invoke=>cases g
 all_goals
  repeat' split at d
  all_goals first
   |(done)
   |exact key d
   |grind
section
variable {C:Ctx}{P:Program}{p:Pl}{h:H}{w:World}{fr:Fr}{a:Act}
def XQ(T:B6)(t:TypeId)(len:Nat)(b:List (Nat×V)):Option (List V×TypeId):=
 match T.und t with
 |some (.slice e)=>match T.inf e with
  |some i=>
   bif z7 (len*i.size) 16777216&&zh 0 (i.zero.length)&&zo i.zero.length i.size then
    (Jk (fun k=>some (k*i.size,i.size)) (FA i.zero<|len*i.size) b).map fun cs=>(cs,e)
   else none
  |none=>none
 |_=>none
def uW(C:Ctx)(fr:Fr)(o:Oper):Option (O×(Nat->V)):=
 match o.op with
 | .alloc t=>match C.T.inf t with
  |some i=>some (.cells i.zero t (0,0),fun b=>.ptr b 0)
  |none=>none
 | .box t x=>match ev C fr x with
  |some v=>some (.cells v.cells t (0,0),fun b=>.ptr b 0)
  |none=>none
 | .buildSlice t n c=>match YD C fr c.toList with
  |some ps=>match XQ C.T t n ps with
   |some (cs,e)=>some (.cells cs e (0,0),fun b=>.sl b 0 n n 0)
   |none=>none
  |none=>none
 |_=>none
theorem Ac2(A:C.Ok P)(M:Gl C p){ops:Array Oper}{o:Oper}(J:FOn p fr a (reads ops o)){ob:O}{f:Nat->V}(l:uW C fr o=some (ob,f)):
  ∃x n v',(execOp a.eval o).run P w=.ok (.value v') { w with heap:=w.heap.push x }/\Li p n ob x/\∀(q:Pl) b,q[b]?=some (w.heap.size,n)->Ae q (f b) v':=by
 have E:=J.Q5;have d:∀(t:TypeId) (cs:List V) (c:Array Value),Aw p cs c.toList->Li p c.size (.cells cs t (0,0)) (.cells c t):=by
  intro t cs c u;refine⟨c,(0,0),rfl,rfl,by have:=u.length;grind,?_,ae⟩;have:=u.length;rw[List.take_of_length_le ae];exact u.toC
 unfold uW at l;split at l
 case h_4=>cases l
 case h_1=>
  rename_i t D;split at l
  case h_2=>cases l
  rename_i i B;cases l;obtain⟨z,I,r⟩:=Er A.T B;refine⟨.cells z.cells t,_,.pointer<|some ⟨w.heap.size,0,none⟩,?_,d _ _ _<|r p,(by simp_all [Ae])⟩;simp_all [execOp,Instr.alloc,newVar,CI]
 case h_2=>
  rename_i t x D;split at l
  case h_2=>cases l
  rename_i v N;cases l;have u:Ae p v (a.eval x):=by
   have:=A6 (C:=C) M E (x:=x) (v:=v) (by grind [SQ,yi]);grind [MQ,yi]
  refine⟨.cells (a.eval x).cells t,_,.pointer<|some ⟨w.heap.size,0,none⟩,?_,d _ _ _ u.cells,(by simp_all [Ae])⟩;simp_all [execOp,Instr.box,newVar,CI]
 case h_3=>
  rename_i t len s D;split at l
  case h_2=>cases l
  rename_i ps K;split at l
  case h_2=>cases l
  rename_i cs e j;cases l;have hp:W8 p ps (s.map fun(i,x)=>(i,a.eval x)).toList:=by
   grind [OF,Jz,SQ,yi,Array.toList_map,List.map_congr_left,MQ]
  unfold XQ at j;split at j
  case h_2=>cases j
  rename_i L G;split at j
  case h_2=>cases j
  rename_i i B;cases g:(z7 (len*i.size) 16777216&&zh 0 (i.zero.length)&&zo i.zero.length i.size)with
  |false=>grind
  |true=>
   simp only[g,we,zi,yk]at j;obtain⟨cs',y,rfl,rfl⟩:=j;simp only[ze,yn,zt,Bn,w5]at g;obtain⟨⟨c1,c2⟩,c3⟩:=g;obtain⟨z,I,r⟩:=Er A.T B;obtain⟨oo,h1,h2⟩:=LQ (p:=p) (place:=fun k=>some (k*i.size,i.size)) hp (JB (r p) c2<|len*i.size) y;refine⟨.cells oo L,_,.slice (some ⟨w.heap.size,0,none⟩) len len,?_,d _ _ _ h2,(by simp_all [Ae])⟩;unfold execOp;simp only[D];unfold Instr.buildSlice;simp only[zf,AA A.T G,zd,Bw A.T B];by_cases h0:len*i.size=0
   ·grind [zf,zp,zd,CI]
   simp_all [CI]
theorem Ext.mF{k p:Pl}{u h:H}{i w:World}(j:Ext k u i p h w){r n:Nat}{o:O}{x:Obj}(Y:w.heap[r]?=some x)(Z:Li p n o x)(hi:¬Im p h r)(R:i.heap.size<=r):
  Ext k u i (p++[(r,n)]) (h.push o) w:=by
 have hr:=j.rel;have B:(p++[(r,n)])[h.nx]?=some (r,n):=by rw[<-hr.len];simp
 have g:∀b,b<h.nx->(p++[(r,n)])[b]?=p[b]?:=ah;have d:∀c f,(h.push o).get c=some f->(c=h.nx/\f=o)\/(c<h.nx/\h.get c=some f):=by
  intro c f l;rw[H.CE]at l;by_cases e:c=h.nx
  ·grind
  ·rw[wc e]at l;exact .inr ⟨hr.lt l,l⟩
 refine⟨?_,⟨by simp[hr.len],fun c f l=>?_,fun c M f G s m X l L h1 Q=>?_⟩,j.size,j.same,fun s K=>?_,j.os,j.out,j.tape,fun s K U=>?_,j.dr⟩
 ·obtain⟨q,rfl⟩:=j.pre;simp
 ·rcases d c f l with⟨rfl,rfl⟩|⟨D,E⟩
  ·exact⟨r,n,x,B,Y,Z.mono _⟩
  ·obtain⟨s,m,y,A,z,I⟩:=hr.obj c f E;exact⟨s,m,y,by grind,z,I.mono _⟩
 ·rcases d c f l with⟨rfl,rfl⟩|⟨D,E⟩<;>rcases d M G L with⟨rfl,rfl⟩|⟨N,J⟩
  ·rfl
  ·grind [Im]
  ·grind [Im]
  ·rw[g c D]at h1;rw[g M N]at Q;exact hr.inj c M f G s m X E J h1 Q
 ·obtain⟨c,f,m,A,z⟩:=K;rcases d c f A with⟨rfl,rfl⟩|⟨D,E⟩
  ·grind
  ·rw[g c D]at z;exact j.im s ⟨c,f,m,E,z⟩
 ·obtain⟨D,h1⟩:=j.lock s K U;refine⟨D,?_⟩;rcases h1 with⟨c,m,cs,t,fz,A,z,I⟩|h1
  ·have W:=hr.lt A;exact .inl ⟨c,m,cs,t,fz,by rw[H.CE,wc ae];exact A,by grind,I⟩
  ·refine .inr ?_;rintro⟨c,f,m,A,z⟩;rcases d c f A with⟨rfl,rfl⟩|⟨N,J⟩
   ·grind
   ·rw[g c N]at z;exact h1 ⟨c,f,m,J,z⟩
theorem Ext.aside{d p:Pl}{e h:H}{f w:World}(c:Ext d e f p h w)(x:Obj):Ext d e f p h { w with heap:=w.heap.push x }:=by
 have hr:=c.rel;refine⟨c.pre,⟨hr.len,fun b o q=>?_,hr.inj⟩,by have:=c.size;grind,fun r g l=>?_,c.im,c.os,c.out,c.tape,fun r g j=>?_,c.dr⟩
 ·obtain⟨r,n,y,i,k,s⟩:=hr.obj b o q;grind
 ·have i:=c.same r g l;grind
 ·obtain⟨i,k⟩:=c.lock r g j;grind
end
def D7(C:Ctx)(call:Dw)(fr:Fr)(h:H)(o:Oper):Option (V×H):=
 match G0 C fr h o with
 |some (.val v h')=>some (v,h')
 |some (.skip h')=>some (.tup [],h')
 |some (.enter f args)=>match call (.fn f args) h with
  |some [x]=>some x
  |_=>none
 |_=>none
def CQ(o:Oper):Bool:= !Ez o&& !CJ o
structure Stat(ops:Array Oper)(anc:Nat->Nat->Bool)(ord pos:Nat->Nat)(sc:Nat->Option Nat):Prop where
 sel:Region.noSelect ops=true
 ordp:∀q,q<ops.size->ord q<ops.size/\pos (ord q)=q
 posp:∀i,i<ops.size->pos i<ops.size/\ord (pos i)=i
 edge:∀j i,anc j i=true->∃(o:Oper) (e:Edge),ops[j]?=some o/\e∈o.after/\yb .any e=true/\(e.on=i\/anc e.on i=true)
 dir:∀(j:Nat) (o:Oper) (e:Edge),ops[j]?=some o->e∈o.after->yb .any e=true->anc j e.on=true/\e.on<ops.size
 apos:∀j i,anc j i=true->pos i<pos j
 s1:∀(i j:Nat) (o o':Oper),ops[i]?=some o->ops[j]?=some o'->CQ o=true->CQ o'=true->i≠j->anc i j=true\/anc j i=true
 s2:∀(i j:Nat) (o o':Oper),ops[i]?=some o->ops[j]?=some o'->CQ o=true->Ez o'=true->anc j i=true\/pos j<pos i
 q1:∀(i k:Nat),sc i=some k->∃(o ok:Oper) (t:Tmp),ops[i]?=some o/\ops[k]?=some ok/\(o.op=.assign (.tmp t)\/o.op=.move (.tmp t))/\o.guard=none/\CJ ok=true/\ok.dst=some t/\anc i k=true
 s3:∀(j k:Nat) (o o':Oper) (t:Tmp),ops[j]?=some o->ops[k]?=some o'->(CJ o=true\/(sc j).isSome=true)->CQ o'=false->o.dst=some t->t∈reads ops o'->anc k j=true->
  sc k=some j\/∃(i:Nat) (oi:Oper),ops[i]?=some oi/\CQ oi=true/\anc i j=true/\anc k i=true
 s4:∀(i j:Nat) (o o':Oper),ops[i]?=some o->ops[j]?=some o'->CQ o=true->CJ o'=true->anc i j=true\/pos i<pos j
 s5:∀(i j:Nat) (o o':Oper),ops[i]?=some o->ops[j]?=some o'->Ez o=true->Rj o=true->CJ o'=true->pos j<pos i->∃(k:Nat) (ok:Oper),ops[k]?=some ok/\CQ ok=true/\pos j<pos k/\pos k<pos i
 s6:∀(i j:Nat) (o o':Oper) (t:Tmp),ops[i]?=some o->ops[j]?=some o'->i≠j->o.dst=some t->o'.dst≠some t/\(t∈reads ops o'->anc j i=true\/anc i j=true)
structure Canon(C:Ctx)(call:Dw)(ops:Array Oper)(anc:Nat->Nat->Bool)(ord pos:Nat->Nat)(fr0:Fr)(h0:H)(v:Nat->V)(Hh:Nat->H)(F:Nat->Fr):Prop where
 h0:Hh 0=h0
 f0:F 0=fr0
 fn:∀q,q<=ops.size->(F q).n=fr0.n
 fget:∀q,q<ops.size->∀(o:Oper),ops[ord q]?=some o->∀t,(F (q+1)).get t=if o.dst=some t then v (ord q)else(F q).get t
 dst:∀(i:Nat) (o:Oper) (t:Tmp),ops[i]?=some o->o.dst=some t->t<fr0.n
 step:∀(i:Nat) (o:Oper),ops[i]?=some o->
  (Bb (F (pos i)) ops o=false/\v i=.tup []/\Hh (pos i+1)=Hh (pos i))\/
  (Bb (F (pos i)) ops o=true/\
   ((Ez o=true/\G0 C (F (pos i)) (Hh (pos i)) o=some (.val (v i) (Hh (pos i)))/\Hh (pos i+1)=Hh (pos i))\/
    (CJ o=true/\∃ob f,uW C (F (pos i)) o=some (ob,f)/\v i=f (Hh (pos i)).nx/\Hh (pos i+1)=(Hh (pos i)).push ob)\/
    (CQ o=true/\D7 C call (F (pos i)) (Hh (pos i)) o=some (v i,Hh (pos i+1)))))
 stable:∀(i j:Nat) (o oj:Oper),ops[i]?=some o->ops[j]?=some oj->CQ o=true->Ez oj=true->Rj oj=true->Bb (F (pos j)) ops oj=true->pos j<pos i->anc i j=false->
  G0 C (F (pos j)) (Hh (pos i+1)) oj=some (.val (v j) (Hh (pos i+1)))
theorem kinds(o:Oper):Ez o=true\/CJ o=true\/CQ o=true:=by
 grind [CQ]
theorem J1{o:Oper}(h:Ez o=true):CJ o=false:=by
 grind [Ez,CJ]
theorem S6{o:Oper}(h:CQ o=true):Ez o=false/\CJ o=false:=by
 grind [CQ]
section
variable {C:Ctx}{P:Program}{call:Dw}{ops:Array Oper}{anc:Nat->Nat->Bool}{ord pos:Nat->Nat}{sc:Nat->Option Nat}{fr0:Fr}{h0:H}{v:Nat->V}{Hh:Nat->H}{F:Nat->Fr}
theorem Fw(st:Stat ops anc ord pos sc)(j:Canon C call ops anc ord pos fr0 h0 v Hh F){k:Nat}{o:Oper}{t:Tmp}(f:ops[k]?=some o)(i:o.dst=some t):
  ∀q,q<=ops.size->pos k<q->(F q).get t=v k
 |0,_,h=>by omega
 |q+1,n,h=>by
  have b:q<ops.size:=ae
  obtain⟨g,r⟩:=st.ordp q b;rw[j.fget q b (ops[ord q]) (by simp[g]) t];have c:=(zc.1 f).1;by_cases e:pos k=q
  ·have l:ord q=k:=by rw[<-e];exact(st.posp k c).2
   grind
  ·have d:ord q≠k:=ah;have:=(st.s6 k (ord q) o (ops[ord q]) t f (by simp[g]) (Ne.symm d) i).1;rw[wc this];exact Fw st j f i q ae ae
theorem Fz(st:Stat ops anc ord pos sc)(c:Canon C call ops anc ord pos fr0 h0 v Hh F){t:Tmp}:
  ∀q,q<=ops.size->(∀k o,ops[k]?=some o->o.dst=some t->¬pos k<q)->(F q).get t=fr0.get t
 |0,_,_=>by rw[c.f0]
 |q+1,e,h=>by
  have b:q<ops.size:=ae
  obtain⟨d,f⟩:=st.ordp q b;rw[c.fget q b (ops[ord q]) (by simp[d]) t,wc]
  ·exact Fz st c q ae ah
  grind
theorem AdL(st:Stat ops anc ord pos sc)(d:Canon C call ops anc ord pos fr0 h0 v Hh F){i k:Nat}(h:sc i=some k):v i=v k:=by
 obtain⟨o,ok,t,c,e,n,l,q,j,f⟩:=st.q1 i k h;have b:=(zc.1 c).1;have s:=Fw st d e j (pos i) (Nat.le_of_lt (st.posp i b).1)<|st.apos i k f;have r:Bb (F<|pos i) ops o=true:=by unfold Bb;rw[l]
 have g:Ez o=true:=by grind [Ez]
 rcases d.step i o c with⟨u,_⟩|⟨_,⟨_,u,_⟩|⟨u,_⟩|⟨u,_⟩⟩
 ·grind
 ·grind [C1,G2,ev,BD]
 ·grind [J1]
 grind [S6]
structure Inv(C:Ctx)(ops:Array Oper)(pos:Nat->Nat)(sc:Nat->Option Nat)(fr0:Fr)(v:Nat->V)(Hh:Nat->H)(F:Nat->Fr)(p0:Pl)(h0:H)(w0:World)(df:List Deferred)
  (S:Nat->Prop) (m:Nat) (fl:Nat->Nat) (p:Pl) (a:Act) (w:World):Prop where
 ext:Ext p0 h0 w0 p (Hh m) w
 gl:Gl C p
 mn:m<=ops.size
 mh:∀(k:Nat) (o:Oper),ops[k]?=some o->CQ o=true->(S k↔pos k<m)
 ma:∀(k:Nat) (o:Oper),ops[k]?=some o->CJ o=true->pos k<m->S k
 sz:a.tmps.size=fr0.n
 df:a.defers=df
 slot:∀t,(∀(i:Nat) (o:Oper),S i->ops[i]?=some o->o.dst≠some t)->Ae p (fr0.get t) (a.tmps.getD t undef)
 slotw:∀(i:Nat) (o:Oper) (t:Tmp),S i->ops[i]?=some o->o.dst=some t->((CJ o=true\/(sc i).isSome=true)->Bb (F (pos i)) ops o=true->pos i<m)->Ae p (v i) (a.tmps.getD t undef)
 flt:∀(i:Nat) (o:Oper),S i->ops[i]?=some o->CJ o=true->Bb (F (pos i)) ops o=true->m<=pos i->
  ∃n x ob f v',uW C (F (pos i)) o=some (ob,f)/\w.heap[fl i]?=some x/\w0.heap.size<=fl i/\¬Im p (Hh m) (fl i)/\Li p n ob x/\
   (∀(q:Pl) b,q[b]?=some (fl i,n)->Ae q (f b) v')/\(∀t,o.dst=some t->a.tmps.getD t undef=v')
 inj:∀(i j:Nat) (o o':Oper),S i->S j->ops[i]?=some o->ops[j]?=some o'->CJ o=true->CJ o'=true->Bb (F (pos i)) ops o=true->Bb (F (pos j)) ops o'=true->
  m<=pos i->m<=pos j->fl i=fl j->i=j
structure M6(ops:Array Oper)(pos:Nat->Nat)(sc:Nat->Option Nat)(S:Nat->Prop)(m:Nat)(a:Act):Prop where
 eq:∀(i k:Nat) (o ok:Oper) (t tk:Tmp),S i->ops[i]?=some o->sc i=some k->ops[k]?=some ok->o.dst=some t->ok.dst=some tk->m<=pos i->a.tmps.getD t undef=a.tmps.getD tk undef/\S k
theorem Inv.adv(st:Stat ops anc ord pos sc)(cn:Canon C call ops anc ord pos fr0 h0 v Hh F){p0:Pl}{w0:World}{df:List Deferred}{S:Nat->Prop}{fl:Nat->Nat}{a:Act}{w:World}:
  ∀(d m:Nat) {p:Pl},Inv C ops pos sc fr0 v Hh F p0 h0 w0 df S m fl p a w->M6 ops pos sc S m a->m+d<=ops.size->
  (∀q,m<=q->q<m+d->∀(o:Oper),ops[ord q]?=some o->CQ o=false/\(CJ o=true->S (ord q)))->
  ∃p',Inv C ops pos sc fr0 v Hh F p0 h0 w0 df S (m+d) fl p' a w
 |0,m,p,g,_,_,_=>⟨p,g⟩
 |d+1,m,p,g,O,hn,hq=>by
  have hm:m<ops.size:=ae
  obtain⟨g1,g2⟩:=st.ordp m hm;obtain⟨R,hj⟩:∃R,ops[ord m]?=some R:=(by simp_all);obtain⟨q1,q2⟩:=hq m ae ae _ hj;have one:∃p',Inv C ops pos sc fr0 v Hh F p0 h0 w0 df S (m+1) fl p' a w:=by
   have Q:∀(k:Nat) (o:Oper),ops[k]?=some o->CQ o=true->(S k↔pos k<m+1):=by
    intro k o u hv;rw[g.mh k o u hv];constructor
    ·omega
    ·intro h;by_cases e:pos k=m
     ·have A:=(zc.1 u).1;have I:ord m=k:=by rw[<-e];exact(st.posp k A).2
      grind
     ·omega
   have N:∀(k:Nat) (o:Oper),ops[k]?=some o->CJ o=true->pos k<m+1->S k:=by
    intro k o u M hlt;by_cases e:pos k=m
    ·have A:=(zc.1 u).1;have I:ord m=k:=by rw[<-e];exact(st.posp k A).2
     grind
    ·exact g.ma k o u M ae
   have same:Hh (m+1)=Hh m->(CJ R=true->Bb (F<|pos<|ord m) ops R=false)->(Bb (F<|pos<|ord m) ops R=false->v (ord m)=.tup [])->
     Inv C ops pos sc fr0 v Hh F p0 h0 w0 df S (m+1) fl p a w:=by
    intro hh M _;refine⟨by rw[hh];exact g.ext,g.gl,by omega,Q,N,g.sz,g.df,g.slot,fun i o t l c J hc=>?_,fun i o l c s r y=>?_,fun i j o o' l D c z s G r B y L he=>?_⟩
    ·by_cases hcp:(sc i).isSome=true/\pos i=m
     ·obtain⟨k,u⟩:=ye.1 hcp.1;obtain⟨o2,ok,tk,h1,h2,h3,h4,h5,h6,h7⟩:=st.q1 i k u;obtain⟨e1,I⟩:=O.eq i k o ok t tk l c u h2 J h6 ae;rw[AdL st cn u,e1];have:=st.apos _ _ h7;exact g.slotw k ok tk I h2 h6 ae
     ·refine g.slotw i o t l c J fun s r=>?_
      have h1:=hc s r;by_cases e:pos i=m
      ·have E:=(zc.1 c).1;have I:ord m=i:=by rw[<-e];exact(st.posp i E).2
       grind
      ·omega
    ·obtain⟨n,x,ob,f,v',W,k2,Z,k4,k5⟩:=g.flt i o l c s r ae;exact⟨n,x,ob,f,v',W,k2,Z,by grind,k5⟩
    ·exact g.inj i j o o' l D c z s G r B ae ae he
   rcases cn.step (ord m) _ hj with⟨u1,u2,U⟩|⟨u1,⟨u2,U,u4⟩|⟨u2,ob,f,U,u4,Y⟩|⟨u2,U⟩⟩
   ·grind
   ·grind [J1]
   ·
    obtain⟨n,x,K,f',v',W,k2,Z,k4,k5,k6,k7⟩:=g.flt (ord m) _ (q2 u2) hj u2 u1 ae;rw[U]at W;cases W;rw[g2]at u4 Y;have hx:=g.ext.mF k2 k5 k4 Z;rw[<-Y]at hx;have hnew:(p++[(fl<|ord m,n)])[(Hh m).nx]?=some (fl<|ord m,n):=by rw[<-g.ext.rel.len];simp
    refine⟨p++[(fl<|ord m,n)],hx,?_,by omega,Q,N,g.sz,g.df,fun t J=>(g.slot t J).mono _,fun i o t l c J hc=>?_,fun i o l c s r y=>?_,fun i j o o' l D c z s G r B y L he=>?_⟩
    ·exact Gp.app g.gl _
    ·by_cases e:i=ord m
     ·grind
     ·refine(g.slotw i o t l c J fun s r=>?_).mono _;have h1:=hc s r;have E:=(zc.1 c).1;have:pos i≠m:=fun I=>e (by rw[<-I];exact(st.posp i E).2.symm)
      omega
    ·obtain⟨n',x',K,f',v'',l1,l2,l3,l4,l5,l6,l7⟩:=g.flt i o l c s r ae;refine⟨n',x',K,f',v'',l1,l2,l3,?_,l5.mono _,l6,l7⟩;rintro⟨b,ob2,n2,X,m2⟩;rw[Y,H.CE]at X;by_cases e:b=(Hh m).nx
     ·have:fl (ord m)=fl i:=ah;have:=g.inj (ord m) i _ o (q2 u2) l hj c u2 s u1 r ae ae this;grind
     ·rw[wc e]at X;have hb:=g.ext.rel.lt X;rw[List.getElem?_append_left ah]at m2;exact l4 ⟨b,ob2,n2,X,m2⟩
    ·exact g.inj i j o o' l D c z s G r B ae ae he
   grind
  obtain⟨p',c⟩:=one;obtain⟨p'',hi''⟩:=Inv.adv st cn d (m+1) c ⟨fun i k o ok t tk g1 g2 g3 g4 g5 g6 g7=>O.eq i k o ok t tk g1 g2 g3 g4 g5 g6 ae⟩ ae ah;grind
end
section
variable {C:Ctx}{P:Program}{call:Dw}{ops:Array Oper}{anc:Nat->Nat->Bool}{ord pos:Nat->Nat}{sc:Nat->Option Nat}{fr0:Fr}{h0:H}{v:Nat->V}{Hh:Nat->H}{F:Nat->Fr}
 {p0:Pl} {w0:World} {df:List Deferred} {S:Nat->Prop} {m:Nat} {fl:Nat->Nat} {p:Pl} {a:Act} {w:World}
structure RY(anc:Nat->Nat->Bool)(S:Nat->Prop)(i:Nat):Prop where
 fresh:¬S i
 all:∀k,anc i k=true->S k
def Down(anc:Nat->Nat->Bool)(S:Nat->Prop):Prop:=∀i k,S i->anc i k=true->S k
theorem operands(st:Stat ops anc ord pos sc)(n:Canon C call ops anc ord pos fr0 h0 v Hh F)(q:Inv C ops pos sc fr0 v Hh F p0 h0 w0 df S m fl p a w)(y:Down anc S){i:Nat}{o:Oper}(u:ops[i]?=some o)(hr:RY anc S i)
  (z:∀(k:Nat) (ok:Oper) (t:Tmp),ops[k]?=some ok->(CJ ok=true\/(sc k).isSome=true)->ok.dst=some t->t∈reads ops o->anc i k=true->pos k<m):FOn p (F<|pos i) a (reads ops o):=by
 have s:=(zc.1 u).1;have B:=(st.posp i s).1;refine⟨by rw[n.fn _ ae,q.sz],fun t A=>?_⟩;by_cases D:∃(k:Nat) (ok:Oper),k≠i/\ops[k]?=some ok/\ok.dst=some t
 ·obtain⟨k,ok,r,l,c⟩:=D;rcases(st.s6 k i ok o t l u r c).2 A with h1|h1
  ·have g:=hr.all k h1;rw[Fw st n l c (pos i) ae<|st.apos i k h1];exact q.slotw k ok t g l c ah
  ·have g:¬S k:=fun h=>hr.fresh<|y k i h h1
   have d:∀(j:Nat) (oj:Oper),ops[j]?=some oj->oj.dst=some t->j=k:=by
    intro j oj f b;by_cases e:j=k
    ·exact e
    ·exact wh b (st.s6 k j ok oj t l f ae c).1
   rw[Fz st n (pos i) ae fun j oj f b E=>by
    have:=d j oj f b;subst this;have:=st.apos _ _ h1;omega]
   refine q.slot t fun j oj x f b=>?_
   grind
 ·have d:∀(j:Nat) (oj:Oper),ops[j]?=some oj->oj.dst=some t->j=i:=by
   grind
  rw[Fz st n (pos i) ae ah];refine q.slot t fun j oj x f b=>?_
  have:=d j oj f b;subst this;exact hr.fresh x
def Rest(ops:Array Oper)(pos:Nat->Nat)(S:Nat->Prop)(m:Nat):Prop:=m=0\/∃(k:Nat) (o:Oper),ops[k]?=some o/\CQ o=true/\S k/\m=pos k+1
theorem PW(st:Stat ops anc ord pos sc)(s:Down anc S)(t:Inv C ops pos sc fr0 v Hh F p0 h0 w0 df S m fl p a w)(b:Rest ops pos S m){k:Nat}{o:Oper}(j:ops[k]?=some o)(hr:¬S k):
  m<=pos k\/∃(i:Nat) (oi:Oper),ops[i]?=some oi/\CQ oi=true/\S i/\m=pos i+1/\pos k<pos i/\anc i k=false:=by
 by_cases r:m<=pos k
 ·omega
 ·right;rcases b with rfl|⟨i,oi,g,q,n,l⟩
  ·omega
  ·refine⟨i,oi,g,q,n,l,?_,?_⟩
   ·have d:k≠i:=ah;have c:=(zc.1 j).1;have f:=(zc.1 g).1;have:pos k≠pos i:=fun e=>d (by rw[<-(st.posp k c).2,e,(st.posp i f).2])
    omega
   grind [Down]
theorem P8(st:Stat ops anc ord pos sc)(l:Inv C ops pos sc fr0 v Hh F p0 h0 w0 df S m fl p a w){i:Nat}{o:Oper}(j:ops[i]?=some o)(hr:RY anc S i)(g:CJ o=false){k:Nat}{ok:Oper}(f:ops[k]?=some ok)
  (d:CQ ok=true) (n:m<=pos k) (q:pos k<pos i):False:=by
 have c:¬S k:=fun h=>by have:=(l.mh k ok f d).1 h;omega
 have e:k≠i:=ah;rcases kinds o with h|h|h
 ·rcases st.s2 k i ok o f j d h with b|b
  ·exact c<|hr.all k b
  ·omega
 ·grind
 ·rcases st.s1 k i ok o f j d h e with b|b
  ·have:=st.apos _ _ b;omega
  ·exact c<|hr.all k b
theorem Zg(st:Stat ops anc ord pos sc)(q:Canon C call ops anc ord pos fr0 h0 v Hh F)(t:Down anc S)(G:Inv C ops pos sc fr0 v Hh F p0 h0 w0 df S m fl p a w)(b:Rest ops pos S m){i:Nat}{o:Oper}(f:ops[i]?=some o)
  (hr:RY anc S i) (g:Ez o=true) (j:Bb (F<|pos i) ops o=true) (r:G0 C (F<|pos i) (Hh<|pos i) o=some (.val (v i)<|Hh<|pos i)):G0 C (F<|pos i) (Hh m) o=some (.val (v i)<|Hh m):=by
 have s:=J1 g;cases c:Rj o with
 |false=>grind [tN]
 |true=>
  rcases PW st t G b f hr.fresh with y|⟨k,ok,x,z,K,E,B,D⟩
  ·have l:=(zc.1 f).1;have A:=(st.posp i l).1;have key:∀d,m+d<=pos i->Hh (m+d)=Hh m:=by
    intro d;induction d with
    |zero=>simp
    |succ d I=>
     intro n;obtain⟨N,M⟩:=st.ordp (m+d) ae;obtain⟨e,hq⟩:∃e,ops[ord<|m+d]?=some e:=ah;rcases q.step _ e hq with⟨_,_,u⟩|⟨_,⟨_,_,u⟩|⟨u1,_⟩|⟨u1,_⟩⟩
     ·grind
     ·grind
     ·obtain⟨k,ok,J,O,L,Q⟩:=st.s5 i _ o e f hq g c u1 ae;grind [P8]
     grind [P8]
   have:=key (pos i-m) ae;grind
  ·rw[E];exact q.stable k i ok o x f z g c j B D
theorem Ds{a:Act}{d:Option Tmp}{x:Value}{t:Tmp}(h:d≠some t):(a.put d x).tmps.getD t undef=a.tmps.getD t undef:=by
 cases d with
 |none=>rfl
 |some s=>
  simp_all [yo]
theorem FH{a:Act}{x:Value}{t:Tmp}(h:t<a.tmps.size):(a.put (some t) x).tmps.getD t undef=x:=by
 simp[yo,h]
theorem Qj{a:Act}{d:Option Tmp}{x:Value}:(a.put d x).tmps.size=a.tmps.size:=by cases d<;>simp[yo]
theorem QQ{a:Act}{d:Option Tmp}{x:Value}:(a.put d x).defers=a.defers:=by cases d<;>rfl
theorem M6.put(st:Stat ops anc ord pos sc){S:Nat->Prop}{m q:Nat}{a:Act}(A:M6 ops pos sc S m a){i:Nat}{o:Oper}(d:ops[i]?=some o)(b:¬S i)(hr:RY anc S i){x:Value}(L:m<=q)
  (y:∀(k:Nat) (ok:Oper) (t tk:Tmp),sc i=some k->ops[k]?=some ok->o.dst=some t->ok.dst=some tk->q<=pos i->(a.put o.dst x).tmps.getD t undef=a.tmps.getD tk undef):
  M6 ops pos sc (fun k=>S k\/k=i) q (a.put o.dst x):=by
 refine⟨fun j k oj ok t tk E f n c s g u=>?_⟩;obtain⟨o1,U,t2,q1,M,K,Q,I,G,B⟩:=st.q1 j k n;by_cases e:j=i
 ·subst e;rw[d]at f;cases f;have z:S k:=hr.all k B;refine⟨?_,.inl z⟩;rw[y k ok t tk n c s g u];have l:k≠j:=ah;have:o.dst≠some tk:=(st.s6 k j ok o tk c d l g).1;rw[Ds this]
 ·have D:=E.resolve_right e;obtain⟨N,J⟩:=A.eq j k oj ok t tk D f n c s g ae;have r:k≠i:=ah;have R:o.dst≠some t:=(st.s6 j i oj o t f d e s).1;have O:o.dst≠some tk:=(st.s6 k i ok o tk c d r g).1;grind [Ds]
theorem Inv.quiet(st:Stat ops anc ord pos sc)(N:Canon C call ops anc ord pos fr0 h0 v Hh F)(c:Inv C ops pos sc fr0 v Hh F p0 h0 w0 df S m fl p a w){i:Nat}{o:Oper}(B:ops[i]?=some o)(q:¬S i)(G:CQ o=false)
  (L:CJ o=true->Bb (F<|pos i) ops o=false) {x:Value} (hx:((sc i).isSome=true->Bb (F<|pos i) ops o=true->pos i<m)->Ae p (v i) x):Inv C ops pos sc fr0 v Hh F p0 h0 w0 df (fun k=>S k\/k=i) m fl p (a.put o.dst x) w:=by
 have J:∀(k:Nat) (ok:Oper) (t:Tmp),k≠i->ops[k]?=some ok->ok.dst=some t->o.dst≠some t:=fun k ok t u b g=>(st.s6 k i ok o t b B u g).1
 refine⟨c.ext,c.gl,c.mn,fun k ok b Y=>?_,fun k ok b z E=>.inl<|c.ma k ok b z E,by rw[Qj,c.sz],by rw[QQ,c.df],fun t g=>?_,fun k ok t I b g M=>?_,fun k ok I b r D d=>?_,
  fun k j ok oj I hS' b X r A D s d l W=>?_⟩
 ·rw[<-c.mh k ok b Y];grind
 ·have K:o.dst≠some t:=ah;rw[Ds K];exact c.slot t ah
 ·by_cases e:k=i
  ·subst e;rw[B]at b;cases b;rw[g,FH<|by rw[c.sz];exact N.dst k o t B g];grind
  ·rw[Ds ah];exact c.slotw k ok t ah b g M
 ·obtain⟨n,y,ob,f,v',Q,Z,R,k4,O,U,k7⟩:=c.flt k ok ah b r D d;exact⟨n,y,ob,f,v',Q,Z,R,k4,O,U,(by grind [Ds])⟩
 ·exact c.inj k j ok oj ah ah b X r A D s d l W
theorem Inv.made(st:Stat ops anc ord pos sc)(c:Inv C ops pos sc fr0 v Hh F p0 h0 w0 df S m fl p a w){i:Nat}{o:Oper}(K:ops[i]?=some o)(s:CJ o=true)(hwd:Bb (F<|pos i) ops o=true)(g:m<=pos i)
  (cn:Canon C call ops anc ord pos fr0 h0 v Hh F) {ob:O} {f:Nat->V} (z:uW C (F<|pos i) o=some (ob,f)) {x:Obj} {n:Nat} {v':Value} (hx:Li p n ob x) (W:∀(q:Pl) b,q[b]?=some (w.heap.size,n)->Ae q (f b) v'):
  Inv C ops pos sc fr0 v Hh F p0 h0 w0 df (fun k=>S k\/k=i) m (fun k=>if k=i then w.heap.size else fl k) p (a.put o.dst v') { w with heap:=w.heap.push x }:=by
 have U:∀(k:Nat) (ok:Oper) (t:Tmp),k≠i->ops[k]?=some ok->ok.dst=some t->o.dst≠some t:=fun k ok t G d r=>(st.s6 k i ok o t d K G r).1
 have M:CQ o=false:=by simp[CQ,s]
 refine⟨c.ext.aside x,c.gl,c.mn,fun k ok d W=>?_,fun k ok d s L=>.inl<|c.ma k ok d s L,by rw[Qj,c.sz],by rw[QQ,c.df],fun t r=>?_,fun k ok t N d r Z=>?_,fun k ok N d B D g=>?_,
  fun k j ok oj N hS' d R B A D u g l Q=>?_⟩
 ·rw[<-c.mh k ok d W];grind
 ·have Y:o.dst≠some t:=ah;rw[Ds Y];exact c.slot t ah
 ·by_cases e:k=i
  ·grind
  ·rw[Ds ah];exact c.slotw k ok t ah d r Z
 ·by_cases e:k=i
  ·subst e;rw[K]at d;cases d;refine⟨n,x,ob,f,v',z,by simp,by simpa using c.ext.size,fun I=>?_,hx,by grind,fun t r=>?_⟩
   ·have:=c.ext.rel.aW I;grind
   ·rw[r,FH<|by rw[c.sz];exact cn.dst k o t K r]
  ·obtain⟨n',y,E,f',J,k1,X,k3,k4,k5,k6,k7⟩:=c.flt k ok ah d B D g;refine⟨n',y,E,f',J,k1,?_,by grind,by grind,k5,by grind,(by grind [Ds])⟩;grind
 ·by_cases e:k=i<;>by_cases e':j=i
  ·omega
  ·obtain⟨_,_,_,_,_,_,X,_⟩:=c.flt j oj ah R A u l;grind
  ·obtain⟨_,_,_,_,_,_,X,_⟩:=c.flt k ok ah d B D g;grind
  ·simp only[e,vf,e']at Q;exact c.inj k j ok oj ah ah d R B A D u g l Q
theorem Inv.wrote(st:Stat ops anc ord pos sc)(W:Canon C call ops anc ord pos fr0 h0 v Hh F){i:Nat}{o:Oper}(c:Inv C ops pos sc fr0 v Hh F p0 h0 w0 df S (pos i) fl p a w)(u:ops[i]?=some o)(_:CQ o=true)(s:¬S i)
  {p':Pl} {w':World} {x:Value} (d:Ext p (Hh<|pos i) w p' (Hh<|pos i+1) w') (hx:Ae p' (v i) x):
  Inv C ops pos sc fr0 v Hh F p0 h0 w0 df (fun k=>S k\/k=i) (pos i+1) fl p' (a.put o.dst x) w':=by
 have Q:∀(k:Nat) (ok:Oper) (t:Tmp),k≠i->ops[k]?=some ok->ok.dst=some t->o.dst≠some t:=fun k ok t B b g=>(st.s6 k i ok o t b u B g).1
 have l:=(zc.1 u).1;have hpi:∀ {k:Nat} {ok:Oper},ops[k]?=some ok->pos k=pos i->k=i:=fun {k ok} b e=>by
  have J:=(zc.1 b).1;rw[<-(st.posp k J).2,e,(st.posp i l).2]
 refine⟨c.ext.trans d,c.gl.ext d,(st.posp i l).1,fun k ok b R=>?_,fun k ok b I r=>?_,by rw[Qj,c.sz],by rw[QQ,c.df],fun t g=>?_,fun k ok t O b g hc=>?_,fun k ok O b z L D=>?_,
  fun k j ok oj O hS' b hj z K L A D N G=>?_⟩
 ·constructor
  ·rintro(h|rfl)
   ·have:=(c.mh k ok b R).1 h;omega
   ·omega
  ·intro h;by_cases e:pos k=pos i
   ·grind
   ·exact .inl ((c.mh k ok b R).2 ae)
 ·by_cases e:pos k=pos i
  ·grind
  ·exact .inl (c.ma k ok b I ae)
 ·have M:o.dst≠some t:=ah;rw[Ds M];exact d.qJ (c.slot t ah)
 ·by_cases e:k=i
  ·subst e;rw[u]at b;cases b;rw[g,FH<|by rw[c.sz];exact W.dst k o t u g];exact hx
  ·rw[Ds ah];refine d.qJ (c.slotw k ok t ah b g fun M h2=>?_);grind
 ·obtain⟨n,y,ob,f,v',Y,U,Z,k4,X,k6,k7⟩:=c.flt k ok ah b z L ae;have r:=(zc.1 U).1;obtain⟨q,rfl⟩:=d.pre;refine⟨n,y,ob,f,v',Y,by rw[d.same _ r k4];exact U,Z,fun E=>?_,X.mono _,k6,(by grind [Ds])⟩;rcases d.im _ E with h|h
  ·grind
  ·omega
 ·exact c.inj k j ok oj ah ah b hj z K L A ae ae G
theorem Inv.along(b:Inv C ops pos sc fr0 v Hh F p0 h0 w0 df S m fl p a w){p':Pl}{w':World}(c:Ext p (Hh m) w p' (Hh m) w'):Inv C ops pos sc fr0 v Hh F p0 h0 w0 df S m fl p' a w':=by
 refine⟨b.ext.trans c,b.gl.ext c,b.mn,b.mh,b.ma,b.sz,b.df,fun t s=>c.qJ<|b.slot t s,fun i o t r E D B=>c.qJ<|b.slotw i o t r E D B,fun k ok J u l G d=>?_,b.inj⟩;obtain⟨n,y,ob,f,v',A,j,I,K,z,L,x⟩:=b.flt k ok J u l G d;have g:=(zc.1 j).1;obtain⟨q,rfl⟩:=c.pre;refine⟨n,y,ob,f,v',A,by rw[c.same _ g K];exact j,I,fun e=>?_,z.mono _,L,x⟩;rcases c.im _ e with h|h
 ·grind
 ·omega
theorem rO{o:Oper}(h:CJ o=true):∀c,o.op≠ .defer c:=by
 grind [CJ]
theorem up(hC:C.Ok P)(U:call.Ok C P)(st:Stat ops anc ord pos sc)(B:Canon C call ops anc ord pos fr0 h0 v Hh F)(G:Inv C ops pos sc fr0 v Hh F p0 h0 w0 df S m fl p a w)(M:M6 ops pos sc S m a)(hd:Down anc S)(I:Rest ops pos S m)
  {i:Nat} {o:Oper} (d:ops[i]?=some o) (hr:RY anc S i) {Q:Exit->Act->World->Prop} {K:Act->World->Prop}
  (N:∀m' fl' p' a' w',Inv C ops pos sc fr0 v Hh F p0 h0 w0 df (fun k=>S k\/k=i) m' fl' p' a' w'->M6 ops pos sc (fun k=>S k\/k=i) m' a'->Rest ops pos (fun k=>S k\/k=i) m'->K a' w') {ro:Option Nat} {nn:Nat}:wpOpIn (FW ro) nn P ops Q i K a w:=by
 have hin:=(zc.1 d).1;have E:∀cs b,o.op≠ .select cs b:=fun cs b=>Region.noSelect_spec st.sel i o cs b d
 have l:Rest ops pos (fun k=>S k\/k=i) m:=by
  grind [Rest]
 unfold wpOpIn;simp only[d];cases r:CQ o with
 |false=>
  by_cases hcp:(sc i).isSome=true/\m<=pos i
  ·
   obtain⟨k,Y⟩:=ye.1 hcp.1;obtain⟨o2,ok,t,q1,q2,q3,q4,q5,q6,q7⟩:=st.q1 i k Y;rw[d]at q1;cases q1;have hw:zy o (yielded ops a.tmps)=true:=by grind [zy]
   simp only[hw,wm];refine⟨fun _ _=>trivial,?_⟩;have hrun:(execOp a.eval o).run P w=.ok (.value<|a.tmps.getD t undef) w:=by
    unfold execOp;rcases q3 with q3|q3<;>simp[q3,Act.eval]
   rw[zl _ _ _ ah,hrun,zr];have hnal:CJ o=false:=by grind [CJ]
   refine N m fl p _ w (G.quiet st B d hr.fresh r ah<|by grind [Bb]) (M.put st d hr.fresh hr ae fun k' ok' t' tk h1 h2 X h4 _=>?_) l;rw[Y]at h1;cases h1;rw[q2]at h2;cases h2;rw[q6]at h4;cases h4;rw[X,FH<|by rw[G.sz];exact B.dst i o t' d X]
  have hcp':∀k,sc i=some k->pos i<m:=ah;have hfl:∀(k:Nat) (ok:Oper) (t:Tmp),ops[k]?=some ok->(CJ ok=true\/(sc k).isSome=true)->ok.dst=some t->t∈reads ops o->anc i k=true->pos k<m:=by
   intro k ok t Y L hkt ht D;rcases st.s3 k i ok o t Y d L r hkt ht D with h|⟨j,oj,j1,j2,j3,j4⟩
   ·have:=hcp' k h;have:=st.apos _ _ D;omega
   ·have:=(G.mh j oj j1 j2).1<|hr.all j j4;have:=st.apos _ _ j3;omega
  have y:∀x,M6 ops pos sc (fun k=>S k\/k=i) m (a.put o.dst x):=fun x=>M.put st d hr.fresh hr ae ah
  have z:=operands st B G hd d hr hfl;rw[SD z];rcases B.step i o d with⟨u1,u2,s⟩|⟨u1,u⟩
  ·simp only[u1,zz,vf];refine⟨fun _ _=>trivial,?_⟩;exact N m fl p _ w (G.quiet st B d hr.fresh r (fun _=>u1)<|by simp_all [Ae,undef]) (y _) l
  ·simp only[u1,wm];refine⟨fun _ _=>trivial,?_⟩;rcases u with⟨u2,s,u4⟩|⟨u2,ob,f,s,u4,u5⟩|⟨u2,s⟩
   ·have O:=Zg st B hd G I d hr u2 u1 s;obtain⟨v',p',w',J,R,W⟩:=Jy hC G.ext.rel G.gl z E O;rw[zl _ _ _<|HG O,J,zr];have hi2:=G.along W;exact N m fl p' _ w' (hi2.quiet st B d hr.fresh r (by grind [J1]) fun _=>R) (y _) l
   ·have Z:m<=pos i:=by
     rcases PW st hd G I d hr.fresh with h|⟨k,ok,h1,h2,X,h4,h5,h6⟩
     ·exact h
     ·rcases st.s4 k i ok o h1 d h2 u2 with h7|h7
      ·grind
      ·omega
    obtain⟨x,n,v',J,R,W⟩:=Ac2 (P:=P) hC G.gl z s;rw[zl _ _ _<|rO u2,J,zr];exact N m _ p _ _ (G.made st d u2 u1 Z B s R W) (y _) l
   grind
 |true=>
  obtain⟨hnr,hnal⟩:=S6 r;have Z:m<=pos i:=by
   rcases yp (pos i) m with h|h
   ·exact wh ((G.mh i o d r).2 h) hr.fresh
   omega
  have hpn:=(st.posp i hin).1;obtain⟨p1,c⟩:=Inv.adv st B (pos i-m) m G M ae (fun q h1 h2 oq hq=>by
   obtain⟨J,R⟩:=st.ordp q ae;refine⟨?_,fun L=>?_⟩
   ·grind [P8]
   ·rcases st.s4 i (ord q) o oq d hq r L with X|X
    ·exact hr.all _ X
    omega)
  rw[show m+(pos i-m)=pos i from by omega]at c;have z:=operands st B c hd d hr fun k ok t Y L _ _ D=>st.apos _ _ D
  have y:∀x,M6 ops pos sc (fun k=>S k\/k=i) (pos i+1) (a.put o.dst x):=fun x=>M.put st d hr.fresh hr ae ae
  rw[SD z];have g:Rest ops pos (fun k=>S k\/k=i) (pos i+1):=.inr ah;rcases B.step i o d with⟨u1,u2,s⟩|⟨u1,u⟩
  ·simp only[u1,zz,vf];refine⟨fun _ _=>trivial,?_⟩;have he:Ext p1 (Hh<|pos i) w p1 (Hh<|pos i+1) w:=by rw[s];exact zq c.ext.rel
   exact N _ _ _ _ _ (c.wrote st B d r hr.fresh he<|by simp_all [Ae,undef]) (y _) g
  ·simp only[u1,wm];refine⟨fun _ _=>trivial,?_⟩;rcases u with⟨u2,s,u4⟩|⟨u2,ob,f,s,u4,u5⟩|⟨u2,s⟩
   ·grind
   ·grind
   ·unfold D7 at s;split at s
    case h_4=>cases s
    case h_1=>
     rename_i vv hh A;obtain⟨rfl,rfl⟩:=s;obtain⟨v',p',w',J,R,W⟩:=Jy hC c.ext.rel c.gl z E A;rw[zl _ _ _<|HG A,J,zr];exact N _ _ _ _ _ (c.wrote st B d r hr.fresh W R) (y _) g
    case h_2=>
     rename_i hh A;simp only[zg,yk]at s;obtain⟨u4,rfl⟩:=s;obtain⟨p',w',J,W⟩:=Jy hC c.ext.rel c.gl z E A;rw[zl _ _ _<|HG A,J,Oper.uponIn_skip];exact N _ _ _ _ _ (c.wrote st B d r hr.fresh W<|by rw[<-u4];simp[Ae,undef]) (y _) g
    case h_3=>
     rename_i f args A;obtain⟨args',J,R⟩:=Jy hC c.ext.rel c.gl z E A;rw[zl _ _ _<|HG A,J,Oper.uponIn_enter];split at s
     case h_2=>cases s
     rename_i x1 x2 hcl;cases s;refine⟨(by grind [FW,ya]),XV.2<|(U.fn f args _ _ hcl p1 w args' c.ext.rel c.gl R).mono ?_⟩;rintro e w' ⟨v',h',x',p',hm,rfl,k1,k2⟩;rw[zn]at hm;cases hm;exact N _ _ _ _ _ (c.wrote st B d r hr.fresh k2 k1) (y _) g
theorem Inv.congr{b:Nat->Prop}(h:∀k,S k↔b k)(c:Inv C ops pos sc fr0 v Hh F p0 h0 w0 df S m fl p a w):Inv C ops pos sc fr0 v Hh F p0 h0 w0 df b m fl p a w:=by
 have e:S=b:=ah;grind
theorem M6.congr{b:Nat->Prop}(h:∀k,S k↔b k)(c:M6 ops pos sc S m a):M6 ops pos sc b m a:=by
 have e:S=b:=ah;grind
def Ls(l:Array Bool)(k:Nat):Prop:=l.getD k false=true
theorem Xa{l:Array Bool}(n:Nat)(c:l.size=n){i:Nat}(f:i<n)(b:l.getD i true=false):
  ((z6 n).filter fun k=> !(l.setIfInBounds i true).getD k true).length<((z6 n).filter fun k=> !l.getD k true).length:=by
 have sub:∀k,(!(l.setIfInBounds i true).getD k true)=true->(!l.getD k true)=true:=by
  intro k g;by_cases e:i=k
  ·grind
  simp_all
 have key:∀(L:List Nat),(L.filter fun k=> !(l.setIfInBounds i true).getD k true).length<=(L.filter fun k=> !l.getD k true).length/\(i∈L->(L.filter fun k=> !(l.setIfInBounds i true).getD k true).length<(L.filter fun k=> !l.getD k true).length):=by
  intro L;induction L with
  |nil=>simp
  |cons x L d=>
   simp only[List.filter_cons];constructor
   ·grind
   ·by_cases e:i=x
    ·subst e;rw[wc (by simp),wd<|by simp[b]];grind
    grind
 grind
theorem jO(hC:C.Ok P)(s:call.Ok C P)(st:Stat ops anc ord pos sc)(A:Canon C call ops anc ord pos fr0 h0 v Hh F){Q:Exit->Act->World->Prop}
  (hQ:∀p' G w',Cx p' (F ops.size) G->Ext p0 h0 w0 p' (Hh ops.size) w'->G.defers=df->Q .normal G w') {ro:Option Nat} {nn:Nat}:
  ∀(c:Nat) (l:Array Bool),l.size=ops.size->((z6 ops.size).filter fun k=> !l.getD k true).length<=c->∀ {m:Nat} {fl:Nat->Nat} {p:Pl} {a:Act} {w:World},
   Inv C ops pos sc fr0 v Hh F p0 h0 w0 df (Ls l) m fl p a w->M6 ops pos sc (Ls l) m a->Down anc (Ls l)->Rest ops pos (Ls l) m->wpAnyIn (FW ro) nn P .any ops Q c l a w:=by
 have fin:∀(l:Array Bool),l.size=ops.size->yg .any ops l=[]->∀ {m:Nat} {fl:Nat->Nat} {p:Pl} {a:Act} {w:World},
   Inv C ops pos sc fr0 v Hh F p0 h0 w0 df (Ls l) m fl p a w->M6 ops pos sc (Ls l) m a->Q .normal a w:=by
  intro l R D m fl p a w x n;have all:∀q,q<=ops.size->∀k,k<ops.size->pos k<q->Ls l k:=by
   intro q;induction q with
   |zero=>omega
   |succ q M=>
    intro hq k f hlt;by_cases e:pos k=q
    ·apply Classical.byContradiction;intro Z;have W:k∈yg .any ops l:=by
      rw[mem_ready];refine⟨?_,ops[k],by simp[f],fun X L hb=>?_⟩
      ·grind [Ls]
      ·obtain⟨N,B⟩:=st.dir k _ X (by simp[f]) L hb;have Y:=st.apos _ _ N;exact M ae X.on B ae
     grind
    grind
  have r:∀k,k<ops.size->Ls l k:=fun k f=>all ops.size ae k f (st.posp k f).1
  obtain⟨p',b⟩:=Inv.adv st A (ops.size-m) m x n (by have:=x.mn;omega) (fun q N B o ho=>by
   obtain⟨U,g2⟩:=st.ordp q ae;refine⟨?_,ah⟩;cases hv:CQ o with
   |false=>rfl
   |true=>have:=(x.mh _ o ho hv).1<|r _ U;omega)
  rw[show m+(ops.size-m)=ops.size from by have:=x.mn;omega]at b;refine hQ p' a w ⟨by rw[A.fn _ ae,b.sz],fun t=>?_⟩ b.ext b.df;by_cases hw:∃(k:Nat) (ok:Oper),ops[k]?=some ok/\ok.dst=some t
  ·obtain⟨k,ok,f,z⟩:=hw;have u:=(zc.1 f).1;rw[Fw st A f z _ ae (st.posp k u).1];exact b.slotw k ok t (r k u) f z fun _ _=>(st.posp k u).1
  ·rw[Fz st A _ ae ah];exact b.slot t ah
 intro c;induction c with
 |zero=>
  intro l R y m fl p a w x n K g;have D:yg .any ops l=[]:=by
   simp_all [yg,z6]
  exact⟨D,ah⟩
 |succ c M=>
  intro l R y m fl p a w x n K g;refine⟨ah,fun i hm=>?_⟩;obtain⟨N,o,B,Y⟩:=mem_ready.1 hm;have hin:=(zc.1 B).1;have d:RY anc (Ls l) i:=by
   refine⟨fun hs=>?_,fun k f=>?_⟩
   ·grind [Ls]
   ·obtain⟨o',e,U,g2,g3,g4⟩:=st.edge i k f;grind [Ls,Down]
  refine up hC s st A x n K g B d fun m' fl' p' G w' b E J=>?_
  have O:∀k,(Ls l k\/k=i)↔Ls (l.setIfInBounds i true) k:=by
   intro k;unfold Ls;by_cases e:k=i
   ·simp_all
   ·rw[getD_set_ne false ae];simp[e]
  refine M (l.setIfInBounds i true) ah ?_ (b.congr O) (E.congr O) ?_ (by simp_all)
  ·grind [Xa]
  ·intro j k I f;rw[<-O]at I ⊢;rcases I with I|rfl
   ·exact .inl<|K j k I f
   ·exact .inl<|d.all k f
theorem nP(o:C.Ok P)(b:call.Ok C P)(n:P.follows .mixedOrders=true)(st:Stat ops anc ord pos sc)(e:Canon C call ops anc ord pos fr0 h0 v Hh F){Q:Exit->Act->World->Prop}(hr:R p h0 w)(r:Gl C p)(f:Cx p fr0 a)
  {id:Nat} (q:∀p' c w',Cx p' (F ops.size) c->Ext p h0 w p' (Hh ops.size) w'->c.defers=a.defers->Q .normal c w') {ro:Option Nat} {l:Nat}:(Code.region id ops true).wpIn (FW ro) l P Q a w:=by
 refine wpIn_region_any n ?_;have g:=Ext.drew hr<|w.drawn+1;have j:∀k,¬Ls (Array.replicate ops.size false) k:=by
  intro k d;unfold Ls at d;rw[zk]at d;grind
 refine jO (p0:=p) (h0:=h0) (w0:=w) (df:=a.defers) o b st e q ops.size _ (by simp) ah (m:=0) (fl:=fun _=>0) (p:=p)
  ⟨by rw[e.h0];exact g,r,Nat.zero_le _,ah,ae,f.1.symm,rfl,fun t _=>f.2 t,ah,ah,ah⟩
  ⟨ah⟩ (fun i k h=>ah) (.inl rfl)
end
structure Oa where
 anc:List Nat
 ord:List Nat
 pos:List Nat
 sc:List (Option Nat)
def AeP(acc:List Nat)(o:Oper):Nat:=
 o.after.toList.foldl (fun s e=>bif yb .any e then s|||(2^e.on|||acc.getD e.on 0)else s) 0
def AbJ:List Oper->List Nat->List Nat
 |[],b=>b
 |o::os,b=>AbJ os<|b++[AeP b o]
def tb(m i:Nat):Bool:=m.testBit i
def sub(a d:Nat):Bool:=zo (a&&&d) a
def J4(f:Nat->Oper->Bool):Nat->List Oper->Option Nat
 |_,[]=>none
 |i,o::os=>bif f i o then some i else J4 f (i+1) os
def kL(f:Nat->Oper->Bool):Nat->List Oper->List Nat
 |_,[]=>[]
 |i,o::os=>bif f i o then i::kL f (i+1) os else kL f (i+1) os
def WS(ops:List Oper)(anc:List Nat):Nat->Nat->List Nat->List Nat
 |0,_,out=>out.reverse
 |fuel+1,d,out=>
  match J4 (fun i o=>Ez o&& !tb d i&&sub (anc.getD i 0) d) 0 ops with
  |some i=>WS ops anc fuel (d|||2^i) (i::out)
  |none=>
   match J4 (fun i o=>CQ o&& !tb d i) 0 ops with
   |some k=>
    let b:=kL (fun i o=>CJ o&& !tb d i&&tb (anc.getD k 0) i) 0 ops
    bif b.isEmpty then WS ops anc fuel (d|||2^k) (k::out)
    else WS ops anc fuel (b.foldl (fun s i=>s|||2^i) d)<|b.reverse++out
   |none=>
    match J4 (fun i o=>CJ o&& !tb d i) 0 ops with
    |some i=>WS ops anc fuel (d|||2^i) (i::out)
    |none=>out.reverse
def idx(l:List Nat)(i:Nat):Nat:=l.getD i 0
def Afs(ord:List Nat)(n:Nat):List Nat:=(z6 n).map fun i=>ord.idxOf i
def Uh(o:Oper):Option Tmp:=
 match o.guard,o.op with
 |none,.assign (.tmp t)=>some t
 |none,.move (.tmp t)=>some t
 |_,_=>none
def AgE(ops:List Oper)(anc:List Nat)(i:Nat)(o:Oper):Option Nat:=
 match Uh o with
 |some t=>
  match J4 (fun k x=>CJ x&&(x.dst==some t)&&tb (anc.getD i 0) k) 0 ops with
  |some k=>match J4 (fun h x=>CQ x&&tb (anc.getD h 0) k&&tb (anc.getD i 0) h) 0 ops with
   |none=>some k
   |some _=>none
  |none=>none
 |none=>none
def EG(ops:Array Oper):Oa:=
 let anc:=AbJ ops.toList []
 let ord:=WS ops.toList anc (3*ops.size+3) 0 []
 ⟨anc,ord,Afs ord ops.size,ops.toList.zipIdx.map fun(o,i)=>AgE ops.toList anc i o⟩
def Oa.s(pl:Oa)(i:Nat):Option Nat:=pl.sc.getD i none
def Oa.a(pl:Oa)(j i:Nat):Bool:=(idx pl.anc j).testBit i
def ZN(ops:Array Oper)(f:Nat->Oper->Nat->Oper->Bool):Bool:=
 ops.toList.zipIdx.all fun(o,i)=>ops.toList.zipIdx.all fun(o',j)=>f i o j o'
def Io(ops:Array Oper)(pl:Oa):Bool:=
 let n:=ops.size
 let A:=pl.a
 let pos:=idx pl.pos
 let ord:=idx pl.ord
 Region.noSelect ops&&
 ((z6 n).all fun q=>zh (ord q) n&&zo (pos<|ord q) q)&&
 ((z6 n).all fun i=>zh (pos i) n&&zo (ord<|pos i) i)&&
 (pl.anc.length==n)&&(pl.ord.length==n)&&
 (pl.sc.zipIdx.all fun(s,i)=>match s with
  |none=>true
  |some k=>match ops[i]?,ops[k]? with
   |some o,some ok=>match Uh o with
    |some t=>CJ ok&&(ok.dst==some t)&&A i k
    |none=>false
   |_,_=>false)&&
 (ops.toList.zipIdx.all fun(o,j)=>zh (idx pl.anc j) (2^n)&&
  ((z6 n).all fun i=> !A j i||((o.after.toList.any fun e=>yb .any e&&(zo e.on i||A e.on i))&&zh (pos i) (pos j)))&&
  (o.after.toList.all fun e=> !yb .any e||(A j e.on&&zh e.on n)))&&
 (ZN ops fun i o j o'=>
  (!(CQ o&&CQ o')||zo i j||A i j||A j i)&&
  (!(CQ o&&Ez o')||A j i||zh (pos j) (pos i))&&
  (!((CJ o||(pl.s i).isSome)&& !CQ o')|| !A j i||(match o.dst with|some t=> !((reads ops o').contains t)|none=>true)||(pl.s j==some i)||(ops.toList.zipIdx.any fun(x,k)=>CQ x&&A k i&&A j k))&&
  (!(CQ o&&CJ o')||A i j||zh (pos i) (pos j))&&
  (!(Ez o&&Rj o&&CJ o')|| !zh (pos j) (pos i)||(ops.toList.zipIdx.any fun(x,k)=>CQ x&&zh (pos j) (pos k)&&zh (pos k) (pos i)))&&
  (zo i j||(match o.dst with
   |none=>true
   |some t=> !(o'.dst==some t)&&(!((reads ops o').contains t)||A j i||A i j))))
theorem J0{ops:Array Oper}{i:Nat}{o:Oper}(h:ops[i]?=some o):(o,i)∈ops.toList.zipIdx:=by
 grind
theorem nY{ops:Array Oper}{i:Nat}{o:Oper}(h:(o,i)∈ops.toList.zipIdx):ops[i]?=some o:=by
 grind
theorem Vg{o:Oper}{t:Tmp}(h:Uh o=some t):(o.op=.assign (.tmp t)\/o.op=.move (.tmp t))/\o.guard=none:=by
 grind [Uh]
theorem aD{ops:Array Oper}{pl:Oa}(G:Io ops pl=true):Stat ops pl.a (idx pl.ord) (idx pl.pos) pl.s:=by
 unfold Io at G;simp only[ze]at G;obtain⟨⟨⟨⟨⟨⟨⟨h0,K⟩,O⟩,N⟩,_⟩,Y⟩,y⟩,U⟩:=G;simp only[zj,yj,ze,zt,Bn,w5]at K O;simp only[zj]at y;have n:∀(i j:Nat) (o o':Oper),ops[i]?=some o->ops[j]?=some o'->_:=fun i j o o' f d=>zj.1 (zj.1 U (o,i)<|J0 f) (o',j)<|J0 d
 simp only[ze,zm,zw,Bn,w5,Hu,w9,Bool.and_eq_false_imp]at n;have g:∀(j i:Nat),pl.a j i=true->j<ops.size/\i<ops.size:=by
  intro j i h;have d:j<ops.size:=by
   rcases yp j ops.size with b|b
   ·exact b
   ·have hl:pl.anc.length=ops.size:=by simpa using N
    unfold Oa.a idx at h;rw[yc,List.getElem?_eq_none ae]at h;simp at h
  refine⟨d,?_⟩;have b:=y (ops[j],j) (J0<|by simp[d]);simp only[ze,zt]at b;rcases yp i ops.size with c|c
  ·exact c
  ·have r:=b.1.1;have R:idx pl.anc j<2^i:=Nat.lt_of_lt_of_le r (Nat.pow_le_pow_right ae c);unfold Oa.a at h;rw[Nat.testBit_lt_two_pow R]at h;cases h
 refine⟨h0,ae,ae,fun j i h=>?_,fun j o e d I Q=>?_,fun j i h=>?_,fun i j o o' f d A Z B=>?_,fun i j o o' f d A hr=>?_,fun i k h=>?_,fun j k o o' t d M z A q l h=>?_,fun i j o o' f d A z=>?_,
  fun i j o o' f d hr D z hlt=>?_,fun i j o o' t f d B q=>?_⟩
 ·obtain⟨d,f⟩:=g j i h;have b:=y (ops[j],j) (J0<|by simp[d]);simp only[ze,zj,yj,zm,zw]at b;rcases b.1.2 i f with c|c
  ·rw[h]at c;cases c
  ·obtain⟨e,I,r⟩:=yf.1 c.1;simp only[ze,zm,Bn,w5]at r;exact⟨ops[j],e,by simp[d],by simpa using I,r.1,r.2⟩
 ·have b:=y (o,j)<|J0 d;simp only[ze,zj,zm,zw,zt]at b;rcases b.2 e (by simpa using I)with c|c
  ·rw[Q]at c;cases c
  omega
 ·obtain⟨d,f⟩:=g j i h;have b:=y (ops[j],j) (J0<|by simp[d]);simp only[ze,zj,yj,zm,zw,zt]at b;rcases b.1.2 i f with c|c
  ·rw[h]at c;cases c
  omega
 ·have:=(n i j o o' f d).1.1.1.1.1;simp_all
 ·have:=(n i j o o' f d).1.1.1.1.2;simp_all
 ·have l:(pl.s i,i)∈pl.sc.zipIdx:=by
   rw[List.mem_zipIdx_iff_getElem?];unfold Oa.s at h ⊢;rw[yc]at h ⊢;cases hg:pl.sc[i]? with
   |none=>rw[hg]at h;cases h
   |some x=>rfl
  have b:=zj.1 Y _ l;simp only[h]at b;split at b
  case h_2=>cases b
  rename_i o ok W E;split at b
  case h_2=>cases b
  rename_i t q;simp only[ze,wk]at b;obtain⟨g1,X⟩:=Vg q;exact⟨o,ok,t,W,E,g1,X,b.1.1,b.1.2,b.2⟩
 ·have b:=(n j k o o' d M).1.1.1.2;have u:(CJ o||(pl.s j).isSome)=true:=by simpa using z
  rw[A,h,q]at b;have L:(reads ops o').contains t=true:=by simpa using l
  simp only[zm]at u;simp only[L,Bool.not_false,Bool.not_true,zz,or_false,Bool.true_eq_false]at b;rcases b with(b|b)|b
  ·exact wh u ae
  ·exact .inl (by simpa using b)
  ·obtain⟨⟨x,i⟩,J,c⟩:=yf.1 b;simp only[ze]at c;exact .inr ⟨i,x,nY J,c.1.1,c.1.2,c.2⟩
 ·have:=(n i j o o' f d).1.1.2;simp_all
 ·have b:=(n i j o o' f d).1.2;rw[hr,D,z]at b;simp only[and_self,forall_const,Bool.true_eq_false,false_or]at b;rcases b with b|b
  ·omega
  ·obtain⟨⟨x,k⟩,l,c⟩:=yf.1 b;simp only[ze,w5]at c;exact⟨k,x,nY l,c.1.1,c.1.2,c.2⟩
 ·have b:=(n i j o o' f d).2;rcases b with b|b
  ·omega
  ·rw[q]at b;simp only[ze,zw,zm,beq_eq_false_iff_ne]at b;refine⟨b.1,fun l=>?_⟩;rcases b.2 with(c|c)|c
   ·have:(reads ops o').contains t=true:=by simpa using l
    rw[this]at c;cases c
   ·exact .inl c
   ·exact .inr c
theorem AaT{ops:Array Oper}{pl:Oa}(b:Io ops pl=true):pl.ord.length=ops.size:=by
 unfold Io at b;grind
end Go.Det
