import Derived.Test.YtjbmodoofdpgcaaGreatDoorX01
import Derived.Laws.IdiomStrings
import Derived.Lib.UnsafeStr
import Derived.Lib.Builder
import Derived.RangeFuncRecord
import Derived.LoopNIn
import Derived.OrdersIn
import Derived.RangeFuncLeaves
/- A part of a proof; no law is stated here. -/
noncomputable section
open Array renaming getElem?_eq_some_iff -> zc, getD_eq_getD_getElem? -> zk, getElem?_toList -> zu, getElem?_setIfInBounds_ne -> z8
open Go.Result renaming andThen_ok -> zd
open Bool renaming and_eq_true -> ze, or_eq_true -> zm, not_eq_true' -> zw, false_eq_true -> zz
open Go.Sem renaming run_bind -> zf, run_pure -> zp, run -> ye
open Option.some renaming injEq -> zg
open Nat renaming blt -> zh, beq -> zo, blt_eq -> zt, ble -> z7, ble_eq -> yo, lt_or_ge -> yq
open Option renaming map_eq_some_iff -> zi, isSome_iff_exists -> yf
open List renaming all_eq_true -> zj, mem_singleton -> zn, range -> z6, getD_eq_getElem?_getD -> yd, any_eq_true -> yg, mem_range -> yk, mem_cons -> yn
open Go.Oper renaming semAt_eq -> zl, uponIn_value -> zr
open Go.Det.Ext renaming refl -> zq
open Go.Deferred renaming ofValue -> zx
open Go.Region renaming wanted -> zy, binds -> yc, ready -> yh
open Go.Fence renaming wide -> yb
open Go.Question renaming forced -> yi
open Go.Op renaming operands -> yj
open Prod.mk renaming injEq -> ym
open Go.Act renaming put -> yp
namespace Go.Det
section
variable {T:BX}{P:Program}{p:Pl}{h:H}{w:World}
def HQ(T:BX)(h:H)(t:TypeId)(x:V):Option (V×H):=
 match T.und t,x with
 |some (.map _ _),.nilm=>some (.ptr h.nx 0,h.push<|.miter none 0 [] 0)
 |some (.map _ _),.map b=>match h.get b with
  |some (.map _ c)=>some (.ptr h.nx 0,h.push<|.miter (some b) c [] c)
  |_=>none
 |_,_=>RD T h t x
theorem Wa(i:T.Ok P)(d:R p h w){t:TypeId}{x:V}{x':Value}(j:Ab p x x'){v:V}{h':H}(c:HQ T h t x=some (v,h')):
  ∃v' p' w',(Instr.range t x').run P w=.ok v' w'/\Ab p' v v'/\Ext p h w p' h' w':=by
 unfold HQ at c;split at c
 case h_1=>
  rename_i f;cases c;subst j;have g:=Ext.push (n:=0) d (o:=.miter none 0 [] 0) (x:=.mapIter none 0 #[] 0) rfl;refine⟨.pointer<|some ⟨w.heap.size,0,none⟩,_,_,?_,?_,g⟩
  ·unfold Instr.range;simp only[zf,Ax i f,zd,zp,run_newObj]
  ·exact⟨w.heap.size,0,by rw[<-d.len];simp,rfl⟩
 case h_2=>
  rename_i b f;split at c
  case h_2=>cases c
  rename_i es e q;cases c;obtain⟨r,n,k,rfl⟩:=j;obtain⟨r',n',o,h1,h2,l,h3,h4⟩:=d.obj _ _ q;rw[k]at h1;cases h1;subst h3;have g:=Ext.push (n:=0) d (o:=.miter (some b) e [] e) (x:=.mapIter (some r) e #[] e) ⟨r,n,k,rfl⟩;refine⟨.pointer<|some ⟨w.heap.size,0,none⟩,_,_,?_,?_,g⟩
  ·unfold Instr.range;simp only[zf,Ax i f,zd,zp,getObj,ye,h2,run_newObj]
  ·exact⟨w.heap.size,0,by rw[<-d.len];simp,rfl⟩
 grind [Zo]
def Sc(h:H)(f:V)(c:Bool):Option (List<|V×H):=
 match f,c with
 | .ptr b 0,false=>
  match h.get b with
  |some (.miter none _ _ _)=>some [(.tup [.bool false],h)]
  |some (.miter (some m) since seen last)=>
   match h.get m with
   |some (.map es d)=>
    bif es.all (fun e=>zh e.2.2 since)&&z7 since last then
     match es.filter (fun e=> !seen.contains e.2.2)with
     |[]=>some [(.tup [.bool false],h)]
     |left=>some (left.map fun e=>(.tup [.bool true,e.1,e.2.1],h.put b<|.miter (some m) since (seen++[e.2.2]) d))
    else none
   |_=>none
  |_=>none
 |_,_=>none
theorem Dx.get{es:List (V×V×Nat)}{l:List MapEntry}(c:Dx p es l):∀ {i:Nat} {e:MapEntry},l[i]?=some e->∃k v,es[i]?=some (k,v,e.born)/\Ab p k e.key/\Ab p v e.val:=by
 induction c with
 |nil=>simp
 |@cons k v b es d l n f j _ g=>
  grind
theorem Dx.filter{es:List (V×V×Nat)}{l:List MapEntry}(g:Dx p es l)(q:Nat->Bool):Dx p (es.filter fun e=>q e.2.2) (l.filter fun e=>q e.born):=by
 induction g with
 |nil=>exact .nil
 |@cons k v b es j l f i d _ c=>
  simp only[List.filter_cons,d];cases q b with
  |false=>exact c
  |true=>exact .cons f i d c
theorem Dx.all{es:List (V×V×Nat)}{l:List MapEntry}(c:Dx p es l)(q:Nat->Bool):(es.all fun e=>q e.2.2)=l.all fun e=>q e.born:=by
 induction c with
 |nil=>rfl
 |@cons k v b es d l f g j _ i=>grind
theorem Dx.find{es:List (V×V×Nat)}{l:List MapEntry}(d:Dx p es l)(q:Nat->Bool){e:V×V×Nat}(i:es.find? (fun e=>q e.2.2)=some e):∃c,l.find? (fun e=>q e.born)=some c/\Ab p e.1 c.key/\Ab p e.2.1 c.val:=by
 induction d with
 |nil=>grind
 |@cons k v b es f l g j o _ n=>
  grind
theorem fZ(n:Nat)(b:0<n):∃i d,(choose<|.mapNext n).run P w=.ok i { w with drawn:=d }/\i<n/\w.drawn<=d:=by
 rw[run_choose];by_cases c:n<=1
 ·refine⟨0,w.drawn,?_,b,Nat.le_refl _⟩;simp[yi,c]
 ·refine⟨w.tape w.drawn (.mapNext n) % n,w.drawn+1,?_,Nat.mod_lt _ b,Nat.le_succ _⟩;grind [yi,Question.cut]
theorem ZM(j:R p h w){W:V}{A:Value}{g:Bool}{t:TypeId}(M:Ab p W A){l:List (V×H)}(f:Sc h W g=some l):
  ∃v h' v' p' w',(v,h')∈l/\(Instr.next A g t).run P w=.ok v' w'/\Ab p' v v'/\Ext p h w p' h' w':=by
 unfold Sc at f;split at f
 case h_2=>cases f
 rename_i b;simp only[Ab]at M;obtain⟨r,n,I,rfl⟩:=M;split at f
 case h_3=>cases f
 case h_1=>
  rename_i since seen last B;cases f;obtain⟨r',n',x,s,D,E⟩:=j.obj _ _ B;rw[I]at s;cases s;simp only[Jy]at E;subst E;refine⟨_,_,.tuple #[.bool false],p,w,zn.2 rfl,?_,by simp[Ab],zq j⟩;unfold Instr.next;simp only[zf,getObj,ye,D,zd];rfl
 case h_2=>
  rename_i m since seen last B;split at f
  case h_2=>cases f
  rename_i es G hm;cases J:(es.all (fun e=>zh e.2.2 since)&&z7 since last)with
  |false=>grind
  |true=>
   simp only[J,we]at f;simp only[ze,yo]at J;obtain⟨N,c2⟩:=J;obtain⟨r',n',x,s,D,E⟩:=j.obj _ _ B;rw[I]at s;cases s;obtain⟨rm,nm,hpm,rfl⟩:=E;obtain⟨r2,n2,x2,k1,k2,l2,k3,k4⟩:=j.obj _ _ hm;rw[hpm]at k1;cases k1;subst k3;rw[k4.all fun b=>zh b since]at N;have O:∀e∈l2.toList,e.born<since:=by
    intro e X;have:=zj.1 N e X;simp_all
   have Z:(!seen.toArray.isEmpty&& !l2.isEmpty&&l2.all (·.born>=last))=false:=by
    cases hl:l2.toList with
    |nil=>
     simp_all
    |cons e0 U=>
     grind
   have y:(l2.filter fun e=> !seen.toArray.contains e.born).toList=l2.toList.filter fun e=> !seen.contains e.born:=by
    simp
   have c:=k4.filter fun b=> !seen.contains b
   have e1:((l2.filter fun e=> !seen.toArray.contains e.born).filter (·.born<since))=l2.filter fun e=> !seen.toArray.contains e.born:=by
    grind [Array.toList_inj,Array.toList_filter,List.filter_eq_self]
   have e2:((l2.filter fun e=> !seen.toArray.contains e.born).filter (·.born>=since))= #[]:=by
    apply Array.toList_inj.1;grind [List.filter_eq_nil_iff]
   unfold Instr.next;simp only[zf,getObj,ye,D,zd,k2];rw[wc ah];simp only[e1,e2,Array.append_empty];generalize hL:(l2.filter fun e=> !seen.toArray.contains e.born)=L at*;rw[<-y]at c;have K:=c.length;split at f
   case h_1=>
    cases f;have Y:L= #[]:=by
     grind
    refine⟨_,_,.tuple #[.bool false],p,w,zn.2 rfl,?_,by simp[Ab],zq j⟩;simp_all [yi]
   case h_2=>
    have z:0<L.size:=by
     grind
    have q:L.isEmpty=false:=ah
    simp only[q,zz,vf,Array.empty_append,Array.size_map];obtain⟨i,d,g1,Q,g4⟩:=fZ (P:=P) (w:=w) L.size z;simp only[zf,g1,zd];have hi:L[i]?=some L[i]:=by simp[Q]
    obtain⟨k,v,q1,q2,q3⟩:=c.get (i:=i) (e:=L[i]) (by simp[Q]);simp only[Array.getElem?_map,hi,Option.map_some,zf];have o:=Ext.drew j d;have u:=Ext.put o.rel B I (o':=.miter (some m) since (seen++[L[i].born]) G) (x':=.mapIter (some rm) since (seen.toArray.push L[i].born) G) ⟨rm,nm,hpm,by simp⟩
     (w':=⟨w.heap.setIfInBounds r<|.mapIter (some rm) since (seen.toArray.push L[i].born) G,w.tape,d,w.os,w.output⟩) rfl rfl rfl rfl
    refine⟨.tup [.bool true,k,v],_,.tuple #[.bool true,L[i].key,L[i].val],p,_,ah,?_,?_,o.trans u⟩
    ·simp[setObj,ye,D]
    simp_all [Ab]
def RW(h:H)(c:V):Option V:=
 match c with
 | .ptr b 0=>
  match h.get b with
  |some (.miter (some m) _ seen last)=>
   match h.get m with
   |some (.map es d)=>
    bif zo d last then
     match seen.getLast? with
     |some s=>match es.find? (fun e=>zo e.2.2 s)with
      |some e=>some<|.tup [e.1,e.2.1]
      |none=>none
     |none=>none
    else none
   |_=>none
  |_=>none
 |_=>none
theorem Ze(i:R p h w){j:V}{d:Value}(k:Ab p j d){v:V}(c:RW h j=some v):∃v',(Instr.entry d).run P w=.ok v' w/\Ab p v v':=by
 unfold RW at c;split at c
 case h_2=>cases c
 simp only[Ab]at k;split at c
 case h_2=>cases c
 rename_i m since seen last n;split at c
 case h_2=>cases c
 rename_i es q o;rw[Bm]at c;by_cases f:q=last
 ·simp only[f,decide_true,we]at c;split at c
  case h_2=>cases c
  rename_i s z;split at c
  case h_2=>cases c
  rename_i e l;cases c;obtain⟨y,n',x,t,u,r⟩:=i.obj _ _ n;simp only[Jy]at r;obtain⟨r2,n2,x2,k1,k2,l2,k3,k4⟩:=i.obj _ _ o;obtain⟨e',q1,q2,q3⟩:=k4.find (fun b=>zo b s) l;refine⟨.tuple #[e'.key,e'.val],?_,by simp_all [Ab]⟩;unfold Instr.entry;have g:l2.find? (fun e=>e.born==s)=some e':=by
   rw[<-Array.find?_toList, <-q1];congr 1;funext e
   rw[Bm];rfl
  simp_all [getObj,ye]
 grind
theorem Dx.erase{es:List (V×V×Nat)}{l:List MapEntry}(c:Dx p es l)(i:Nat):Dx p (es.eraseIdx i) (l.eraseIdx i):=by
 induction c generalizing i with
 |nil=>simp;exact .nil
 |@cons k v b es j l g d f n e=>
  cases i with
  |zero=>grind
  |succ i=>simp;exact .cons g d f<|e i
def Lt(T:BX)(h:H)(ts:Array TypeId)(args:List V):Option (V×H):=
 match ts[0]?,args with
 |some f,[.map b,k]=>
  match T.und f with
  |some (.map c _)=>
   match T.und c,h.get b with
   |some d,some (.map es e)=>
    bif IL T c d k then
     match Ka T c k es with
     |some (some (i,_))=>some (.tup [],h.put b<|.map (es.eraseIdx i) e)
     |some none=>some (.tup [],h.put b<|.map es e)
     |none=>none
    else none
   |_,_=>none
  |_=>none
 |_,_=>none
theorem Wg(i:T.Ok P)(s:R p h w){ts:Array TypeId}{t:TypeId}{args:List V}{args':Array Value}(N:Ar p args args'.toList){v:V}{h':H}(c:Lt T h ts args=some (v,h')):
  ∃v' p' w',(Builtin.delete_ ts t args').run P w=.ok v' w'/\Ab p' v v'/\Ext p h w p' h' w':=by
 unfold Lt at c;split at c
 case h_2=>cases c
 rename_i Z b k I;obtain⟨U,G,f,D,u⟩:=N.two;have z:args'[0]?=some U:=by rw[<-zu,f];rfl
 have A:args'[1]?=some G:=by rw[<-zu,f];rfl
 split at c
 case h_2=>cases c
 rename_i W e M;split at c
 case h_2=>cases c
 rename_i d es q g x;cases E:IL T W d k with
 |false=>grind
 |true=>
  simp only[E,we]at c;rcases Mi (es:=es) s D (by simp only[entries,x])with⟨rfl,_⟩|⟨r,l,L,b',n,e1,rfl,B,K,O,o⟩
  ·simp[Ab]at D
  ·cases e1;unfold Builtin.delete_;simp only[I,z,A,zf,Ax i M,zd,getObj,ye,O,Ja i g u E];split at c
   case h_3=>cases c
   case h_1=>
    rename_i j v0 y;cases c;obtain⟨Q,J,v1,rfl,k3,X,k4,k5⟩:=run_findKey (P:=P) (w:=w) i u g o y;refine⟨.tuple #[],p,{ w with heap:=w.heap.setIfInBounds r (.map (l.eraseIdxIfInBounds j) q) },?_,by simp[Ab],Ext.put s x B (o':=.map (es.eraseIdx j) q) ⟨_,rfl,?_⟩ rfl rfl rfl rfl⟩
    ·simp_all [setObj,ye]
    ·have:=o.erase j;simp_all
   case h_2=>
    rename_i y;cases c;obtain⟨Q,J,Y⟩:=run_findKey (P:=P) (w:=w) i u g o y;refine⟨.tuple #[],p,{ w with heap:=w.heap.setIfInBounds r (.map l q) },?_,by simp[Ab],Ext.put s x B (o':=.map es q) ⟨_,rfl,o⟩ rfl rfl rfl rfl⟩;simp_all [setObj,ye]
def Fs(T:BX)(h:H)(ts:Array TypeId)(args:List V):Option (V×H):=
 match ts[0]?,args with
 |some t,[x]=>
  match T.und t,x with
  |some (.map _ _),.nilm=>some (.tup [],h)
  |some (.map _ _),.map b=>match h.get b with
   |some (.map _ c)=>some (.tup [],h.put b<|.map [] c)
   |_=>none
  |some (.slice _),.nils=>some (.tup [],h)
  |some (.slice _),.esl=>some (.tup [],h)
  |some (.slice _),.es0=>some (.tup [],h)
  |some (.slice e),.sl b off len _ _=>
   bif zo len 0 then some (.tup [],h)
   else match T.inf e with
    |some i=>bif zh 0 i.zero.length then
      (wr h b off<|E9 i.zero<|len*i.zero.length).map fun h'=>(.tup [],h')
     else none
    |none=>none
  |_,_=>none
 |_,_=>none
theorem aI(g:T.Ok P)(j:R p h w){ts:Array TypeId}{t:TypeId}{args:List V}{args':Array Value}(J:Ar p args args'.toList){v:V}{h':H}(d:Fs T h ts args=some (v,h')):
  ∃v' p' w',(Builtin.clear_ ts t args').run P w=.ok v' w'/\Ab p' v v'/\Ext p h w p' h' w':=by
 unfold Fs at d;split at d
 case h_2=>cases d
 rename_i t0 x G;obtain⟨x',k,q⟩:=J.one;have A:args'[0]?=some x':=by rw[<-zu,k];rfl
 unfold Builtin.clear_;simp only[G,A];split at d
 case h_7=>cases d
 case h_1=>
  rename_i f;cases d;subst q;exact⟨.tuple #[],p,w,by simp[Ax g f],by simp[Ab],zq j⟩
 case h_2=>
  rename_i b f;split at d
  case h_2=>cases d
  rename_i es D B;cases d;obtain⟨r,n,u,rfl⟩:=q;obtain⟨r',n',o,y,h2,l,h3,h4⟩:=j.obj _ _ B;rw[u]at y;cases y;subst h3;refine⟨.tuple #[],p,{ w with heap:=w.heap.setIfInBounds r (.map #[] D) },?_,by simp[Ab],Ext.put j B u (o':=.map [] D) ⟨_,rfl,.nil⟩ rfl rfl rfl rfl⟩;simp[zf,Ax g f,getObj,setObj,ye,h2]
 case h_3=>
  rename_i e f;cases d;subst q;exact⟨.tuple #[],p,w,by simp[Ax g f],by simp[Ab],zq j⟩
 case h_4=>
  rename_i e f;cases d;obtain⟨_,_,rfl⟩:=q;exact⟨.tuple #[],p,w,by simp[Ax g f],by simp[Ab],zq j⟩
 case h_5=>
  rename_i e f;cases d;obtain⟨_,rfl⟩:=q;exact⟨.tuple #[],p,w,by simp[Ax g f],by simp[Ab],zq j⟩
 case h_6=>
  rename_i e b off len cap o f;obtain⟨r,n,c,u,rfl,_⟩:=q;rw[Bm]at d;by_cases h0:len=0
  ·simp only[h0,decide_true,we,zg,ym]at d;obtain⟨rfl,rfl⟩:=d;subst h0;exact⟨.tuple #[],p,w,by simp[Ax g f],by simp[Ab],zq j⟩
  ·simp only[h0,decide_false,wg]at d;split at d
   case h_2=>cases d
   rename_i i M;cases L:zh 0 i.zero.length with
   |false=>grind
   |true=>
    simp only[L,we,zi]at d;obtain⟨y,K,E⟩:=d;cases E;obtain⟨z,hzz,hzr⟩:=D5 g M;have I:=(hzr p).length;have s:=I1 (hzr p) (by simp_all)<|len*i.zero.length;obtain⟨r',m,w',g1,g2,g3⟩:=Rb (P:=P) j s K;rw[u]at g1;cases g1;refine⟨.tuple #[],p,w',?_,by simp[Ab],g3⟩;have:Builtin.zeroCells z.cells len=(Array.range<|len*i.zero.length).map (fun i=>z.cells[i % z.cells.size]!):=by
     grind [Builtin.zeroCells]
    simp only[zf,Ax g f,zd,hzz,this,g2,zp]
def xT(T:BX)(ts:Array TypeId)(args:List V):Option V:=
 match ts[0]?,args with
 |some t,[x]=>
  match T.und t,x with
  |some (.slice _),.sl _ _ _ cap 0=>some<|i64 cap
  |some (.slice _),.nils=>some<|i64 0
  |_,_=>none
 |_,_=>none
theorem mV(k:T.Ok P){ts:Array TypeId}{t:TypeId}{args:List V}{args':Array Value}(l:Ar p args args'.toList){v:V}(f:xT T ts args=some v):
  ∃v',(Builtin.cap_ ts t args').run P w=.ok v' w/\Ab p v v':=by
 unfold xT at f;split at f
 case h_2=>cases f
 rename_i t0 x q;obtain⟨x',d,i⟩:=l.one;have j:args'[0]?=some x':=by rw[<-zu,d];rfl
 unfold Builtin.cap_;simp only[q,j];split at f
 case h_3=>cases f
 case h_1=>
  rename_i e b off len cap g;cases f;simp only[Ab]at i;obtain⟨r,n,c,y,rfl,z,s,o,u⟩:=i;have:=o trivial;subst this;exact⟨_,by simp[zf,Ax k g];rfl,by rfl⟩
 case h_2=>
  rename_i e g;cases f;subst i;exact⟨_,by simp[zf,Ax k g];rfl,by rfl⟩
def RX(T:BX)(h:H)(src dst:TypeId)(x:V):Option (V×H):=
 match T.und src,T.und dst,x with
 |some .string,some<|.slice e,.str s=>
  match T.und e with
  |some (.int .u8)=>some (.sl h.nx 0 s.length s.length 1,h.push<|.cells (s.map fun b=>.int .u8<|.ofNat b.toNat) e (0,0))
  |_=>none
 |_,_,_=>none
theorem Z9(i:T.Ok P)(l:R p h w){src dst:TypeId}{x:V}{x':Value}(r:Ab p x x'){v:V}{h':H}(f:RX T h src dst x=some (v,h')):
  ∃v' p' w',(convert src dst x').run P w=.ok v' w'/\Ab p' v v'/\Ext p h w p' h' w':=by
 unfold RX at f;split at f
 case h_2=>cases f
 rename_i e s y t;split at f
 case h_2=>cases f
 rename_i u;cases f;subst r;have d:=run_bytes_of_string (P:=P) w src dst e (bytesOf s) (i.und _ _ y) (i.und _ _ t)<|i.und _ _ u;generalize z:grownCap w (bytesOf s).size 0 e=c at d;have k:s.length<=c:=by
  grind [BP,grownCap,Question.cut]
 have j:(bytesRow (bytesOf s) c).size=c:=by
  grind [bytesRow,bytesOf,BP]
 have g:=Ext.drew l<|w.drawn+1;have q:=Ext.push (n:=c) g.rel (o:=.cells (s.map fun b=>.int .u8<|.ofNat b.toNat) e (0,0)) (x:=.cells (bytesRow (bytesOf s) c) e ((bytesRow (bytesOf s) c).size,(bytesRow (bytesOf s) c).size+1)) (by
  refine⟨_,_,rfl,j,by grind,?_,ae⟩;refine Ar.toC<|Ar.mk ?_ ?_
  ·grind
  ·grind [bytesRow,bytesOf,Ab])
 refine⟨_,_,_,d,?_,g.trans q⟩;refine⟨w.heap.size,c,c,by rw[<-l.len];simp,by rfl,Nat.le_refl _,k,ae,ae⟩
def Ei(T:BX)(h:H)(s d:TypeId)(x:V):Option V:=
 match T.und s,T.und d,x with
 |some (.pointer _),some .unsafePointer,.nilp=>some .nilp
 |some .unsafePointer,some<|.pointer _,.nilp=>some .nilp
 |some (.pointer t),some .unsafePointer,.ptr b off=>
  match T.inf t,h.get b with
  |some i,some (.cells cs _ _)=>bif zh 0 i.size&&zh off cs.length then some (.ptr b off)else none
  |_,_=>none
 |some .unsafePointer,some<|.pointer u,.ptr b off=>
  match T.inf u,h.get b with
  |some i,some (.cells cs e _)=>bif zh 0 i.size&&z7 i.size cs.length&&zo e u&&zo off 0 then some (.ptr b 0)else none
  |_,_=>none
 |_,_,_=>none
theorem TH(d:R p h w){b:Nat}{cs:List V}{t:TypeId}{fz:Nat×Nat}(e:h.get b=some (.cells cs t fz)):
  ∃r n,p[b]?=some (r,n)/\w.shape? r=some (t,n)/\cs.length<=n:=by
 obtain⟨r,n,x,j,f,c,fz',rfl,i,g,_⟩:=d.obj b _ e;grind [World.shape?]
theorem aH{u:TypeId}(c:P.cellsOf u≠0)(k:Nat)(d:1<=k):liesAt P P.depth u k 0 u 1=true:=by
 have b:P.depth=(2*(P.types.size+Made.depth)+1)+1:=rfl;rw[b];simp only[liesAt,zm];rw[b];simp[rowAt,c,d,sameLayout]
theorem pY(f:T.Ok P)(D:R p h w){s d:TypeId}{x:V}{x':Value}(o:Ab p x x'){v:V}(c:Ei T h s d x=some v):
  ∃v',(convert s d x').run P w=.ok v' w/\Ab p v v':=by
 unfold Ei at c;split at c
 case h_5=>cases c
 case h_1=>
  rename_i g k;subst o;cases c;refine⟨.pointer none,?_,by rfl⟩;simp[convert,Ax f g,Ax f k,Conv.unsafePointer]
 case h_2=>
  rename_i g k;subst o;cases c;refine⟨.pointer none,?_,by rfl⟩;simp[convert,Ax f g,Ax f k,Conv.unsafePointer]
 case h_3=>
  rename_i t b off g k;split at c
  case h_2=>cases c
  rename_i i cs e fz B q;cases l:(zh 0 i.size&&zh off cs.length)with
  |false=>grind
  |true=>
   rw[l]at c;cases c;simp only[ze,zt]at l;obtain⟨j,z,A,I,_⟩:=f.inf t i B;obtain⟨r,n,k1,k2,k3⟩:=TH D q;obtain⟨r',n',q1,rfl⟩:=o;rw[k1]at q1;cases q1;refine⟨_,Lib.run_to_unsafe w ⟨r,off,none⟩ (f.und _ _ g) (f.und _ _ k) A ae k2 ah,?_⟩;simp_all [Ab]
 case h_4=>
  rename_i u b off g k;split at c
  case h_2=>cases c
  rename_i i cs e fz B q;cases l:(zh 0 i.size&&z7 i.size cs.length&&zo e u&&zo off 0)with
  |false=>grind
  |true=>
   rw[l]at c;cases c;simp only[ze,zt,yo,Bm,w5]at l;obtain⟨⟨⟨G,J⟩,rfl⟩,rfl⟩:=l;obtain⟨j,z,A,I,_⟩:=f.inf e i B;obtain⟨r,n,k1,k2,k3⟩:=TH D q;obtain⟨r',n',q1,rfl⟩:=o;rw[k1]at q1;cases q1;have y:P.cellsOf e=i.size:=by grind [Program.cellsOf]
   have E:1<=n/P.cellsOf e:=by rw[y];exact Nat.div_pos ae G
   refine⟨_,Lib.run_from_unsafe w ⟨r,0,none⟩ (f.und _ _ g) (f.und _ _ k) A k2 (aH ae _ E),?_⟩;simp_all [Ab]
def NW(args:List V):Option V:=
 match args with
 |[.nils]=>some .nilp
 |[.sl b off _ cap _]=>bif zh 0 cap then some (.ptr b off)else none
 |_=>none
theorem aG{ts:Array TypeId}{t:TypeId}{args:List V}{args':Array Value}(e:Ar p args args'.toList){v:V}(d:NW args=some v):
  ∃v',(Builtin.unsafeSliceData_ ts t args').run P w=.ok v' w/\Ab p v v':=by
 unfold NW at d;split at d
 case h_3=>cases d
 case h_1=>
  cases d;obtain⟨x,i,g⟩:=e.one;have:args'= #[x]:=ah;simp_all [Ab,Lib.run_unsafeSliceData_nil]
 case h_2=>
  rename_i b off len cap o;cases f:zh 0 cap with
  |false=>grind
  |true=>
   rw[f]at d;cases d;rw[zt]at f;obtain⟨x,i,g⟩:=e.one;have:args'= #[x]:=ah;subst this;obtain⟨r,n,c,g1,rfl,g2,g3,_⟩:=g;exact⟨_,Lib.run_unsafeSliceData_row w ts t _ len c ae,by simp_all [Ab]⟩
def Sd:V->Option UInt8
 | .int .u8 (.ofNat n)=>bif zh n 256 then some (UInt8.ofNat n)else none
 |_=>none
def HN:List V->Option Rd
 |[]=>some []
 |v::vs=>
  match Sd v,HN vs with
  |some b,some c=>some (b::c)
  |_,_=>none
theorem gQ{c:V}{b:UInt8}(h:Sd c=some b):c=.int .u8 (b.toNat:Int):=by
 unfold Sd at h;split at h
 case h_2=>cases h
 rename_i n;cases d:zh n 256 with
 |false=>grind
 |true=>
  rw[zt]at d;have:(UInt8.ofNat n).toNat=n:=by simp;omega
  grind
theorem KJ:∀ {cs:List V} {l:Rd},HN cs=some l->cs=l.map fun b=>V.int .u8 (b.toNat:Int)
 |[],l,d=>by cases d;rfl
 |c::cs,l,d=>by
  unfold HN at d;split at d
  case h_2=>cases d
  rename_i b tl f e;cases d;rw[gQ f,KJ e];rfl
def TL(T:BX)(h:H)(ts:List TypeId)(args:List V):Option (V×H):=
 match ts,args with
 |[c,_],[.ptr b 0,.int .i64<|.ofNat n]=>
  match T.und c,h.get b with
  |some (.pointer e),some (.cells cs d fz)=>
   match T.inf e,HN (cs.take n)with
   |some i,some l=>bif zo i.size 1&&zo e d&&zh 0 n&&z7 n cs.length&&z7 n 9223372036854775807&&z7 fz.2 fz.1 then some (.str l,h.kill b)else none
   |_,_=>none
  |_,_=>none
 |_,_=>none
theorem Ext.gone{w':World}(d:R p h w){b r n:Nat}{o:O}{x':Obj}(k:h.get b=some o)(q:p[b]?=some (r,n))
  (E:w'.heap=w.heap.setIfInBounds r x') (D:w'.os=w.os) (G:w'.output=w.output) (J:w'.tape=w.tape) (K:∀cs t fz,o=.cells cs t fz->¬Lk n fz) (x:w.drawn<=w'.drawn:=by exact Nat.le_refl _):Ext p h w p (h.kill b) w':=by
 refine⟨(by simp),⟨d.len,fun c l f=>?_,(d.kill b).inj⟩,by simp[E],fun s I M=>?_,fun s Q=>?_,D,G,J,fun s I A=>?_,x⟩
 ·rw[H.Dv]at f;by_cases e:c=b
  ·grind
  ·rw[wc e]at f;obtain⟨s,m,y,B,N,L⟩:=d.obj c l f;have i:r≠s:=fun g=>e<|d.inj c b l o s m n f k B<|g▸q
   grind
 ·grind [Im]
 ·grind [H.Dv,Im]
 ·obtain⟨c,m,cs,t,fz,z,j,u⟩:=A;by_cases e:c=b
  ·grind
  ·have i:r≠s:=fun g=>e<|d.inj c b _ o s m n z k j<|g▸q
   refine⟨by grind,.inl ⟨c,m,cs,t,fz,by simp_all,j,u⟩⟩
theorem Uq{w:World}{r n:Nat}{c:Array Value}{e:TypeId}{fz:Nat×Nat}(b:w.heap[r]?=some (.cells c e fz))(h0:n≠0):
  ∃fz',(w.freeze ⟨r,0,none⟩ n).heap=w.heap.setIfInBounds r (.cells c e fz'):=by
 refine⟨if fz.1==fz.2 then(0,0+n)else(min fz.1 0,max fz.2<|0+n),?_⟩;simp_all [World.freeze,Ol]
theorem gS(G:T.Ok P)(I:R p h w){ts:Array TypeId}{t:TypeId}{args:List V}{args':Array Value}(X:Ar p args args'.toList){v:V}{h':H}(f:TL T h ts.toList args=some (v,h')):
  ∃v' w',(Builtin.unsafeString_ ts t args').run P w=.ok v' w'/\Ab p v v'/\Ext p h w p h' w':=by
 unfold TL at f;split at f
 case h_2=>cases f
 rename_i K M b n o;have o:ts= #[K,M]:=ah;subst o;split at f
 case h_2=>cases f
 rename_i e cs O fz Q J;split at f
 case h_2=>cases f
 rename_i i l hi N;cases L:(zo i.size 1&&zo e O&&zh 0 n&&z7 n cs.length&&z7 n 9223372036854775807&&z7 fz.2 fz.1)with
 |false=>grind
 |true=>
  rw[L]at f;cases f;simp only[ze,zt,yo,Bm,w5]at L;obtain⟨x,y,B,u,Y⟩:=X.two;have:args'= #[x,y]:=ah;subst this;obtain⟨r,m,u,rfl⟩:=u;subst Y;obtain⟨r',m',ob,k1,k2,c,fz',rfl,k4,k5,k6,k7⟩:=I.obj b _ J;rw[u]at k1;cases k1;obtain⟨j,z,j1,j2,_⟩:=G.inf e i hi;have A:P.cellsOf e=1:=by grind [Program.cellsOf]
  have s:=KJ N;have k:l.length=n:=by
   have:=wi List.length s;grind
  have E:w.shape? r=some (e,m):=by grind [World.shape?]
  have g:∀j x,l[j]?=some x->w.cell? ((⟨r,0,none⟩:Addr).add j)=some (.int .u8 x.toNat):=by
   intro j x hx;have Z:cs[j]?=some (.int .u8 (x.toNat:Int)):=by
    have:=wi (·[j]?) s;grind
   obtain⟨v,hv,U⟩:=k6.get Z rfl;grind [Ab,Addr.Mh,World.cell?]
  have q:=Lib.run_unsafeString_row w K M t e (G.und _ _ Q) A r m E l ah ae ae g;obtain⟨W,D⟩:=Uq (n:=l.length) k2 ae;refine⟨.string<|bytesOf l,w.freeze ⟨r,0,none⟩ l.length,?_,by rfl,?_⟩
  ·rw[<-k];exact q
  ·have d:(w.freeze ⟨r,0,none⟩ l.length).os=w.os/\(w.freeze ⟨r,0,none⟩ l.length).output=w.output/\(w.freeze ⟨r,0,none⟩ l.length).tape=w.tape/\(w.freeze ⟨r,0,none⟩ l.length).drawn=w.drawn:=by
    unfold World.freeze;grind
   exact Ext.gone I J u D d.1 d.2.1 d.2.2.1 (by
    grind [Lk])<|Nat.le_of_eq d.2.2.2.symm
end
mutual
def cv:Value->Option V
 | .bool b=>some<|.bool b
 | .int k n=>some<|.int k n
 | .string s=>some<|.str s.data.toList
 | .pointer none=>some .nilp
 | .slice none 0 0=>some .nils
 | .map none=>some .nilm
 | .nilFunc=>some .nilf
 | .nilIface=>some .nili
 | .func f ⟨[]⟩ ⟨[]⟩=>some<|.fn f [] []
 | .agg ⟨cs⟩=>(tC cs).map .agg
 | .tuple ⟨cs⟩=>(tC cs).map .tup
 |_=>none
def tC:List Value->Option (List V)
 |[]=>some []
 |v::vs=>match cv v,tC vs with
  |some x,some b=>some (x::b)
  |_,_=>none
end
mutual
theorem Wf(p:Pl):∀ {v:Value} {x:V},cv v=some x->Ab p x v
 | .bool b,x,h=>by grind [cv,Ab]
 | .int k n,x,h=>by grind [cv,Ab]
 | .string s,x,h=>by simp[cv]at h;subst h;rfl
 | .pointer none,x,h=>by grind [cv,Ab]
 | .pointer (some a),x,h=>by simp[cv]at h
 | .slice none 0 0,x,h=>by grind [cv,Ab]
 | .slice none 0 (_+1),x,h=>by simp[cv]at h
 | .slice none (_+1) _,x,h=>by simp[cv]at h
 | .slice (some a) _ _,x,h=>by simp[cv]at h
 | .map none,x,h=>by grind [cv,Ab]
 | .map (some a),x,h=>by simp[cv]at h
 | .nilFunc,x,h=>by grind [cv,Ab]
 | .nilIface,x,h=>by grind [cv,Ab]
 | .func f ⟨[]⟩ ⟨[]⟩,x,h=>by simp[cv]at h;subst h;simp[Ab]
 | .func f ⟨_::_⟩ _,x,h=>by simp[cv]at h
 | .func f ⟨[]⟩ ⟨_::_⟩,x,h=>by simp[cv]at h
 | .agg ⟨cs⟩,x,h=>by
  simp only[cv,zi]at h;obtain⟨d,c,rfl⟩:=h;exact⟨_,rfl,R8 p c⟩
 | .tuple ⟨cs⟩,x,h=>by
  simp only[cv,zi]at h;obtain⟨d,c,rfl⟩:=h;exact⟨_,rfl,R8 p c⟩
 | .float _ _,x,h=>by simp[cv]at h
 | .complex _ _ _,x,h=>by simp[cv]at h
 | .chan _,x,h=>by simp[cv]at h
 | .iface _ _,x,h=>by simp[cv]at h
theorem R8(p:Pl):∀ {vs:List Value} {b:List V},tC vs=some b->Ar p b vs
 |[],b,h=>by simp_all [tC]
 |v::vs,b,h=>by
  unfold tC at h;split at h
  case h_2=>cases h
  rename_i x c e d;cases h;exact(Ba ..).2 ⟨Wf p e,R8 p d⟩
end
structure Fn where
 ntmps:Nat
 results:Array ResultVar
 body:Code
 cert:Bool
structure Ctx where
 T:BX
 ng:Nat
 fn:FuncId->Option Fn
 prim:FuncId->Option (List V->H->Option (V×H))
 spec:FuncId->Option (List V->H->Option (V×H))
 mg:Bool
def Gl(_:Ctx)(p:Pl):Prop:=Gp p
theorem Gl.ext{C:Ctx}{p p':Pl}{h h':H}{w w':World}(b:Gl C p)(e:Ext p h w p' h' w'):Gl C p':=by
 obtain⟨q,rfl⟩:=e.pre;exact Gp.app b q
def ev(_:Ctx)(fr:Fr):Operand->Option V
 | .tmp t=>some<|fr.get t
 | .const v=>cv v
 | .global g=>bif gin g Dr then some (.ptr g 0)else none
 | .func f=>some<|.fn (.func f) [] []
theorem A2{C:Ctx}{p:Pl}{fr:Fr}{a:Act}(d:Gl C p)(i:Co p fr a){x:Operand}{v:V}(b:ev C fr x=some v):Ab p v (a.eval x):=by
 cases x with
 |tmp t=>grind [ev,Act.eval,Co]
 |const v=>exact Wf p b
 |global g=>
  simp only[ev]at b;cases c:gin g Dr with
  |true=>
   rw[c]at b;simp only[we,zg]at b;subst b;obtain⟨o,e⟩:=Yh c;exact⟨g,_,d _ e,rfl⟩
  |false=>grind
 |func f=>simp only[ev,zg]at b;subst b;simp[Ab,Act.eval]
def Uu(C:Ctx)(fr:Fr):List Operand->Option (List V)
 |[]=>some []
 |x::b=>match ev C fr x,Uu C fr b with
  |some v,some vs=>some (v::vs)
  |_,_=>none
theorem I9{C:Ctx}{p:Pl}{fr:Fr}{a:Act}(c:Gl C p)(d:Co p fr a):∀ {b:List Operand} {vs:List V},Uu C fr b=some vs->Ar p vs (b.map a.eval)
 |[],vs,h=>by simp_all [Uu]
 |x::b,vs,h=>by
  unfold Uu at h;split at h
  case h_2=>cases h
  rename_i v e g f;cases h;exact(Ba ..).2 ⟨A2 c d g,I9 c d f⟩
def U6(C:Ctx)(fr:Fr):Option Operand->Option (Option V)
 |none=>some none
 |some x=>(ev C fr x).map some
theorem NL{C:Ctx}{p:Pl}{fr:Fr}{a:Act}(c:Gl C p)(d:Co p fr a){x:Option Operand}{v:Option V}(b:U6 C fr x=some v):G6 p v (x.map a.eval):=by
 cases x with
 |none=>simp[U6]at b;subst b;rfl
 |some x=>
  simp only[U6,zi]at b;obtain⟨u,e,rfl⟩:=b;exact⟨_,rfl,A2 c d e⟩
def WA(C:Ctx)(fr:Fr):List (Nat×Operand)->Option (List<|Nat×V)
 |[]=>some []
 |(i,x)::b=>match ev C fr x,WA C fr b with
  |some v,some vs=>some ((i,v)::vs)
  |_,_=>none
theorem Ni{C:Ctx}{p:Pl}{fr:Fr}{a:Act}(c:Gl C p)(d:Co p fr a):∀ {b:List (Nat×Operand)} {vs:List (Nat×V)},WA C fr b=some vs->Th p vs (b.map fun(i,x)=>(i,a.eval x))
 |[],vs,h=>by simp[WA]at h;subst h;exact .nil
 |(i,x)::b,vs,h=>by
  unfold WA at h;split at h
  case h_2=>cases h
  rename_i v f g e;cases h;exact .cons (A2 c d g)<|Ni c d e
inductive OR where
 |val (v:V) (h:H)
 |skip (h:H)
 |enter (f:FuncId) (args:List V)
 |round (b:Nat) (l:LS) (fr:Fr)
 |alts (l:List (V×H))
def Fr.Zm(f:Fr)(t:Nat)(v:V):Fr:=bif zh t f.n then⟨f.n,f.m.set t<|some v⟩else f
def GP:List Tmp->List V->Fr->Fr
 |t::ts,v::vs,f=>GP ts vs<|f.Zm t v
 |_,_,f=>f
theorem Em.Zm{p:Pl}{f:Fr}{tmps:Array Value}(c:Em p f tmps){v:V}{v':Value}(g:Ab p v v')(t:Nat):Em p (f.Zm t v) (tmps.setIfInBounds t v'):=by
 unfold Fr.Zm;simp only[F4];by_cases b:t<f.n
 ·simp only[b,decide_true,we];refine⟨by simp[c.1],fun s=>?_⟩;have d:t<tmps.size:=c.1▸b;by_cases e:s=t
  ·simp_all [Fr.get]
  ·have:=c.2 s;simp only[Fr.get,PM.CD,wc e]at this ⊢;rw[zk,z8 ae, <-zk];omega
 ·grind [Em]
theorem Em.GP{p:Pl}:∀ {ts:List Tmp} {vs:List V} {b:List Value},Ar p vs b->∀ {f:Fr} {tmps:Array Value},Em p f tmps->Em p (GP ts vs f) ((ts.zip b).foldl (fun tmps (t,a)=>tmps.setIfInBounds t a) tmps)
 |[],vs,b,_,f,tmps,c=>by simpa [Det.GP]using c
 |t::ts,[],b,d,f,tmps,c=>by simp_all [Det.GP]
 |t::ts,v::vs,b,d,f,tmps,c=>by
  obtain⟨u,i,rfl,g,e⟩:=d;exact Em.GP e<|c.Zm g t
def Bx(h:H):Option V->Option OR
 |some v=>some<|.val v h
 |none=>none
def EW:Option (V×H)->Option OR
 |some (v,h)=>some<|.val v h
 |none=>none
def eE:Option H->Option OR
 |some h=>some<|.skip h
 |none=>none
def EG(C:Ctx)(h:H)(b:Builtin)(ts:Array TypeId)(args:List V):Option OR:=
 match b with
 | .len=>Bx h<|Fy C.T h ts args
 | .append=>EW<|Gg C.T h ts args
 | .copy=>EW<|fE C.T h ts args
 | .max=>Bx h<|Gb iZ args
 | .min=>Bx h<|Gb pZ args
 | .cap=>Bx h<|xT C.T ts args
 | .delete=>EW<|Lt C.T h ts args
 | .clear=>EW<|Fs C.T h ts args
 | .unsafeSliceData=>Bx h<|NW args
 | .unsafeString=>EW<|TL C.T h ts.toList args
 |_=>none
def HW(C:Ctx)(h:H)(f:V)(args:List V):Option OR:=
 match f with
 | .fn (.func g) first captured=>
  match C.prim g with
  |some q=>EW<|q (first++args++captured) h
  |none=>match C.fn g with
   |some _=>some<|.enter g<|first++args++captured
   |none=>none
 | .yld b=>match h.get b with
  |some (.loop l)=>bif zo args.length l.ps.size then some (.round b l<|GP l.ps.toList args l.fr)else none
  |_=>none
 |_=>none
def Nh(C:Ctx)(h:H)(x:V)(name:String)(args:List V):Option OR:=
 match x with
 | .iface t v=>match C.T.mth t name with
  |some g=>HW C h (.fn (.func g) [] []) (v::args)
  |none=>none
 |_=>none
def Xb:Operand->Bool
 | .const _=>true
 |_=>false
def nU(T:BX)(op:BinOp)(t:TypeId)(x y:Operand)(v u:V):Option V:=
 match op,v,u,T.und t with
 | .eql,.nili,.nili,some (.interface _)=>bif Xb x||Xb y then some (.bool true)else none
 | .neq,.nili,.nili,some (.interface _)=>bif Xb x||Xb y then some (.bool false)else none
 |_,_,_,_=>none
def JG(T:BX)(op:BinOp)(t:TypeId)(x y:Operand)(v u:V):Option V:=
 match nU T op t x y v u with
 |some r=>some r
 |none=>J6 T op t v u
def Gu(C:Ctx)(fr:Fr)(h:H)(o:Oper):Option OR:=
 let ρ:=ev C fr
 match o.op with
 | .move x| .assign x=>Bx h<|ρ x
 | .pick c a b=>match ρ c with
  |some (.bool t)=>Bx h<|if t then ρ a else ρ b
  |_=>none
 | .alloc t=>EW<|Gv C.T h t
 | .box t x=>EW<|(ρ x).map fun v=>Z1 h t v
 | .build t e=>match WA C fr e.toList with
  |some ps=>Bx h<|J4 C.T t ps
  |none=>none
 | .buildSlice t n e=>match WA C fr e.toList with
  |some ps=>EW<|Ey C.T h t n ps
  |none=>none
 | .load t x=>match ρ x with
  |some v=>Bx h<|EH C.T h t v
  |none=>none
 | .store t x y=>match ρ x,ρ y with
  |some v,some u=>eE<|Hp C.T h t v u
  |_,_=>none
 | .nilCheck x=>match ρ x with
  |some (.ptr b i)=>Bx h<|some<|.ptr b i
  |some (.iface t v)=>Bx h<|some<|.iface t v
  |_=>none
 | .binOp op t x y _=>match ρ x,ρ y with
  |some v,some u=>Bx h<|JG C.T op t x y v u
  |_,_=>none
 | .unOp op _ x=>match ρ x with
  |some v=>Bx h<|dun op v
  |none=>none
 | .convert s d x=>match ρ x with
  |some v=>Bx h<|FG C.T h s d v
  |none=>none
 | .makeInterface t x=>match ρ x,C.T.und t with
  |some v,some d=>match d with
   | .interface _=>none
   |_=>Bx h<|some<|.iface t v
  |_,_=>none
 | .makeFunc f first captured=>match Uu C fr first.toList,Uu C fr captured.toList with
  |some a,some b=>Bx h<|some<|.fn f a b
  |_,_=>none
 | .makeMap _ r=>match U6 C fr r with
  |some v=>EW<|II h v
  |none=>none
 | .makeSlice t l c=>match ρ l,ρ c with
  |some v,some u=>EW<|Pv C.T h t v u
  |_,_=>none
 | .slice t x lo z mx=>match ρ x,U6 C fr lo,U6 C fr z,U6 C fr mx with
  |some v,some l,some r,some m=>Bx h<|DI C.T t v l r m
  |_,_,_,_=>none
 | .fieldAddr t x f=>match ρ x with
  |some v=>Bx h<|J2 C.T t v f
  |none=>none
 | .field t x f=>match ρ x with
  |some v=>Bx h<|JW C.T t v f
  |none=>none
 | .indexAddr t x i=>match ρ x,ρ i with
  |some v,some u=>Bx h<|EX C.T t v u
  |_,_=>none
 | .index t x i=>match ρ x,ρ i with
  |some v,some u=>Bx h<|IN C.T t v u
  |_,_=>none
 | .lookup t x i ok=>match ρ x,ρ i with
  |some v,some u=>Bx h<|EE C.T h t v u ok
  |_,_=>none
 | .mapUpdate t m k x| .insert t m k x=>match ρ m,ρ k,ρ x with
  |some a,some b,some c=>eE<|Hf C.T h t a b c
  |_,_,_=>none
 | .range t x=>match ρ x with
  |some v=>EW<|HQ C.T h t v
  |none=>none
 | .next x j=>match ρ x with
  |some v=>bif j then EW (MN h v j)else(Sc h v j).map .alts
  |none=>none
 | .entry x=>match ρ x with
  |some v=>Bx h<|RW h v
  |none=>none
 | .extract x i=>match ρ x with
  |some v=>Bx h<|GY v i
  |none=>none
 | .call c=>match c.callee,Uu C fr c.args.toList with
  | .builtin b,some args=>EG C h b c.argTypes args
  | .value f,some args=>match ρ f with
   |some g=>HW C h g args
   |none=>none
  | .invoke x q,some args=>match ρ x with
   |some v=>Nh C h v q args
   |none=>none
  |_,_=>none
 |_=>none
abbrev FU:=Ctx->Fr->H->Option OR
def vV(a0:Operand):FU:=fun C fr h=>Bx h<|ev C fr a0
def fT(a0:Operand):FU:=fun C fr h=>Bx h<|ev C fr a0
def xM(a0:Operand)(a1:Operand)(a2:Operand):FU:=fun C fr h=>match ev C fr a0 with|some (.bool t)=>Bx h (if t then ev C fr a1 else ev C fr a2)|_=>none
def pF(a0:TypeId):FU:=fun C _fr h=>EW<|Gv C.T h a0
def Abn(a0:TypeId)(a1:Operand):FU:=fun C fr h=>EW<|(ev C fr a1).map fun v=>Z1 h a0 v
def mI(a0:TypeId)(a1:Array (Nat×Operand)):FU:=fun C fr h=>match WA C fr a1.toList with|some ps=>Bx h (J4 C.T a0 ps)|none=>none
def Q7(a0:TypeId)(a1:Nat)(a2:Array (Nat×Operand)):FU:=fun C fr h=>match WA C fr a2.toList with|some ps=>EW (Ey C.T h a0 a1 ps)|none=>none
def gN(a0:TypeId)(a1:Operand)(a2:Operand)(a3:Operand):FU:=fun C fr h=>match ev C fr a1,ev C fr a2,ev C fr a3 with|some a,some b,some c=>eE (Hf C.T h a0 a b c)|_,_,_=>none
def yY(a0:TypeId)(a1:Operand):FU:=fun C fr h=>match ev C fr a1 with|some v=>Bx h (EH C.T h a0 v)|none=>none
def rZ(a0:TypeId)(a1:Operand)(a2:Operand):FU:=fun C fr h=>match ev C fr a1,ev C fr a2 with|some v,some u=>eE (Hp C.T h a0 v u)|_,_=>none
def nZ(_a0:Nat):FU:=fun _ _ _=>none
def qV(_a0:Nat):FU:=fun _ _ _=>none
def Wu(a0:Operand):FU:=fun C fr h=>match ev C fr a0 with|some (.ptr b i)=>Bx h (some<|.ptr b i)|some (.iface t v)=>Bx h (some<|.iface t v)|_=>none
def oR(a0:BinOp)(a1:TypeId)(a2:Operand)(a3:Operand)(_a4:TypeId):FU:=fun C fr h=>match ev C fr a2,ev C fr a3 with|some v,some u=>Bx h (JG C.T a0 a1 a2 a3 v u)|_,_=>none
def yR(a0:UnOp)(_a1:TypeId)(a2:Operand):FU:=fun C fr h=>match ev C fr a2 with|some v=>Bx h (dun a0 v)|none=>none
def YU(a0:TypeId)(a1:TypeId)(a2:Operand):FU:=fun C fr h=>match ev C fr a2 with|some v=>Bx h (FG C.T h a0 a1 v)|none=>none
def HZ(_a0:TypeId)(_a1:Operand):FU:=fun _ _ _=>none
def Nd(a0:TypeId)(a1:Operand):FU:=fun C fr h=>match ev C fr a1,C.T.und a0 with|some v,some d=>(match d with| .interface _=>none|_=>Bx h<|some<|.iface a0 v)|_,_=>none
def V4(a0:Go.Fn)(a1:Array Operand)(a2:Array Operand):FU:=fun C fr h=>match Uu C fr a1.toList,Uu C fr a2.toList with|some a,some b=>Bx h (some<|.fn a0 a b)|_,_=>none
def Zs(_a0:TypeId)(a1:Option Operand):FU:=fun C fr h=>match U6 C fr a1 with|some v=>EW (II h v)|none=>none
def VG(_a0:TypeId)(_a1:Operand):FU:=fun _ _ _=>none
def TY(a0:TypeId)(a1:Operand)(a2:Operand):FU:=fun C fr h=>match ev C fr a1,ev C fr a2 with|some v,some u=>EW (Pv C.T h a0 v u)|_,_=>none
def oP(a0:TypeId)(a1:Operand)(a2:Option Operand)(a3:Option Operand)(a4:Option Operand):FU:=fun C fr h=>match ev C fr a1,U6 C fr a2,U6 C fr a3,U6 C fr a4 with|some v,some l,some r,some m=>Bx h (DI C.T a0 v l r m)|_,_,_,_=>none
def UK(a0:TypeId)(a1:Operand)(a2:Nat):FU:=fun C fr h=>match ev C fr a1 with|some v=>Bx h (J2 C.T a0 v a2)|none=>none
def nD(a0:TypeId)(a1:Operand)(a2:Nat):FU:=fun C fr h=>match ev C fr a1 with|some v=>Bx h (JW C.T a0 v a2)|none=>none
def TD(a0:TypeId)(a1:Operand)(a2:Operand):FU:=fun C fr h=>match ev C fr a1,ev C fr a2 with|some v,some u=>Bx h (EX C.T a0 v u)|_,_=>none
def nY(a0:TypeId)(a1:Operand)(a2:Operand):FU:=fun C fr h=>match ev C fr a1,ev C fr a2 with|some v,some u=>Bx h (IN C.T a0 v u)|_,_=>none
def cH(a0:TypeId)(a1:Operand)(a2:Operand)(a3:Bool):FU:=fun C fr h=>match ev C fr a1,ev C fr a2 with|some v,some u=>Bx h (EE C.T h a0 v u a3)|_,_=>none
def Tj(a0:TypeId)(a1:Operand)(a2:Operand)(a3:Operand):FU:=fun C fr h=>match ev C fr a1,ev C fr a2,ev C fr a3 with|some a,some b,some c=>eE (Hf C.T h a0 a b c)|_,_,_=>none
def WD(_a0:TypeId)(_a1:Operand)(_a2:Operand):FU:=fun _ _ _=>none
def S0(_a0:TypeId)(_a1:Operand)(_a2:Operand)(_a3:Operand):FU:=fun _ _ _=>none
def oH(a0:TypeId)(a1:Operand):FU:=fun C fr h=>match ev C fr a1 with|some v=>EW (HQ C.T h a0 v)|none=>none
def vN(a0:Operand)(a1:Bool):FU:=fun C fr h=>match ev C fr a0 with|some v=>bif a1 then EW (MN h v a1)else(Sc h v a1).map .alts|none=>none
def qP(a0:Operand):FU:=fun C fr h=>match ev C fr a0 with|some v=>Bx h (RW h v)|none=>none
def SC(_a0:Operand)(_a1:TypeId)(_a2:TypeId)(_a3:Bool):FU:=fun _ _ _=>none
def Zi(a0:Operand)(a1:Nat):FU:=fun C fr h=>match ev C fr a0 with|some v=>Bx h (GY v a1)|none=>none
def vD(a0:Call):FU:=fun C fr h=>match a0.callee,Uu C fr a0.args.toList with| .builtin b,some args=>EG C h b a0.argTypes args| .value f,some args=>(match ev C fr f with|some g=>HW C h g args|none=>none)| .invoke x c,some args=>(match ev C fr x with|some v=>Nh C h v c args|none=>none)|_,_=>none
def Ab2(_a0:Call):FU:=fun _ _ _=>none
def rQ(_a0:Call):FU:=fun _ _ _=>none
def oL(_a0:Operand):FU:=fun _ _ _=>none
def yG(_a0:Operand)(_a1:Operand):FU:=fun _ _ _=>none
def yK(_a0:TypeId)(_a1:Operand)(_a2:Bool):FU:=fun _ _ _=>none
def eF(_a0:Array SelectCase)(_a1:Bool):FU:=fun _ _ _=>none
def opF(o:Op):FU:=@Op.casesOn (fun _=>FU) o vV fT xM pF Abn mI Q7 gN yY rZ nZ qV Wu oR yR YU HZ Nd V4 Zs VG TY oP UK nD TD nY cH Tj WD S0 oH vN qP SC Zi vD Ab2 rQ oL yG yK eF
def GA(C:Ctx)(fr:Fr)(h:H)(o:Oper):Option OR:=opF o.op C fr h
theorem CS(C:Ctx)(fr:Fr)(h:H)(o:Oper):GA C fr h o=Gu C fr h o:=by
 unfold GA Gu;cases o.op<;>rfl
def Iw(C:Ctx)(fr:Fr)(h:H)(o:Oper):Option OR:=
 match GA C fr h o with
 |some r=>some r
 |none=>match o.op with
  | .convert s d x=>match ev C fr x with
   |some v=>match Ei C.T h s d v with
    |some u=>some<|.val u h
    |none=>EW<|RX C.T h s d v
   |none=>none
  |_=>none
structure Ctx.Ok(C:Ctx)(P:Program):Prop where
 T:C.T.Ok P
 fn : ∀ f i, C.fn f = some i -> ∃ fn, P.funcs[f]? = some fn /\ fn.name ≠ "runtime.NumGoroutine" /\ fn.body = some i.body /\ fn.ntmps = i.ntmps /\ fn.results = i.results
 prim:∀f q,C.prim f=some q->∀(p:Pl) (h:H) (w:World) (args:List V) (args':Array Value) v h',R p h w->Gl C p->Ar p args args'.toList->q args h=some (v,h')->
  ∃v' p' w',(callFunc f args').run P w=.ok (.value v') w'/\Ab p' v v'/\Ext p h w p' h' w'
 spec:∀f q,C.spec f=some q->∀(p:Pl) (h:H) (w:World) (args:List V) (args':Array Value) v h',R p h w->Gl C p->Ar p args args'.toList->q args h=some (v,h')->
  Calls P f args' w fun e w'=>∃v' p',e=.returned v'/\Ab p' v v'/\Ext p h w p' h' w'
def P4(p:Pl)(h:H)(w:World):OR->Result Next->Prop
 | .val v h',r=>∃v' p' w',r=.ok (.value v') w'/\Ab p' v v'/\Ext p h w p' h' w'
 | .skip h',r=>∃p' w',r=.ok .skip w'/\Ext p h w p' h' w'
 | .enter f args,r=>∃args',r=.ok (.enter f args') w/\Ar p args args'.toList
 | .round b l fr,r=>∃k n f tmps,p[b]?=some (k,n)/\h.get b=some (.loop l)/\r=.ok (.round k f tmps l.asg l.body) w/\Em p fr tmps
 | .alts l,r=>∃v h' v' p' w',(v,h')∈l/\r=.ok (.value v') w'/\Ab p' v v'/\Ext p h w p' h' w'
section
variable {C:Ctx}{P:Program}{p:Pl}{h:H}{w:World}{fr:Fr}{a:Act}
theorem BS{s:Sem Value}{v:Option V}{r:OR}(d:R p h w)(b:Bx h v=some r)(c:∀x,v=some x->∃v',s.run P w=.ok v' w/\Ab p x v'):P4 p h w r ((do pure (.value<|<-s):Sem Next).run P w):=by
 cases v with
 |none=>simp[Bx]at b
 |some x=>
  simp only[Bx,zg]at b;subst b;obtain⟨v',f,e⟩:=c x rfl;exact⟨v',p,w,by simp[f],e,zq d⟩
theorem Dj{s:Sem Value}{v:Option (V×H)}{r:OR}(b:EW v=some r)(c:∀x h',v=some (x,h')->∃v' p' w',s.run P w=.ok v' w'/\Ab p' x v'/\Ext p h w p' h' w'):P4 p h w r ((do pure (.value<|<-s):Sem Next).run P w):=by
 match v,b,c with
 |some (x,h'),b,c=>
  simp only[EW,zg]at b;subst b;obtain⟨v',p',w',f,d,e⟩:=c x h' rfl;exact⟨v',p',w',by simp[f],d,e⟩
 |none,b,_=>simp[EW]at b
theorem W6{s:Sem Unit}{v:Option H}{r:OR}(b:eE v=some r)(c:∀h',v=some h'->∃w',s.run P w=.ok () w'/\Ext p h w p h' w'):P4 p h w r ((do s;pure .skip:Sem Next).run P w):=by
 cases v with
 |none=>simp[eE]at b
 |some h'=>
  simp only[eE,zg]at b;subst b;obtain⟨w',e,d⟩:=c h' rfl;exact⟨p,w',by simp[e],d⟩
theorem Mq(I:C.Ok P)(A:R p h w)(M:Gl C p){f:V}{E:Value}{args:List V}{args':Array Value}(G:Ab p f E)(u:Ar p args args'.toList){r:OR}(b:HW C h f args=some r):
  P4 p h w r ((do let d<-zx E args';invoke d.target d.args:Sem Next).run P w):=by
 unfold HW at b;split at b
 case h_3=>cases b
 case h_2=>
  split at b
  case h_2=>cases b
  rename_i l B;rw[Bm]at b;by_cases O:args.length=l.ps.size
  ·simp only[O,decide_true,we,zg]at b;subst b;obtain⟨k,n,L,rfl⟩:=G;obtain⟨k',n',o,s,z,f0,tmps,r,m,j,K,rfl⟩:=A.obj _ _ B;have W:=u.length;simp only[zx,zf,zp,zd,invoke];have e:((l.ps.zip args').foldl (fun tmps (t,a)=>tmps.setIfInBounds t a) tmps)=(l.ps.toList.zip args'.toList).foldl (fun tmps (t,a)=>tmps.setIfInBounds t a) tmps:=by
    grind [Array.toList_zip]
   have D:=Em.GP (ts:=l.ps.toList) u j;refine⟨k,n,f0,_,L,B,?_,D⟩;simp_all [run_yield]
  grind
 rename_i g first captured
 obtain⟨x,y,rfl,N,Q⟩:=G;have c:Ar p (first++args++captured) (x++args'++y).toList:=by
  simpa using(N.append u).append Q
 simp only[zx,zf,zp,zd,invoke];split at b
 case h_1=>
  rename_i q J;match hqr:q (first++args++captured) h,b with
  |some (v,h'),b=>
   simp only[EW,zg]at b;subst b;obtain⟨v',p',w',s,z,j⟩:=I.prim g q J p h w _ _ v h' A M c hqr;exact⟨v',p',w',s,z,j⟩
  |none,b=>simp[EW]at b
 case h_2=>
  split at b
  case h_2=>cases b
  rename_i i U;cases b;obtain⟨fn,s,z,j,K,D⟩:=I.fn g i U;refine⟨_,?_,c⟩;simp_all [callFunc]
theorem UY(l:C.Ok P)(s:R p h w)(o:Gl C p){x:V}{x':Value}{name:String}{args:List V}{args':Array Value}(q:Ab p x x')(A:Ar p args args'.toList){r:OR}(c:Nh C h x name args=some r):
  P4 p h w r ((invoke (.fn (.method name) #[])<|#[x']++args').run P w):=by
 unfold Nh at c;split at c
 case h_2=>cases c
 rename_i t v;split at c
 case h_2=>cases c
 rename_i g u;obtain⟨y,rfl,B⟩:=q;obtain⟨j,m,d,h1,h2,h3,h4,h5,h6⟩:=l.T.mth t name g u;have key:(invoke (.fn (.method name) #[])<|#[.iface t y]++args').run P w=((do let d<-zx (.func (.func g) #[] #[]) (#[y]++args');invoke d.target d.args:Sem Next).run P w):=by
  have Oh:(underlying t).run P w=.ok d w:=by simp_all [underlying]
  have n:(typeInfo t).run P w=.ok j w:=by unfold typeInfo;simp[h1]
  have b:∀k,(method (k+1) t y name).run P w=.ok (g,y) w:=by
   simp_all [method,follow,receiverAt,Place.get]
  have i:=b<|P.types.size+99;have e:P.types.size+Made.depth=P.types.size+99+1:=rfl;have h0:(#[Value.iface t y]++args')[0]?=some (.iface t y):=by
   grind
  have z:(#[Value.iface t y]++args').extract 1 (#[Value.iface t y]++args').size=args':=by
   simp
  simp only[invoke,zx,h0,z];simp[callMethod,e,i]
 rw[key];exact Mq l s o (f:=.fn (.func g) [] []) (by simp[Ab]) (by simp_all) c
theorem UN(g:C.Ok P)(e:R p h w){b:Builtin}{ts:Array TypeId}{t:TypeId}{cs:Array Bool}{args:List V}{args':Array Value}(f:Ar p args args'.toList){r:OR}(d:EG C h b ts args=some r):
  P4 p h w r ((builtin b ts t cs args').run P w):=by
 unfold EG at d;split at d
 case h_1=>exact BS e d fun x c=>nT g.T e f c
 case h_2=>exact Dj d fun x h' c=>Vi g.T e f c
 case h_3=>exact Dj d fun x h' c=>gB g.T e f c
 case h_4=>exact BS e d fun x c=>pD f c
 case h_5=>exact BS e d fun x c=>oK f c
 case h_6=>exact BS e d fun x c=>mV g.T f c
 case h_7=>exact Dj d fun x h' c=>Wg g.T e f c
 case h_8=>exact Dj d fun x h' c=>aI g.T e f c
 case h_9=>exact BS e d fun x c=>aG f c
 case h_10=>
  refine Dj d fun x h' c=>?_
  obtain⟨v',w',k,i,j⟩:=gS (t:=t) g.T e f c;grind
 grind
theorem lD{T:BX}(i:T.Ok P){op:BinOp}{t:TypeId}{x y:Operand}{v u:V}{v' j:Value}(g:Ab p v v')(n:Ab p u j){z:V}(f:JG T op t x y v u=some z):
  ∃l,(do eqGuard op t x y v' j;binOp op t v' j:Sem Value).run P w=.ok l w/\Ab p z l:=by
 unfold JG at f;split at f
 case h_2=>
  simp only[zf,ZT i g n f,zd];exact qN i g n f
 case h_1=>
  rename_i r o;have B:∀ {b:Bool},(bif Xb x||Xb y then some (V.bool b)else none)=some z->z=.bool b/\((∃c,x=.const c)\/∃c,y=.const c):=by
   intro b e;cases d:(Xb x||Xb y)with
   |false=>grind
   |true=>
    simp only[d,we,zg]at e;refine⟨e.symm,?_⟩;simp only[zm]at d;rcases d with d|d
    ·left;cases x<;>first|exact⟨_,rfl⟩|cases d
    ·right;cases y<;>first|exact⟨_,rfl⟩|cases d
  have A:∀op,(op=.eql\/op=.neq)->((∃c,x=.const c)\/∃c,y=.const c)->(eqGuard op t x y .nilIface .nilIface).run P w=.ok () w:=by
   intro op q d;rcases q with rfl|rfl<;>unfold eqGuard<;>rcases d with⟨c,rfl⟩|⟨c,rfl⟩<;>simp
  have s:∀ {k},T.und t=some (.interface k)->(Op.equal t .nilIface .nilIface).run P w=.ok true w:=by
   intro k Oh;unfold Op.equal Op.maxDepth Op.equalIn;rw[zf,Ax i Oh];rfl
  unfold nU at o;split at o
  case h_1=>
   have e:=(Nr (t:=t) (y':=.nilIface) g rfl).1;simp_all [Ab]
  case h_2=>
   have e:=(Nr (t:=t) (y':=.nilIface) g rfl).2;simp_all [Ab]
  grind
theorem kC(G:C.Ok P)(D:R p h w)(q:Gl C p)(A:Co p fr a){o:Oper}{r:OR}(e:GA C fr h o=some r):P4 p h w r ((execOp a.eval o).run P w):=by
 rw[CS]at e;unfold Gu at e;unfold execOp;cases Z:o.op<;>simp only[Z]at e ⊢<;>try (cases e;done)
 case move x|assign x=>
  cases j:ev C fr x with
  |none=>simp[j,Bx]at e
  |some v=>simp[j,Bx]at e;subst e;exact⟨_,p,w,rfl,A2 q A j,zq D⟩
 case pick c x y=>
  split at e
  case h_2=>cases e
  rename_i t hc;have Q:=A2 q A hc;simp only[Ab]at Q;simp only[zf,Q,asBool,zp,zd];cases t
  ·cases j:ev C fr y with
   |none=>simp[j,Bx]at e
   |some v=>simp[j,Bx]at e;subst e;exact⟨_,p,w,by simp,A2 q A j,zq D⟩
  ·cases j:ev C fr x with
   |none=>simp[j,Bx]at e
   |some v=>simp[j,Bx]at e;subst e;exact⟨_,p,w,by simp,A2 q A j,zq D⟩
 case alloc t=>exact Dj e fun x h' j=>ZU G.T D j
 case box t x=>
  refine Dj e fun v h' j=>?_
  rw[zi]at j;obtain⟨u,J,O⟩:=j;have:=pM (P:=P) (t:=t) D<|A2 q A J;grind
 case build t N=>
  split at e
  case h_2=>cases e
  rename_i ps L;refine BS D e fun x j=>Z6 G.T ?_ j
  have:=Ni q A L;simp_all
 case buildSlice t n N=>
  split at e
  case h_2=>cases e
  rename_i ps L;refine Dj e fun x h' j=>Wq G.T D ?_ j
  have:=Ni q A L;simp_all
 case load t x=>
  split at e
  case h_2=>cases e
  rename_i v B;exact BS D e fun x j=>Tl G.T D (A2 q A B) j
 case store t x y=>
  split at e
  case h_2=>cases e
  rename_i v u B J;exact W6 e fun h' j=>Zq G.T D (A2 q A B) (A2 q A J) j
 case nilCheck x=>
  split at e
  case h_3=>cases e
  case h_1=>
   rename_i b i B;have j:=A2 q A B;have K:=j;simp only[Ab]at K;obtain⟨r',n,hp,O⟩:=K;simp only[Bx,zg]at e;subst e;rw[O];exact⟨_,p,w,rfl,O▸j,zq D⟩
  case h_2=>
   rename_i t v B;have j:=A2 q A B;have K:=j;simp only[Ab]at K;obtain⟨y,O,_⟩:=K;simp only[Bx,zg]at e;subst e;rw[O];exact⟨_,p,w,rfl,O▸j,zq D⟩
 case binOp op t x y t2=>
  split at e
  case h_2=>cases e
  rename_i v u B J;refine BS D e fun z M=>?_
  exact lD G.T (A2 q A B) (A2 q A J) M
 case unOp op t x=>
  split at e
  case h_2=>cases e
  rename_i v B;exact BS D e fun x j=>vT (A2 q A B) j
 case convert s d x=>
  split at e
  case h_2=>cases e
  rename_i v B;exact BS D e fun x j=>eS G.T D (A2 q A B) j
 case makeInterface t x=>
  split at e
  case h_2=>cases e
  rename_i v d B Y;split at e
  case h_1=>cases e
  case h_2=>
   refine BS D e fun z M=>?_
   cases M;refine⟨.iface t<|a.eval x,?_,by exact⟨_,rfl,A2 q A B⟩⟩;unfold Instr.makeInterface;simp only[zf,Ax G.T Y,zd];rfl
 case makeFunc f first captured=>
  split at e
  case h_2=>cases e
  rename_i x y j hy;refine BS D e fun z M=>?_
  cases M;exact⟨_,rfl,by exact⟨_,_,rfl,by simpa using I9 q A j,by simpa using I9 q A hy⟩⟩
 case makeMap t x=>
  split at e
  case h_2=>cases e
  rename_i v B;exact Dj e fun x h' j=>U2 D (NL q A B) j
 case makeSlice t l c=>
  split at e
  case h_2=>cases e
  rename_i v u B J;exact Dj e fun x h' j=>dM G.T D (A2 q A B) (A2 q A J) j
 case slice t x lo hi mx=>
  split at e
  case h_2=>cases e
  rename_i v l r' m B X W hm;exact BS D e fun x j=>YX G.T (A2 q A B) (NL q A X) (NL q A W) (NL q A hm) j
 case fieldAddr t x f=>
  split at e
  case h_2=>cases e
  rename_i v B;exact BS D e fun x j=>aL G.T (A2 q A B) j
 case field t x f=>
  split at e
  case h_2=>cases e
  rename_i v B;exact BS D e fun x j=>YT G.T (A2 q A B) j
 case indexAddr t x i=>
  split at e
  case h_2=>cases e
  rename_i v u B J;exact BS D e fun x j=>aA G.T (A2 q A B) (A2 q A J) j
 case index t x i=>
  split at e
  case h_2=>cases e
  rename_i v u B J;exact BS D e fun x j=>ZC G.T (A2 q A B) (A2 q A J) j
 case lookup t x i ok=>
  split at e
  case h_2=>cases e
  rename_i v u B J;exact BS D e fun x j=>VW G.T D (A2 q A B) (A2 q A J) j
 case mapUpdate t m k x|insert t m k x=>
  split at e
  case h_2=>cases e
  rename_i v u z B J M;exact W6 e fun h' j=>V2 G.T D (A2 q A B) (A2 q A J) (A2 q A M) j
 case range t x=>
  split at e
  case h_2=>cases e
  rename_i v B;exact Dj e fun x h' j=>Wa G.T D (A2 q A B) j
 case next x b=>
  split at e
  case h_2=>cases e
  rename_i v B;cases b with
  |true=>exact Dj e fun x h' j=>kR D (A2 q A B) j
  |false=>
   simp only[wg,zi]at e;obtain⟨l,X,rfl⟩:=e;obtain⟨v,h',v',p',w',g1,g2,g3,g4⟩:=ZM (P:=P) (t:=o.type) D (A2 q A B) X;grind [zf,zd,zp,P4]
 case entry x=>
  split at e
  case h_2=>cases e
  rename_i v B;exact BS D e fun x j=>Ze D (A2 q A B) j
 case extract x i=>
  split at e
  case h_2=>cases e
  rename_i v B;exact BS D e fun x j=>Uw (A2 q A B) j
 case call c=>
  split at e
  case h_4=>cases e
  case h_1=>
   rename_i b args I E;have:=I9 q A E;unfold resolve;simp only[I,zf,zp,zd,invoke];exact UN G D (by simp_all) e
  case h_2=>
   rename_i f args I E;split at e
   case h_2=>cases e
   rename_i g U;have:=I9 q A E;unfold resolve;simp only[I];exact Mq G D q (A2 q A U) (by simp_all) e
  case h_3=>
   rename_i x nm args I E;split at e
   case h_2=>cases e
   rename_i v B;have:=I9 q A E;unfold resolve;simp only[I,zf,zp,zd];exact UY G D q (A2 q A B) (by simp_all) e
theorem Lo(i:C.Ok P)(e:R p h w)(f:Gl C p)(g:Co p fr a){o:Oper}{r:OR}(b:Iw C fr h o=some r):P4 p h w r ((execOp a.eval o).run P w):=by
 unfold Iw at b;split at b
 case h_1=>
  grind [kC]
 case h_2=>
  split at b
  case h_2=>cases b
  rename_i s d x l;split at b
  case h_2=>cases b
  rename_i v j;unfold execOp;simp only[l];split at b
  case h_1=>
   rename_i u k;exact BS (v:=some u) e b fun x c=>by cases c;exact pY i.T e (A2 f g j) k
  exact Dj b fun x h' c=>Z9 i.T e (A2 f g j) c
end
def A9(fr:Fr)(ops:Array Oper)(o:Oper):Bool:=
 match o.guard with
 |none=>true
 |some (j,c)=>
  match (ops[j]?).bind (·.dst)with
  |some t=>bif zh t fr.n then(match fr.get t with| .bool b=>b==c|_=>false)else false
  |none=>false
inductive Cl where
 |fn (f:FuncId) (args:List V)
 |rnd (b:Nat) (l:LS) (fr:Fr)
abbrev CX:=Cl->H->Option (List<|V×H)
def bl{α d:Type}:List α->(α->Option (List d))->Option (List d)
 |[],_=>some []
 |a::c,f=>match f a with
  |none=>none
  |some x=>match c with
   |[]=>some x
   |b::e=>match bl (b::e) f with
    |some y=>some<|x++y
    |none=>none
theorem E8{α g:Type}{f:α->Option (List g)}:∀ {l:List α} {r:List g},bl l f=some r->∀a∈l,∃x,f a=some x/\∀b∈x,b∈r
 |[],r,_,a,e=>by cases e
 |[c],r,h,a,e=>by
  grind [bl]
 |c::d::i,r,h,a,e=>by
  unfold bl at h;split at h
  ·cases h
  simp only at h;split at h
  case h_2=>cases h
  rename_i y j;rcases yn.1 e with rfl|e
  ·grind
  ·obtain⟨z,n,k⟩:=E8 j a e;grind
def Hn(fr:Fr)(d:Option Nat):List (V×H)->Option (List<|Fr×H)
 |[]=>some []
 |(v,h)::l=>match fr.put d v with
  |some f=>match Hn fr d l with
   |some r=>some ((f,h)::r)
   |none=>none
  |none=>none
theorem Om{fr:Fr}{d:Option Nat}:∀ {l:List (V×H)} {r:List (Fr×H)},Hn fr d l=some r->∀v h,(v,h)∈l->∃f,fr.put d v=some f/\(f,h)∈r
 |[],r,_,v,h,hm=>by cases hm
 |(u,k)::l,r,b,v,h,hm=>by
  unfold Hn at b;split at b
  case h_2=>cases b
  split at b
  case h_2=>cases b
  rename_i j c;rcases yn.1 hm with e|hm
  ·grind
  ·obtain⟨g,n,i⟩:=Om c v h hm;grind
def step1(C:Ctx)(call:CX)(ops:Array Oper)(o:Oper)(fr:Fr)(h:H):Option (List<|Fr×H):=
 bif A9 fr ops o then
  match Iw C fr h o with
  |some (.val v h')=>match fr.put o.dst v with
   |some fr'=>some [(fr',h')]
   |none=>none
  |some (.skip h')=>match fr.put o.dst (.tup [])with
   |some fr'=>some [(fr',h')]
   |none=>none
  |some (.enter f args)=>match call (.fn f args) h with
   |some l=>Hn fr o.dst l
   |none=>none
  |some (.round b ls f)=>match call (.rnd b ls f) h with
   |some l=>Hn fr o.dst l
   |none=>none
  |some (.alts l)=>Hn fr o.dst l
  |none=>none
 else match fr.put o.dst (.tup [])with
  |some fr'=>some [(fr',h)]
  |none=>none
def Sj(C:Ctx)(call:CX)(ops:Array Oper):List Oper->Fr->H->Option (List<|Fr×H)
 |[],fr,h=>some [(fr,h)]
 |o::b,fr,h=>match step1 C call ops o fr h with
  |some l=>bl l fun x=>Sj C call ops b x.1 x.2
  |none=>none
def FW(ro:Option Nat):Fence:={ yb with round:=ro }
theorem Vo{ro:Option Nat}{n:Nat}{P:Program}{f:FuncId}{args:Array Value}{w:World}{R:Ending->World->Prop}:CallsIn (FW ro) n P f args w R↔Calls P f args w R:=by
 have:CallsIn (FW ro) n P f args w R↔CallsIn yb n P f args w R:=Iff.rfl;grind [callsIn_wide]
theorem vQ{ro:Option Nat}{n:Nat}{P:Program}{k:Nat}{f:FuncId}{tmps:Array Value}{asg body:Code}{w:World}{R:Ending->World->Prop}(h:RoundIn yb 0 P k f tmps asg body w R):RoundIn (FW ro) n P k f tmps asg body w R:=
 ⟨trivial,fun c cs _=>h.2 c cs<|room_wide _⟩
inductive DX where
 |normal
 |exit (id:Nat)
 |ret
def DX.RH:DX->Exit
 | .normal=>.normal
 | .exit id=>.exit id
 | .ret=>.ret
section
variable {C:Ctx}{P:Program}{p:Pl}{h:H}{w:World}{fr:Fr}{a:Act}
theorem Co.put(f:Co p fr a){d:Option Nat}{v:V}{v':Value}(i:Ab p v v'){fr':Fr}(c:fr.put d v=some fr'):Co p fr' (a.put d v'):=by
 unfold Fr.put at c;cases d with
 |none=>cases c;exact f
 |some t=>
  simp only[F4]at c;by_cases b:t<fr.n
  ·simp only[b,decide_true,we,zg]at c;subst c;refine⟨by simp[yp,f.1],fun s=>?_⟩;have g:t<a.tmps.size:=f.1▸b;by_cases e:s=t
   ·simp_all [Fr.get,yp]
   ·have:=f.2 s;simp only[Fr.get,PM.CD,wc e,yp]at this ⊢;rw[zk,z8 ae, <-zk];omega
  grind
theorem Co.mono(b:Co p fr a){p':Pl}(c:∃q,p'=p++q):Co p' fr a:=by
 obtain⟨q,rfl⟩:=c;exact⟨b.1,fun t=>(b.2 t).mono q⟩
theorem Co.ext(b:Co p fr a){p':Pl}{h':H}{w':World}(e:Ext p h w p' h' w'):Co p' fr a:=b.mono e.pre
theorem mE{p:Pl}{v:V}{b:Bool}(c:Ab p v (.bool b)):v=.bool b:=by
 cases v<;>simp only[Ab]at c<;>first|(cases c;rfl)|(simp at c;done)|(done)|(done)|(done)|(done)|(done)
theorem Qe(k:Co p fr a)(ops:Array Oper)(o:Oper):zy o (yielded ops a.tmps)=A9 fr ops o:=by
 unfold zy A9;cases r:o.guard with
 |none=>rfl
 |some q=>
  obtain⟨j,d⟩:=q;simp only;unfold yielded;cases s:(ops[j]?).bind (·.dst)with
  |none=>simp
  |some t=>
   simp only[Option.bind_some,F4];by_cases c:t<fr.n
   ·have f:t<a.tmps.size:=k.1▸c;have i:=k.2 t;simp only[c,decide_true,we];have e:a.tmps[t]?=some (a.tmps.getD t undef):=by simp[f]
    rw[e];cases g:a.tmps.getD t undef with
    |bool b=>
     rw[g]at i;have:=mE i;grind
    |_=>
     rw[g]at i;cases l:fr.get t with
     |bool b=>rw[l]at i;simp[Ab]at i
     |_=>cases d<;>rfl
   ·have:a.tmps[t]?=none:=Array.getElem?_eq_none<|Nat.le_of_not_lt<|k.1▸c;grind
def Gz(p:Pl)(h:H)(w:World)(l:List (V×H))(e:Ending)(w':World):Prop:=
 ∃v h' v' p',(v,h')∈l/\e=.returned v'/\Ab p' v v'/\Ext p h w p' h' w'
structure CX.Ok(C:Ctx)(P:Program)(call:CX):Prop where
 fn:∀f args h l,call (.fn f args) h=some l->∀(p:Pl) (w:World) (args':Array Value),R p h w->Gl C p->Ar p args args'.toList->Calls P f args' w (Gz p h w l)
 rnd:∀b ls fr h l,call (.rnd b ls fr) h=some l->∀(p:Pl) (w:World) (k n:Nat) (f:FuncId) (tmps:Array Value),R p h w->Gl C p->h.get b=some (.loop ls)->p[b]?=some (k,n)->Em p fr tmps->
  RoundIn yb 0 P k f tmps ls.asg ls.body w (Gz p h w l)
theorem GG{o:Oper}{r:OR}(b:GA C fr h o=some r):∀c,o.op≠ .defer c:=by
 grind [CS,Gu]
theorem Fx{o:Oper}{r:OR}(b:Iw C fr h o=some r):∀c,o.op≠ .defer c:=by
 grind [Iw,GG]
theorem Ri{p':Pl}{l:List (V×H)}{r:List (Fr×H)}{d:Option Nat}(k:Hn fr d l=some r)(e:Co p fr a){K:Act->World->Prop}
  (j:∀x∈r,∀p' b w',Co p' x.1 b->Ext p h w p' x.2 w'->b.defers=a.defers->K b w') {v:V} {h':H} {v':Value} {w':World} (i:(v,h')∈l) (n:Ab p' v v') (c:Ext p h w p' h' w'):K (a.put d v') w':=by
 obtain⟨f,o,g⟩:=Om k v h' i;exact j _ g p' _ w' ((e.ext c).put n o) c (by cases d<;>rfl)
theorem Zf(E:C.Ok P){call:CX}(q:call.Ok C P)(t:R p h w)(u:Gl C p)(j:Co p fr a){ops:Array Oper}{i:Nat}{o:Oper}(W:ops[i]?=some o){l:List (Fr×H)}
  (d:step1 C call ops o fr h=some l) {ro:Option Nat} {n:Nat} {Q:Exit->Act->World->Prop} {K:Act->World->Prop}
  (A:∀x∈l,∀p' L w',Co p' x.1 L->Ext p h w p' x.2 w'->L.defers=a.defers->K L w'):wpOpIn (FW ro) n P ops Q i K a w:=by
 have y:∀v,(a.put o.dst v).defers=a.defers:=by intro v;cases o.dst<;>rfl
 unfold step1 at d;unfold wpOpIn;simp only[W];rw[Qe j];cases N:A9 fr ops o with
 |false=>
  simp only[N,wg]at d;refine⟨fun _ _=>trivial,?_⟩;split at d
  case h_2=>cases d
  rename_i B D;cases d;exact A _ (zn.2 rfl) p _ w (j.put (by simp[Ab,undef]) D) (zq t)<|y _
 |true=>
  simp only[N,we]at d;refine⟨fun _ _=>trivial,?_⟩;split at d
  case h_6=>cases d
  case h_1=>
   rename_i v U c;split at d
   case h_2=>cases d
   rename_i B D;cases d;obtain⟨v',p',w',s,z,r⟩:=Lo E t u j c;rw[zl _ _ _<|Fx c,s,zr];exact A _ (zn.2 rfl) p' _ w' ((j.ext r).put z D) r<|y _
  case h_2=>
   rename_i U c;split at d
   case h_2=>cases d
   rename_i B D;cases d;obtain⟨p',w',s,r⟩:=Lo E t u j c;rw[zl _ _ _<|Fx c,s,Oper.uponIn_skip];exact A _ (zn.2 rfl) p' _ w' ((j.ext r).put (by simp[Ab,undef]) D) r<|y _
  case h_3=>
   rename_i f args c;split at d
   case h_2=>cases d
   rename_i l1 M;obtain⟨args',s,z⟩:=Lo E t u j c;rw[zl _ _ _<|Fx c,s,Oper.uponIn_enter];refine⟨(by grind [FW,yb]),Vo.2<|(q.fn f args h l1 M p w args' t u z).mono ?_⟩;rintro e w' ⟨v,h',v',p',G,rfl,J,I⟩;exact Ri d j A G J I
  case h_4=>
   rename_i b ls f c;split at d
   case h_2=>cases d
   rename_i l1 M;obtain⟨k,m,g,tmps,s,z,r,O⟩:=Lo E t u j c;rw[zl _ _ _<|Fx c,r,Oper.uponIn_round];refine⟨(by grind [FW,yb]),(vQ<|q.rnd b ls f h l1 M p w k m g tmps t u z s O).mono ?_⟩;rintro e w' ⟨v,h',v',p',G,rfl,J,I⟩;exact Ri d j A G J I
  case h_5=>
   rename_i l1 c;obtain⟨v,h',v',p',w',G,s,z,r⟩:=Lo E t u j c;rw[zl _ _ _<|Fx c,s,zr];exact Ri d j A G z r
theorem T0(B:C.Ok P){call:CX}(b:call.Ok C P){ops:Array Oper}{ro:Option Nat}{n:Nat}{Q:Exit->Act->World->Prop}:
  ∀(l:List Oper) (k:Nat),(∀j,l[j]?=ops[k+j]?)->∀ {p:Pl} {h:H} {w:World} {fr:Fr} {a:Act},R p h w->Gl C p->Co p fr a->∀ {L:List (Fr×H)},Sj C call ops l fr h=some L->
  (∀x∈L,∀p' s w',Co p' x.1 s->Ext p h w p' x.2 w'->s.defers=a.defers->Q .normal s w')->wpOpsIn (FW ro) n P ops Q (List.range' k l.length) a w
 |[],k,_,p,h,w,fr,a,e,q,r,L,d,g=>by
  cases d;exact g _ (zn.2 rfl) p a w r (zq e) rfl
 |o::l,k,z,p,h,w,fr,a,e,q,r,L,d,g=>by
  unfold Sj at d;split at d
  case h_2=>cases d
  rename_i l1 M;refine Zf B b e q r (by simpa using(z 0).symm) M (K:=wpOpsIn (FW ro) n P ops Q<|List.range' (k+1) l.length) fun x I O a1 U f c u=>?_
  obtain⟨L1,E,J⟩:=E8 d x I;exact T0 B b l (k+1) (fun j=>by have:=z<|j+1;grind) c.rel (q.ext c) f E
   fun y N G a2 D t i A=>g y (J y N) G a2 D t (c.trans i) ah
theorem VM(j:C.Ok P){call:CX}(b:call.Ok C P){ops:Array Oper}{ro:Option Nat}{n:Nat}{Q:Exit->Act->World->Prop}(g:R p h w)(e:Gl C p)(i:Co p fr a){L:List (Fr×H)}
  (f:Sj C call ops ops.toList fr h=some L) {id:Nat}
  (d:∀x∈L,∀p' c w',Co p' x.1 c->Ext p h w p' x.2 w'->c.defers=a.defers->Q .normal c w'):(Code.region id ops false).wpIn (FW ro) n P Q a w:=by
 refine wpIn_region ?_;have:=T0 (Q:=Q) (ro:=ro) (n:=n) j b ops.toList 0 (by simp) g e i f d;grind [List.range_eq_range']
end
theorem Ly{C:Ctx}{fr fr':Fr}:∀ {b:List Operand},(∀x∈b,ev C fr x=ev C fr' x)->Uu C fr b=Uu C fr' b
 |[],_=>rfl
 |x::b,h=>by
  unfold Uu;rw[h x (by simp),Ly<|fun y c=>h y<|by simp[c]]
theorem Jd{C:Ctx}{fr fr':Fr}:∀ {b:List (Nat×Operand)},(∀x∈b,ev C fr x.2=ev C fr' x.2)->WA C fr b=WA C fr' b
 |[],_=>rfl
 |(i,x)::b,h=>by
  unfold WA;rw[h (i,x) (by simp),Jd<|fun y c=>h y<|by simp[c]]
theorem Qx{C:Ctx}{fr fr':Fr}{x:Option Operand}(h:∀y,x=some y->ev C fr y=ev C fr' y):U6 C fr x=U6 C fr' x:=by
 cases x with
 |none=>rfl
 |some y=>simp[U6,h y rfl]
theorem YW{C:Ctx}{fr fr':Fr}{h:H}{o:Oper}(d:∀x∈o.op.operands,ev C fr x=ev C fr' x):GA C fr h o=GA C fr' h o:=by
 obtain⟨dst,op,b,pos,after,guard⟩:=o;cases op<;>simp only[yj]at d<;>simp only[CS,Gu]
 case build t ps=>grind [Jd]
 case buildSlice t n ps=>grind [Jd]
 case makeFunc f first captured=>grind [Ly]
 case makeMap t r=>grind [Qx]
 case slice t x lo e mx=>
  grind [Qx]
 case call c=>
  grind [Ly,Call.operands]
 all_goals (first|rfl|(simp_all;done))
def reads(ops:Array Oper)(o:Oper):List Tmp:=o.looksAt ops
theorem oY{C:Ctx}{fr fr':Fr}{x:Operand}(h:∀t,x=.tmp t->fr.get t=fr'.get t):ev C fr x=ev C fr' x:=by
 cases x with
 |tmp t=>simp only[ev,h t rfl]
 |_=>rfl
theorem mem_reads{ops:Array Oper}{o:Oper}{t:Tmp}(h:Operand.tmp t∈o.op.operands):t∈reads ops o:=
 List.mem_append_left _ (List.mem_filterMap.2 ⟨.tmp t,by grind,rfl⟩)
theorem Sg{fr fr':Fr}{ops:Array Oper}{o:Oper}(d:fr.n=fr'.n)(h:∀t∈reads ops o,fr.get t=fr'.get t):A9 fr ops o=A9 fr' ops o:=by
 unfold A9;cases e:o.guard with
 |none=>rfl
 |some c=>
  obtain⟨j,b⟩:=c;simp only;cases f:(ops[j]?).bind (·.dst)with
  |none=>rfl
  |some t=>
   simp only[d];rw[h t<|List.mem_append_right _ ah]
def QG(l:List Tmp)(fr:Fr):Fr:=⟨fr.n,l.foldr (fun t m=>m.set t<|some<|fr.get t) .leaf⟩
def Pt(l:List Tmp)(a:Act):Act:={ a with tmps:=Array.ofFn (n:=a.tmps.size) fun t=>if l.contains t.1 then a.tmps.getD t undef else undef }
theorem LW(l:List Tmp)(fr:Fr)(t:Tmp):(QG l fr).get t=if t∈l then fr.get t else .tup []:=by
 unfold QG Fr.get;induction l with
 |nil=>simp
 |cons x l b=>
  simp only[List.foldr_cons,PM.CD,yn];grind
theorem QM(l:List Tmp)(a:Act)(t:Tmp):(Pt l a).tmps.getD t undef=if t∈l then a.tmps.getD t undef else undef:=by
 unfold Pt;by_cases h:t<a.tmps.size
 ·simp[h]
 simp_all
section
variable {C:Ctx}{P:Program}{p:Pl}{h:H}{w:World}{fr:Fr}{a:Act}
structure zG(p:Pl)(fr:Fr)(a:Act)(l:List Tmp):Prop where
 n:fr.n=a.tmps.size
 get:∀t∈l,Ab p (fr.get t) (a.tmps.getD t undef)
theorem zG.OP{l:List Tmp}(b:zG p fr a l):Co p (QG l fr) (Pt l a):=by
 refine⟨by simp[QG,Pt,b.n],fun t=>?_⟩;rw[LW,QM];by_cases c:t∈l
 ·simp only[c,wm];exact b.get t c
 simp_all [Ab,undef]
theorem LM{ops:Array Oper}{o:Oper}{x:Operand}(b:x∈o.op.operands):(Pt (reads ops o) a).eval x=a.eval x:=by
 cases x with
 |tmp t=>
  have:=QM (reads ops o) a t;rw[wd<|mem_reads b]at this;exact this
 |_=>rfl
theorem Q8{ops:Array Oper}{o:Oper}{x:Operand}(b:x∈o.op.operands):ev C (QG (reads ops o) fr) x=ev C fr x:=by
 refine oY fun t c=>?_
 simp_all [LW,mem_reads]
theorem I4(f:C.Ok P)(d:R p h w)(c:Gl C p){ops:Array Oper}{o:Oper}(e:zG p fr a (reads ops o))(i:∀cs b,o.op≠ .select cs b){r:OR}(g:GA C fr h o=some r):
  P4 p h w r ((execOp a.eval o).run P w):=by
 have j:=kC f d c e.OP (o:=o) (r:=r) (by grind [YW,Q8]);grind [execOp_congr,LM]
theorem Qj{ops:Array Oper}{o:Oper}(e:zG p fr a (reads ops o)):zy o (yielded ops a.tmps)=A9 fr ops o:=by
 have c:=Qe e.OP ops o;rw[Sg (fr:=QG (reads ops o) fr) (fr':=fr) (ops:=ops) (o:=o) rfl (by simp_all [LW])]at c;rw[<-c];unfold zy;cases g:o.guard with
 |none=>rfl
 |some d=>
  obtain⟨j,b⟩:=d;simp only;unfold yielded;cases k:(ops[j]?).bind (·.dst)with
  |none=>rfl
  |some t=>
   have i:t∈reads ops o:=List.mem_append_right _ ah;by_cases f:t<a.tmps.size
   ·simp_all [Pt]
   simp_all [Pt]
end
def Eh(o:Oper):Bool:=
 match o.op with
 | .move _| .assign _| .pick .. | .build .. | .load .. | .nilCheck _| .binOp .. | .unOp .. | .convert .. | .makeInterface .. | .makeFunc .. | .slice .. | .fieldAddr .. | .field .. | .indexAddr .. | .index .. | .lookup .. | .extract .. =>true
 | .call { callee:=.builtin .len,.. }| .call { callee:=.builtin .max,.. }| .call { callee:=.builtin .min,.. }| .call { callee:=.builtin .unsafeSliceData,.. }=>true
 |_=>false
def P9(o:Oper):Bool:=
 match o.op with
 | .load .. | .convert .. | .lookup .. =>true
 | .call { callee:=.builtin .len,.. }=>true
 |_=>false
def CC(o:Oper):Bool:=
 match o.op with
 | .alloc _| .box .. | .buildSlice .. =>true
 |_=>false
theorem Gf{h:H}{v:Option V}{r:OR}(b:Bx h v=some r):∃x,v=some x/\r=.val x h:=by
 cases v with
 |none=>cases b
 |some x=>cases b;simp
theorem rd_val{C:Ctx}{fr:Fr}{h:H}{o:Oper}(e:Eh o=true){r:OR}(d:GA C fr h o=some r):∃v,r=.val v h:=by
 obtain⟨dst,op,g,pos,after,guard⟩:=o;cases op<;>simp only[Eh]at e<;>simp only[CS,Gu]at d<;>try (cases e;done)
 case call c=>
  obtain⟨callee,args,ts⟩:=c;cases callee with
  |builtin b=>
   cases i:Uu C fr args.toList with
   |none=>grind
   |some j=>
    simp only[i]at d;cases b<;>first|(cases e;done)|(obtain⟨x,_,rfl⟩:=Gf d;simp)
  |value f=>cases e
  |invoke=>cases e
 all_goals
  repeat' split at d
  all_goals first
   |(cases d;done)
   |(obtain⟨x,_,rfl⟩:=Gf d;exact⟨x,rfl⟩)
theorem aU{C:Ctx}{fr:Fr}{h:H}{o:Oper}(d:Eh o=true)(k:P9 o=false){v:V}(g:GA C fr h o=some (.val v h))(h':H):GA C fr h' o=some (.val v h'):=by
 have key:∀ {x:Option V},Bx h x=some (.val v h)->Bx h' x=some (.val v h'):=by
  intro x j;obtain⟨y,rfl,e⟩:=Gf j;cases e;rfl
 obtain⟨dst,op,i,pos,after,guard⟩:=o;cases op<;>simp only[Eh]at d<;>simp only[P9]at k<;>simp only[CS,Gu]at g ⊢<;>try (first|(done)|(done))
 case call c=>
  obtain⟨callee,args,ts⟩:=c;cases callee with
  |builtin b=>
   cases n:Uu C fr args.toList with
   |none=>grind
   |some l=>
    grind [EG]
  |value f=>cases d
  |invoke=>cases d
 all_goals
  repeat' split at g
  all_goals first
   |(done)
   |exact key g
   |grind
section
variable {C:Ctx}{P:Program}{p:Pl}{h:H}{w:World}{fr:Fr}{a:Act}
def VR(T:BX)(t:TypeId)(len:Nat)(b:List (Nat×V)):Option (List V×TypeId):=
 match T.und t with
 |some (.slice e)=>match T.inf e with
  |some i=>
   bif z7 (len*i.size) 16777216&&zh 0 (i.zero.length)&&zo i.zero.length i.size then
    (Ie (fun k=>some (k*i.size,i.size)) (E9 i.zero<|len*i.size) b).map fun cs=>(cs,e)
   else none
  |none=>none
 |_=>none
def lV(C:Ctx)(fr:Fr)(o:Oper):Option (O×(Nat->V)):=
 match o.op with
 | .alloc t=>match C.T.inf t with
  |some i=>some (.cells i.zero t (0,0),fun b=>.ptr b 0)
  |none=>none
 | .box t x=>match ev C fr x with
  |some v=>some (.cells v.cells t (0,0),fun b=>.ptr b 0)
  |none=>none
 | .buildSlice t n c=>match WA C fr c.toList with
  |some ps=>match VR C.T t n ps with
   |some (cs,e)=>some (.cells cs e (0,0),fun b=>.sl b 0 n n 0)
   |none=>none
  |none=>none
 |_=>none
theorem uZ(B:C.Ok P)(N:Gl C p){ops:Array Oper}{o:Oper}(L:zG p fr a (reads ops o)){ob:O}{f:Nat->V}(l:lV C fr o=some (ob,f)):
  ∃x n v',(execOp a.eval o).run P w=.ok (.value v') { w with heap:=w.heap.push x }/\Jy p n ob x/\∀(q:Pl) b,q[b]?=some (w.heap.size,n)->Ab q (f b) v':=by
 have E:=L.OP;have d:∀(t:TypeId) (cs:List V) (c:Array Value),Ar p cs c.toList->Jy p c.size (.cells cs t (0,0)) (.cells c t):=by
  intro t cs c y;refine⟨c,(0,0),rfl,rfl,by have:=y.length;grind,?_,ae⟩;have:=y.length;rw[List.take_of_length_le ae];exact y.toC
 unfold lV at l;split at l
 case h_4=>cases l
 case h_1=>
  rename_i t D;split at l
  case h_2=>cases l
  rename_i i A;cases l;obtain⟨z,M,r⟩:=D5 B.T A;refine⟨.cells z.cells t,_,.pointer<|some ⟨w.heap.size,0,none⟩,?_,d _ _ _<|r p,(by simp_all [Ab])⟩;simp_all [execOp,Instr.alloc,newVar,Cz]
 case h_2=>
  rename_i t x D;split at l
  case h_2=>cases l
  rename_i v Q;cases l;have y:Ab p v (a.eval x):=by
   have:=A2 (C:=C) N E (x:=x) (v:=v) (by grind [Q8,yj]);grind [LM,yj]
  refine⟨.cells (a.eval x).cells t,_,.pointer<|some ⟨w.heap.size,0,none⟩,?_,d _ _ _ y.cells,(by simp_all [Ab])⟩;simp_all [execOp,Instr.box,newVar,Cz]
 case h_3=>
  rename_i t len s D;split at l
  case h_2=>cases l
  rename_i ps J;split at l
  case h_2=>cases l
  rename_i cs e g;cases l;have G:Th p ps (s.map fun(i,x)=>(i,a.eval x)).toList:=by
   grind [Ni,Jd,Q8,yj,Array.toList_map,List.map_congr_left,LM]
  unfold VR at g;split at g
  case h_2=>cases g
  rename_i I K;split at g
  case h_2=>cases g
  rename_i i A;cases j:(z7 (len*i.size) 16777216&&zh 0 (i.zero.length)&&zo i.zero.length i.size)with
  |false=>grind
  |true=>
   simp only[j,we,zi,ym]at g;obtain⟨cs',u,rfl,rfl⟩:=g;simp only[ze,yo,zt,Bm,w5]at j;obtain⟨⟨c1,c2⟩,c3⟩:=j;obtain⟨z,M,r⟩:=D5 B.T A;obtain⟨oo,h1,h2⟩:=Lb (p:=p) (place:=fun k=>some (k*i.size,i.size)) G (I1 (r p) c2<|len*i.size) u;refine⟨.cells oo I,_,.slice (some ⟨w.heap.size,0,none⟩) len len,?_,d _ _ _ h2,(by simp_all [Ab])⟩;unfold execOp;simp only[D];unfold Instr.buildSlice;simp only[zf,Ax B.T K,zd,Bt B.T A];by_cases h0:len*i.size=0
   ·grind [zf,zp,zd,Cz]
   simp_all [Cz]
theorem Ext.gD{z p:Pl}{l h:H}{i w:World}(j:Ext z l i p h w){r n:Nat}{o:O}{x:Obj}(W:w.heap[r]?=some x)(X:Jy p n o x)(Z:¬Im p h r)(N:i.heap.size<=r):
  Ext z l i (p++[(r,n)]) (h.push o) w:=by
 have D:=j.rel;have B:(p++[(r,n)])[h.nx]?=some (r,n):=by rw[<-D.len];simp
 have g:∀b,b<h.nx->(p++[(r,n)])[b]?=p[b]?:=ah;have d:∀c f,(h.push o).get c=some f->(c=h.nx/\f=o)\/(c<h.nx/\h.get c=some f):=by
  intro c f u;rw[H.Cw]at u;by_cases e:c=h.nx
  ·grind
  ·rw[wc e]at u;exact .inr ⟨D.lt u,u⟩
 refine⟨?_,⟨by simp[D.len],fun c f u=>?_,fun c I f E s m Y u K h1 Q=>?_⟩,j.size,j.same,fun s L=>?_,j.os,j.out,j.tape,fun s L R=>?_,j.dr⟩
 ·obtain⟨q,rfl⟩:=j.pre;simp
 ·rcases d c f u with⟨rfl,rfl⟩|⟨e1,e2⟩
  ·exact⟨r,n,x,B,W,X.mono _⟩
  ·obtain⟨s,m,y,A,k,G⟩:=D.obj c f e2;exact⟨s,m,y,by grind,k,G.mono _⟩
 ·rcases d c f u with⟨rfl,rfl⟩|⟨e1,e2⟩<;>rcases d I E K with⟨rfl,rfl⟩|⟨J,M⟩
  ·rfl
  ·grind [Im]
  ·grind [Im]
  ·rw[g c e1]at h1;rw[g I J]at Q;exact D.inj c I f E s m Y e2 M h1 Q
 ·obtain⟨c,f,m,A,k⟩:=L;rcases d c f A with⟨rfl,rfl⟩|⟨e1,e2⟩
  ·grind
  ·rw[g c e1]at k;exact j.im s ⟨c,f,m,e2,k⟩
 ·obtain⟨e1,h1⟩:=j.lock s L R;refine⟨e1,?_⟩;rcases h1 with⟨c,m,cs,t,fz,A,k,G⟩|h1
  ·have U:=D.lt A;exact .inl ⟨c,m,cs,t,fz,by rw[H.Cw,wc ae];exact A,by grind,G⟩
  ·refine .inr ?_;rintro⟨c,f,m,A,k⟩;rcases d c f A with⟨rfl,rfl⟩|⟨J,M⟩
   ·grind
   ·rw[g c J]at k;exact h1 ⟨c,f,m,M,k⟩
theorem Ext.aside{f p:Pl}{d h:H}{e w:World}(c:Ext f d e p h w)(x:Obj):Ext f d e p h { w with heap:=w.heap.push x }:=by
 have i:=c.rel;refine⟨c.pre,⟨i.len,fun b o l=>?_,i.inj⟩,by have:=c.size;grind,fun r g q=>?_,c.im,c.os,c.out,c.tape,fun r g s=>?_,c.dr⟩
 ·obtain⟨r,n,y,j,k,t⟩:=i.obj b o l;grind
 ·have j:=c.same r g q;grind
 ·obtain⟨j,k⟩:=c.lock r g s;grind
end
def DU(C:Ctx)(call:CX)(fr:Fr)(h:H)(o:Oper):Option (V×H):=
 match GA C fr h o with
 |some (.val v h')=>some (v,h')
 |some (.skip h')=>some (.tup [],h')
 |some (.enter f args)=>match call (.fn f args) h with
  |some [x]=>some x
  |_=>none
 |_=>none
def CI(o:Oper):Bool:= !Eh o&& !CC o
structure Stat(ops:Array Oper)(anc:Nat->Nat->Bool)(ord pos:Nat->Nat)(sc:Nat->Option Nat):Prop where
 sel:Region.noSelect ops=true
 ordp:∀q,q<ops.size->ord q<ops.size/\pos (ord q)=q
 posp:∀i,i<ops.size->pos i<ops.size/\ord (pos i)=i
 edge:∀j i,anc j i=true->∃(o:Oper) (e:Edge),ops[j]?=some o/\e∈o.after/\yc .any e=true/\(e.on=i\/anc e.on i=true)
 dir:∀(j:Nat) (o:Oper) (e:Edge),ops[j]?=some o->e∈o.after->yc .any e=true->anc j e.on=true/\e.on<ops.size
 apos:∀j i,anc j i=true->pos i<pos j
 s1:∀(i j:Nat) (o o':Oper),ops[i]?=some o->ops[j]?=some o'->CI o=true->CI o'=true->i≠j->anc i j=true\/anc j i=true
 s2:∀(i j:Nat) (o o':Oper),ops[i]?=some o->ops[j]?=some o'->CI o=true->Eh o'=true->anc j i=true\/pos j<pos i
 q1:∀(i k:Nat),sc i=some k->∃(o ok:Oper) (t:Tmp),ops[i]?=some o/\ops[k]?=some ok/\(o.op=.assign (.tmp t)\/o.op=.move (.tmp t))/\o.guard=none/\CC ok=true/\ok.dst=some t/\anc i k=true
 s3:∀(j k:Nat) (o o':Oper) (t:Tmp),ops[j]?=some o->ops[k]?=some o'->(CC o=true\/(sc j).isSome=true)->CI o'=false->o.dst=some t->t∈reads ops o'->anc k j=true->
  sc k=some j\/∃(i:Nat) (oi:Oper),ops[i]?=some oi/\CI oi=true/\anc i j=true/\anc k i=true
 s4:∀(i j:Nat) (o o':Oper),ops[i]?=some o->ops[j]?=some o'->CI o=true->CC o'=true->anc i j=true\/pos i<pos j
 s5:∀(i j:Nat) (o o':Oper),ops[i]?=some o->ops[j]?=some o'->Eh o=true->P9 o=true->CC o'=true->pos j<pos i->∃(k:Nat) (ok:Oper),ops[k]?=some ok/\CI ok=true/\pos j<pos k/\pos k<pos i
 s6:∀(i j:Nat) (o o':Oper) (t:Tmp),ops[i]?=some o->ops[j]?=some o'->i≠j->o.dst=some t->o'.dst≠some t/\(t∈reads ops o'->anc j i=true\/anc i j=true)
structure Canon(C:Ctx)(call:CX)(ops:Array Oper)(anc:Nat->Nat->Bool)(ord pos:Nat->Nat)(fr0:Fr)(h0:H)(v:Nat->V)(Hh:Nat->H)(F:Nat->Fr):Prop where
 h0:Hh 0=h0
 f0:F 0=fr0
 fn:∀q,q<=ops.size->(F q).n=fr0.n
 fget:∀q,q<ops.size->∀(o:Oper),ops[ord q]?=some o->∀t,(F (q+1)).get t=if o.dst=some t then v (ord q)else(F q).get t
 dst:∀(i:Nat) (o:Oper) (t:Tmp),ops[i]?=some o->o.dst=some t->t<fr0.n
 step:∀(i:Nat) (o:Oper),ops[i]?=some o->
  (A9 (F (pos i)) ops o=false/\v i=.tup []/\Hh (pos i+1)=Hh (pos i))\/
  (A9 (F (pos i)) ops o=true/\
   ((Eh o=true/\GA C (F (pos i)) (Hh (pos i)) o=some (.val (v i) (Hh (pos i)))/\Hh (pos i+1)=Hh (pos i))\/
    (CC o=true/\∃ob f,lV C (F (pos i)) o=some (ob,f)/\v i=f (Hh (pos i)).nx/\Hh (pos i+1)=(Hh (pos i)).push ob)\/
    (CI o=true/\DU C call (F (pos i)) (Hh (pos i)) o=some (v i,Hh (pos i+1)))))
 stable:∀(i j:Nat) (o oj:Oper),ops[i]?=some o->ops[j]?=some oj->CI o=true->Eh oj=true->P9 oj=true->A9 (F (pos j)) ops oj=true->pos j<pos i->anc i j=false->
  GA C (F (pos j)) (Hh (pos i+1)) oj=some (.val (v j) (Hh (pos i+1)))
theorem kinds(o:Oper):Eh o=true\/CC o=true\/CI o=true:=by
 grind [CI]
theorem Jh{o:Oper}(h:Eh o=true):CC o=false:=by
 grind [Eh,CC]
theorem Sv{o:Oper}(h:CI o=true):Eh o=false/\CC o=false:=by
 grind [CI]
section
variable {C:Ctx}{P:Program}{call:CX}{ops:Array Oper}{anc:Nat->Nat->Bool}{ord pos:Nat->Nat}{sc:Nat->Option Nat}{fr0:Fr}{h0:H}{v:Nat->V}{Hh:Nat->H}{F:Nat->Fr}
theorem Fw(st:Stat ops anc ord pos sc)(i:Canon C call ops anc ord pos fr0 h0 v Hh F){k:Nat}{o:Oper}{t:Tmp}(d:ops[k]?=some o)(g:o.dst=some t):
  ∀q,q<=ops.size->pos k<q->(F q).get t=v k
 |0,_,h=>by omega
 |q+1,l,h=>by
  have b:q<ops.size:=ae
  obtain⟨j,n⟩:=st.ordp q b;rw[i.fget q b (ops[ord q]) (by simp[j]) t];have f:=(zc.1 d).1;by_cases e:pos k=q
  ·have e2:ord q=k:=by rw[<-e];exact(st.posp k f).2
   grind
  ·have c:ord q≠k:=ah;have:=(st.s6 k (ord q) o (ops[ord q]) t d (by simp[j]) (Ne.symm c) g).1;rw[wc this];exact Fw st i d g q ae ae
theorem Fz(st:Stat ops anc ord pos sc)(c:Canon C call ops anc ord pos fr0 h0 v Hh F){t:Tmp}:
  ∀q,q<=ops.size->(∀k o,ops[k]?=some o->o.dst=some t->¬pos k<q)->(F q).get t=fr0.get t
 |0,_,_=>by rw[c.f0]
 |q+1,e,h=>by
  have b:q<ops.size:=ae
  obtain⟨d,f⟩:=st.ordp q b;rw[c.fget q b (ops[ord q]) (by simp[d]) t,wc]
  ·exact Fz st c q ae ah
  grind
theorem wF(st:Stat ops anc ord pos sc)(c:Canon C call ops anc ord pos fr0 h0 v Hh F){i k:Nat}(h:sc i=some k):v i=v k:=by
 obtain⟨o,ok,t,d,j,s,f,n,l,g⟩:=st.q1 i k h;have b:=(zc.1 d).1;have q:=Fw st c j l (pos i) (Nat.le_of_lt (st.posp i b).1)<|st.apos i k g;have r:A9 (F<|pos i) ops o=true:=by unfold A9;rw[f]
 have e:Eh o=true:=by grind [Eh]
 rcases c.step i o d with⟨u,_⟩|⟨_,⟨_,u,_⟩|⟨u,_⟩|⟨u,_⟩⟩
 ·grind
 ·grind [CS,Gu,ev,Bx]
 ·grind [Jh]
 grind [Sv]
structure Inv(C:Ctx)(ops:Array Oper)(pos:Nat->Nat)(sc:Nat->Option Nat)(fr0:Fr)(v:Nat->V)(Hh:Nat->H)(F:Nat->Fr)(p0:Pl)(h0:H)(w0:World)(df:List Deferred)
  (S:Nat->Prop) (m:Nat) (fl:Nat->Nat) (p:Pl) (a:Act) (w:World):Prop where
 ext:Ext p0 h0 w0 p (Hh m) w
 gl:Gl C p
 mn:m<=ops.size
 mh:∀(k:Nat) (o:Oper),ops[k]?=some o->CI o=true->(S k↔pos k<m)
 ma:∀(k:Nat) (o:Oper),ops[k]?=some o->CC o=true->pos k<m->S k
 sz:a.tmps.size=fr0.n
 df:a.defers=df
 slot:∀t,(∀(i:Nat) (o:Oper),S i->ops[i]?=some o->o.dst≠some t)->Ab p (fr0.get t) (a.tmps.getD t undef)
 slotw:∀(i:Nat) (o:Oper) (t:Tmp),S i->ops[i]?=some o->o.dst=some t->((CC o=true\/(sc i).isSome=true)->A9 (F (pos i)) ops o=true->pos i<m)->Ab p (v i) (a.tmps.getD t undef)
 flt:∀(i:Nat) (o:Oper),S i->ops[i]?=some o->CC o=true->A9 (F (pos i)) ops o=true->m<=pos i->
  ∃n x ob f v',lV C (F (pos i)) o=some (ob,f)/\w.heap[fl i]?=some x/\w0.heap.size<=fl i/\¬Im p (Hh m) (fl i)/\Jy p n ob x/\
   (∀(q:Pl) b,q[b]?=some (fl i,n)->Ab q (f b) v')/\(∀t,o.dst=some t->a.tmps.getD t undef=v')
 inj:∀(i j:Nat) (o o':Oper),S i->S j->ops[i]?=some o->ops[j]?=some o'->CC o=true->CC o'=true->A9 (F (pos i)) ops o=true->A9 (F (pos j)) ops o'=true->
  m<=pos i->m<=pos j->fl i=fl j->i=j
structure Mk(ops:Array Oper)(pos:Nat->Nat)(sc:Nat->Option Nat)(S:Nat->Prop)(m:Nat)(a:Act):Prop where
 eq:∀(i k:Nat) (o ok:Oper) (t tk:Tmp),S i->ops[i]?=some o->sc i=some k->ops[k]?=some ok->o.dst=some t->ok.dst=some tk->m<=pos i->a.tmps.getD t undef=a.tmps.getD tk undef/\S k
theorem Inv.adv(st:Stat ops anc ord pos sc)(Z:Canon C call ops anc ord pos fr0 h0 v Hh F){p0:Pl}{w0:World}{df:List Deferred}{S:Nat->Prop}{fl:Nat->Nat}{a:Act}{w:World}:
  ∀(d m:Nat) {p:Pl},Inv C ops pos sc fr0 v Hh F p0 h0 w0 df S m fl p a w->Mk ops pos sc S m a->m+d<=ops.size->
  (∀q,m<=q->q<m+d->∀(o:Oper),ops[ord q]?=some o->CI o=false/\(CC o=true->S (ord q)))->
  ∃p',Inv C ops pos sc fr0 v Hh F p0 h0 w0 df S (m+d) fl p' a w
 |0,m,p,g,_,_,_=>⟨p,g⟩
 |d+1,m,p,g,J,hn,hq=>by
  have hm:m<ops.size:=ae
  obtain⟨g1,g2⟩:=st.ordp m hm;obtain⟨O,hj⟩:∃O,ops[ord m]?=some O:=(by simp_all);obtain⟨q1,q2⟩:=hq m ae ae _ hj;have one:∃p',Inv C ops pos sc fr0 v Hh F p0 h0 w0 df S (m+1) fl p' a w:=by
   have Q:∀(k:Nat) (o:Oper),ops[k]?=some o->CI o=true->(S k↔pos k<m+1):=by
    intro k o u hv;rw[g.mh k o u hv];constructor
    ·omega
    ·intro h;by_cases e:pos k=m
     ·have B:=(zc.1 u).1;have e2:ord m=k:=by rw[<-e];exact(st.posp k B).2
      grind
     ·omega
   have M:∀(k:Nat) (o:Oper),ops[k]?=some o->CC o=true->pos k<m+1->S k:=by
    intro k o u L hlt;by_cases e:pos k=m
    ·have B:=(zc.1 u).1;have e2:ord m=k:=by rw[<-e];exact(st.posp k B).2
     grind
    ·exact g.ma k o u L ae
   have same:Hh (m+1)=Hh m->(CC O=true->A9 (F<|pos<|ord m) ops O=false)->(A9 (F<|pos<|ord m) ops O=false->v (ord m)=.tup [])->
     Inv C ops pos sc fr0 v Hh F p0 h0 w0 df S (m+1) fl p a w:=by
    intro hh L _;refine⟨by rw[hh];exact g.ext,g.gl,by omega,Q,M,g.sz,g.df,g.slot,fun i o t l c I hc=>?_,fun i o l c s r E=>?_,fun i j o o' l D c y s G r z E K he=>?_⟩
    ·by_cases hcp:(sc i).isSome=true/\pos i=m
     ·obtain⟨k,u⟩:=yf.1 hcp.1;obtain⟨o2,ok,tk,h1,h2,h3,h4,h5,h6,h7⟩:=st.q1 i k u;obtain⟨e1,e2⟩:=J.eq i k o ok t tk l c u h2 I h6 ae;rw[wF st Z u,e1];have:=st.apos _ _ h7;exact g.slotw k ok tk e2 h2 h6 ae
     ·refine g.slotw i o t l c I fun s r=>?_
      have h1:=hc s r;by_cases e:pos i=m
      ·have A:=(zc.1 c).1;have e2:ord m=i:=by rw[<-e];exact(st.posp i A).2
       grind
      ·omega
    ·obtain⟨n,x,ob,f,v',R,X,Y,k4,k5⟩:=g.flt i o l c s r ae;exact⟨n,x,ob,f,v',R,X,Y,by grind,k5⟩
    ·exact g.inj i j o o' l D c y s G r z ae ae he
   rcases Z.step (ord m) _ hj with⟨u1,u2,W⟩|⟨u1,⟨u2,W,u4⟩|⟨u2,ob,f,W,u4,u5⟩|⟨u2,W⟩⟩
   ·grind
   ·grind [Jh]
   ·
    obtain⟨n,x,N,f',v',R,X,Y,k4,k5,k6,k7⟩:=g.flt (ord m) _ (q2 u2) hj u2 u1 ae;rw[W]at R;cases R;rw[g2]at u4 u5;have hx:=g.ext.gD X k5 k4 Y;rw[<-u5]at hx;have hnew:(p++[(fl<|ord m,n)])[(Hh m).nx]?=some (fl<|ord m,n):=by rw[<-g.ext.rel.len];simp
    refine⟨p++[(fl<|ord m,n)],hx,?_,by omega,Q,M,g.sz,g.df,fun t I=>(g.slot t I).mono _,fun i o t l c I hc=>?_,fun i o l c s r E=>?_,fun i j o o' l D c y s G r z E K he=>?_⟩
    ·exact Gp.app g.gl _
    ·by_cases e:i=ord m
     ·grind
     ·refine(g.slotw i o t l c I fun s r=>?_).mono _;have h1:=hc s r;have A:=(zc.1 c).1;have:pos i≠m:=fun e2=>e (by rw[<-e2];exact(st.posp i A).2.symm)
      omega
    ·obtain⟨n',x',N,f',v'',l1,l2,l3,l4,l5,l6,l7⟩:=g.flt i o l c s r ae;refine⟨n',x',N,f',v'',l1,l2,l3,?_,l5.mono _,l6,l7⟩;rintro⟨b,ob2,n2,U,m2⟩;rw[u5,H.Cw]at U;by_cases e:b=(Hh m).nx
     ·have:fl (ord m)=fl i:=ah;have:=g.inj (ord m) i _ o (q2 u2) l hj c u2 s u1 r ae ae this;grind
     ·rw[wc e]at U;have hb:=g.ext.rel.lt U;rw[List.getElem?_append_left ah]at m2;exact l4 ⟨b,ob2,n2,U,m2⟩
    ·exact g.inj i j o o' l D c y s G r z ae ae he
   grind
  obtain⟨p',c⟩:=one;obtain⟨p'',hi''⟩:=Inv.adv st Z d (m+1) c ⟨fun i k o ok t tk g1 g2 g3 g4 g5 g6 g7=>J.eq i k o ok t tk g1 g2 g3 g4 g5 g6 ae⟩ ae ah;grind
end
section
variable {C:Ctx}{P:Program}{call:CX}{ops:Array Oper}{anc:Nat->Nat->Bool}{ord pos:Nat->Nat}{sc:Nat->Option Nat}{fr0:Fr}{h0:H}{v:Nat->V}{Hh:Nat->H}{F:Nat->Fr}
 {p0:Pl} {w0:World} {df:List Deferred} {S:Nat->Prop} {m:Nat} {fl:Nat->Nat} {p:Pl} {a:Act} {w:World}
structure Qi(anc:Nat->Nat->Bool)(S:Nat->Prop)(i:Nat):Prop where
 fresh:¬S i
 all:∀k,anc i k=true->S k
def Down(anc:Nat->Nat->Bool)(S:Nat->Prop):Prop:=∀i k,S i->anc i k=true->S k
theorem operands(st:Stat ops anc ord pos sc)(n:Canon C call ops anc ord pos fr0 h0 v Hh F)(q:Inv C ops pos sc fr0 v Hh F p0 h0 w0 df S m fl p a w)(G:Down anc S){i:Nat}{o:Oper}(x:ops[i]?=some o)(s:Qi anc S i)
  (E:∀(k:Nat) (ok:Oper) (t:Tmp),ops[k]?=some ok->(CC ok=true\/(sc k).isSome=true)->ok.dst=some t->t∈reads ops o->anc i k=true->pos k<m):zG p (F<|pos i) a (reads ops o):=by
 have u:=(zc.1 x).1;have A:=(st.posp i u).1;refine⟨by rw[n.fn _ ae,q.sz],fun t B=>?_⟩;by_cases z:∃(k:Nat) (ok:Oper),k≠i/\ops[k]?=some ok/\ok.dst=some t
 ·obtain⟨k,ok,r,l,c⟩:=z;rcases(st.s6 k i ok o t l x r c).2 B with h1|h1
  ·have g:=s.all k h1;rw[Fw st n l c (pos i) ae<|st.apos i k h1];exact q.slotw k ok t g l c ah
  ·have g:¬S k:=fun h=>s.fresh<|G k i h h1
   have d:∀(j:Nat) (oj:Oper),ops[j]?=some oj->oj.dst=some t->j=k:=by
    intro j oj f b;by_cases e:j=k
    ·exact e
    ·exact wh b (st.s6 k j ok oj t l f ae c).1
   rw[Fz st n (pos i) ae fun j oj f b D=>by
    have:=d j oj f b;subst this;have:=st.apos _ _ h1;omega]
   refine q.slot t fun j oj y f b=>?_
   grind
 ·have d:∀(j:Nat) (oj:Oper),ops[j]?=some oj->oj.dst=some t->j=i:=by
   grind
  rw[Fz st n (pos i) ae ah];refine q.slot t fun j oj y f b=>?_
  have:=d j oj f b;subst this;exact s.fresh y
def Rest(ops:Array Oper)(pos:Nat->Nat)(S:Nat->Prop)(m:Nat):Prop:=m=0\/∃(k:Nat) (o:Oper),ops[k]?=some o/\CI o=true/\S k/\m=pos k+1
theorem OV(st:Stat ops anc ord pos sc)(t:Down anc S)(u:Inv C ops pos sc fr0 v Hh F p0 h0 w0 df S m fl p a w)(b:Rest ops pos S m){k:Nat}{o:Oper}(l:ops[k]?=some o)(s:¬S k):
  m<=pos k\/∃(i:Nat) (oi:Oper),ops[i]?=some oi/\CI oi=true/\S i/\m=pos i+1/\pos k<pos i/\anc i k=false:=by
 by_cases n:m<=pos k
 ·omega
 ·right;rcases b with rfl|⟨i,oi,g,j,r,q⟩
  ·omega
  ·refine⟨i,oi,g,j,r,q,?_,?_⟩
   ·have c:k≠i:=ah;have f:=(zc.1 l).1;have d:=(zc.1 g).1;have:pos k≠pos i:=fun e=>c (by rw[<-(st.posp k f).2,e,(st.posp i d).2])
    omega
   grind [Down]
theorem OS(st:Stat ops anc ord pos sc)(n:Inv C ops pos sc fr0 v Hh F p0 h0 w0 df S m fl p a w){i:Nat}{o:Oper}(j:ops[i]?=some o)(g:Qi anc S i)(l:CC o=false){k:Nat}{ok:Oper}(e:ops[k]?=some ok)
  (f:CI ok=true) (q:m<=pos k) (r:pos k<pos i):False:=by
 have c:¬S k:=fun h=>by have:=(n.mh k ok e f).1 h;omega
 have d:k≠i:=ah;rcases kinds o with h|h|h
 ·rcases st.s2 k i ok o e j f h with b|b
  ·exact c<|g.all k b
  ·omega
 ·grind
 ·rcases st.s1 k i ok o e j f h d with b|b
  ·have:=st.apos _ _ b;omega
  ·exact c<|g.all k b
theorem Vb(st:Stat ops anc ord pos sc)(n:Canon C call ops anc ord pos fr0 h0 v Hh F)(D:Down anc S)(I:Inv C ops pos sc fr0 v Hh F p0 h0 w0 df S m fl p a w)(b:Rest ops pos S m){i:Nat}{o:Oper}(f:ops[i]?=some o)
  (t:Qi anc S i) (g:Eh o=true) (l:A9 (F<|pos i) ops o=true) (r:GA C (F<|pos i) (Hh<|pos i) o=some (.val (v i)<|Hh<|pos i)):GA C (F<|pos i) (Hh m) o=some (.val (v i)<|Hh m):=by
 have q:=Jh g;cases c:P9 o with
 |false=>grind [aU]
 |true=>
  rcases OV st D I b f t.fresh with E|⟨k,ok,z,B,R,y,x,G⟩
  ·have j:=(zc.1 f).1;have A:=(st.posp i j).1;have key:∀d,m+d<=pos i->Hh (m+d)=Hh m:=by
    intro d;induction d with
    |zero=>simp
    |succ d Q=>
     intro s;obtain⟨M,N⟩:=st.ordp (m+d) ae;obtain⟨e,hq⟩:∃e,ops[ord<|m+d]?=some e:=ah;rcases n.step _ e hq with⟨_,_,u⟩|⟨_,⟨_,_,u⟩|⟨u1,_⟩|⟨u1,_⟩⟩
     ·grind
     ·grind
     ·obtain⟨k,ok,L,J,K,O⟩:=st.s5 i _ o e f hq g c u1 ae;grind [OS]
     grind [OS]
   have:=key (pos i-m) ae;grind
  ·rw[y];exact n.stable k i ok o z f B g c l x G
theorem Dk{a:Act}{d:Option Tmp}{x:Value}{t:Tmp}(h:d≠some t):(a.put d x).tmps.getD t undef=a.tmps.getD t undef:=by
 cases d with
 |none=>rfl
 |some s=>
  simp_all [yp]
theorem Fl{a:Act}{x:Value}{t:Tmp}(h:t<a.tmps.size):(a.put (some t) x).tmps.getD t undef=x:=by
 simp[yp,h]
theorem Pu{a:Act}{d:Option Tmp}{x:Value}:(a.put d x).tmps.size=a.tmps.size:=by cases d<;>simp[yp]
theorem NQ{a:Act}{d:Option Tmp}{x:Value}:(a.put d x).defers=a.defers:=by cases d<;>rfl
theorem Mk.put(st:Stat ops anc ord pos sc){S:Nat->Prop}{m q:Nat}{a:Act}(E:Mk ops pos sc S m a){i:Nat}{o:Oper}(d:ops[i]?=some o)(g:¬S i)(y:Qi anc S i){x:Value}(N:m<=q)
  (G:∀(k:Nat) (ok:Oper) (t tk:Tmp),sc i=some k->ops[k]?=some ok->o.dst=some t->ok.dst=some tk->q<=pos i->(a.put o.dst x).tmps.getD t undef=a.tmps.getD tk undef):
  Mk ops pos sc (fun k=>S k\/k=i) q (a.put o.dst x):=by
 refine⟨fun j k oj ok t tk D f l b s c B=>?_⟩;obtain⟨o1,R,t2,q1,O,I,J,L,Q,u⟩:=st.q1 j k l;by_cases e:j=i
 ·subst e;rw[d]at f;cases f;have A:S k:=y.all k u;refine⟨?_,.inl A⟩;rw[G k ok t tk l b s c B];have n:k≠j:=ah;have:o.dst≠some tk:=(st.s6 k j ok o tk b d n c).1;rw[Dk this]
 ·have z:=D.resolve_right e;obtain⟨e1,e2⟩:=E.eq j k oj ok t tk z f l b s c ae;have r:k≠i:=ah;have K:o.dst≠some t:=(st.s6 j i oj o t f d e s).1;have M:o.dst≠some tk:=(st.s6 k i ok o tk b d r c).1;grind [Dk]
theorem Inv.quiet(st:Stat ops anc ord pos sc)(U:Canon C call ops anc ord pos fr0 h0 v Hh F)(c:Inv C ops pos sc fr0 v Hh F p0 h0 w0 df S m fl p a w){i:Nat}{o:Oper}(B:ops[i]?=some o)(q:¬S i)(G:CI o=false)
  (hna:CC o=true->A9 (F<|pos i) ops o=false) {x:Value} (hx:((sc i).isSome=true->A9 (F<|pos i) ops o=true->pos i<m)->Ab p (v i) x):Inv C ops pos sc fr0 v Hh F p0 h0 w0 df (fun k=>S k\/k=i) m fl p (a.put o.dst x) w:=by
 have J:∀(k:Nat) (ok:Oper) (t:Tmp),k≠i->ops[k]?=some ok->ok.dst=some t->o.dst≠some t:=fun k ok t s b g=>(st.s6 k i ok o t b B s g).1
 refine⟨c.ext,c.gl,c.mn,fun k ok b X=>?_,fun k ok b A D=>.inl<|c.ma k ok b A D,by rw[Pu,c.sz],by rw[NQ,c.df],fun t g=>?_,fun k ok t I b g Z=>?_,fun k ok I b u z d=>?_,
  fun k j ok oj I W b N u E z r d l K=>?_⟩
 ·rw[<-c.mh k ok b X];grind
 ·have Y:o.dst≠some t:=ah;rw[Dk Y];exact c.slot t ah
 ·by_cases e:k=i
  ·subst e;rw[B]at b;cases b;rw[g,Fl<|by rw[c.sz];exact U.dst k o t B g];grind
  ·rw[Dk ah];exact c.slotw k ok t ah b g Z
 ·obtain⟨n,y,ob,f,v',R,L,Q,k4,O,M,k7⟩:=c.flt k ok ah b u z d;exact⟨n,y,ob,f,v',R,L,Q,k4,O,M,(by grind [Dk])⟩
 ·exact c.inj k j ok oj ah ah b N u E z r d l K
theorem Inv.made(st:Stat ops anc ord pos sc)(c:Inv C ops pos sc fr0 v Hh F p0 h0 w0 df S m fl p a w){i:Nat}{o:Oper}(J:ops[i]?=some o)(s:CC o=true)(hwd:A9 (F<|pos i) ops o=true)(g:m<=pos i)
  (cn:Canon C call ops anc ord pos fr0 h0 v Hh F) {ob:O} {f:Nat->V} (u:lV C (F<|pos i) o=some (ob,f)) {x:Obj} {n:Nat} {v':Value} (hx:Jy p n ob x) (U:∀(q:Pl) b,q[b]?=some (w.heap.size,n)->Ab q (f b) v'):
  Inv C ops pos sc fr0 v Hh F p0 h0 w0 df (fun k=>S k\/k=i) m (fun k=>if k=i then w.heap.size else fl k) p (a.put o.dst v') { w with heap:=w.heap.push x }:=by
 have X:∀(k:Nat) (ok:Oper) (t:Tmp),k≠i->ops[k]?=some ok->ok.dst=some t->o.dst≠some t:=fun k ok t I d r=>(st.s6 k i ok o t d J I r).1
 have R:CI o=false:=by simp[CI,s]
 refine⟨c.ext.aside x,c.gl,c.mn,fun k ok d U=>?_,fun k ok d s K=>.inl<|c.ma k ok d s K,by rw[Pu,c.sz],by rw[NQ,c.df],fun t r=>?_,fun k ok t W d r hc=>?_,fun k ok W d B D g=>?_,
  fun k j ok oj W hS' d Q B A D z g l M=>?_⟩
 ·rw[<-c.mh k ok d U];grind
 ·have h1:o.dst≠some t:=ah;rw[Dk h1];exact c.slot t ah
 ·by_cases e:k=i
  ·grind
  ·rw[Dk ah];exact c.slotw k ok t ah d r hc
 ·by_cases e:k=i
  ·subst e;rw[J]at d;cases d;refine⟨n,x,ob,f,v',u,by simp,by simpa using c.ext.size,fun E=>?_,hx,by grind,fun t r=>?_⟩
   ·have:=c.ext.rel.Yp E;grind
   ·rw[r,Fl<|by rw[c.sz];exact cn.dst k o t J r]
  ·obtain⟨n',y,L,f',G,Z,N,k3,k4,Y,k6,k7⟩:=c.flt k ok ah d B D g;refine⟨n',y,L,f',G,Z,?_,by grind,by grind,Y,by grind,(by grind [Dk])⟩;grind
 ·by_cases e:k=i<;>by_cases e':j=i
  ·omega
  ·obtain⟨_,_,_,_,_,_,N,_⟩:=c.flt j oj ah Q A z l;grind
  ·obtain⟨_,_,_,_,_,_,N,_⟩:=c.flt k ok ah d B D g;grind
  ·simp only[e,vf,e']at M;exact c.inj k j ok oj ah ah d Q B A D z g l M
theorem Inv.wrote(st:Stat ops anc ord pos sc)(cn:Canon C call ops anc ord pos fr0 h0 v Hh F){i:Nat}{o:Oper}(c:Inv C ops pos sc fr0 v Hh F p0 h0 w0 df S (pos i) fl p a w)(s:ops[i]?=some o)(_:CI o=true)(u:¬S i)
  {p':Pl} {w':World} {x:Value} (d:Ext p (Hh<|pos i) w p' (Hh<|pos i+1) w') (hx:Ab p' (v i) x):
  Inv C ops pos sc fr0 v Hh F p0 h0 w0 df (fun k=>S k\/k=i) (pos i+1) fl p' (a.put o.dst x) w':=by
 have U:∀(k:Nat) (ok:Oper) (t:Tmp),k≠i->ops[k]?=some ok->ok.dst=some t->o.dst≠some t:=fun k ok t D b g=>(st.s6 k i ok o t b s D g).1
 have l:=(zc.1 s).1;have hpi:∀ {k:Nat} {ok:Oper},ops[k]?=some ok->pos k=pos i->k=i:=fun {k ok} b e=>by
  have B:=(zc.1 b).1;rw[<-(st.posp k B).2,e,(st.posp i l).2]
 refine⟨c.ext.trans d,c.gl.ext d,(st.posp i l).1,fun k ok b N=>?_,fun k ok b I r=>?_,by rw[Pu,c.sz],by rw[NQ,c.df],fun t g=>?_,fun k ok t R b g hc=>?_,fun k ok R b E G K=>?_,
  fun k j ok oj R hS' b X E L G A K Q J=>?_⟩
 ·constructor
  ·rintro(h|rfl)
   ·have:=(c.mh k ok b N).1 h;omega
   ·omega
  ·intro h;by_cases e:pos k=pos i
   ·grind
   ·exact .inl ((c.mh k ok b N).2 ae)
 ·by_cases e:pos k=pos i
  ·grind
  ·exact .inl (c.ma k ok b I ae)
 ·have O:o.dst≠some t:=ah;rw[Dk O];exact d.eH (c.slot t ah)
 ·by_cases e:k=i
  ·subst e;rw[s]at b;cases b;rw[g,Fl<|by rw[c.sz];exact cn.dst k o t s g];exact hx
  ·rw[Dk ah];refine d.eH (c.slotw k ok t ah b g fun O h2=>?_);grind
 ·obtain⟨n,y,ob,f,v',k1,M,Z,k4,Y,W,k7⟩:=c.flt k ok ah b E G ae;have r:=(zc.1 M).1;obtain⟨q,rfl⟩:=d.pre;refine⟨n,y,ob,f,v',k1,by rw[d.same _ r k4];exact M,Z,fun z=>?_,Y.mono _,W,(by grind [Dk])⟩;rcases d.im _ z with h|h
  ·grind
  ·omega
 ·exact c.inj k j ok oj ah ah b X E L G A ae ae J
theorem Inv.along(b:Inv C ops pos sc fr0 v Hh F p0 h0 w0 df S m fl p a w){p':Pl}{w':World}(c:Ext p (Hh m) w p' (Hh m) w'):Inv C ops pos sc fr0 v Hh F p0 h0 w0 df S m fl p' a w':=by
 refine⟨b.ext.trans c,b.gl.ext c,b.mn,b.mh,b.ma,b.sz,b.df,fun t B=>c.eH<|b.slot t B,fun i o t L u K G=>c.eH<|b.slotw i o t L u K G,fun k ok A z l r g=>?_,b.inj⟩;obtain⟨n,y,ob,f,v',I,j,E,J,D,s,x⟩:=b.flt k ok A z l r g;have e:=(zc.1 j).1;obtain⟨q,rfl⟩:=c.pre;refine⟨n,y,ob,f,v',I,by rw[c.same _ e J];exact j,E,fun d=>?_,D.mono _,s,x⟩;rcases c.im _ d with h|h
 ·grind
 ·omega
theorem fB{o:Oper}(h:CC o=true):∀c,o.op≠ .defer c:=by
 grind [CC]
theorem up(hC:C.Ok P)(W:call.Ok C P)(st:Stat ops anc ord pos sc)(D:Canon C call ops anc ord pos fr0 h0 v Hh F)(E:Inv C ops pos sc fr0 v Hh F p0 h0 w0 df S m fl p a w)(M:Mk ops pos sc S m a)(hd:Down anc S)(J:Rest ops pos S m)
  {i:Nat} {o:Oper} (d:ops[i]?=some o) (s:Qi anc S i) {Q:Exit->Act->World->Prop} {K:Act->World->Prop}
  (O:∀m' fl' p' a' w',Inv C ops pos sc fr0 v Hh F p0 h0 w0 df (fun k=>S k\/k=i) m' fl' p' a' w'->Mk ops pos sc (fun k=>S k\/k=i) m' a'->Rest ops pos (fun k=>S k\/k=i) m'->K a' w') {ro:Option Nat} {nn:Nat}:wpOpIn (FW ro) nn P ops Q i K a w:=by
 have hin:=(zc.1 d).1;have I:∀cs b,o.op≠ .select cs b:=fun cs b=>Region.noSelect_spec st.sel i o cs b d
 have l:Rest ops pos (fun k=>S k\/k=i) m:=by
  grind [Rest]
 unfold wpOpIn;simp only[d];cases r:CI o with
 |false=>
  by_cases hcp:(sc i).isSome=true/\m<=pos i
  ·
   obtain⟨k,Z⟩:=yf.1 hcp.1;obtain⟨o2,ok,t,q1,q2,q3,q4,q5,q6,q7⟩:=st.q1 i k Z;rw[d]at q1;cases q1;have hw:zy o (yielded ops a.tmps)=true:=by grind [zy]
   simp only[hw,wm];refine⟨fun _ _=>trivial,?_⟩;have hrun:(execOp a.eval o).run P w=.ok (.value<|a.tmps.getD t undef) w:=by
    unfold execOp;rcases q3 with q3|q3<;>simp[q3,Act.eval]
   rw[zl _ _ _ ah,hrun,zr];have hnal:CC o=false:=by grind [CC]
   refine O m fl p _ w (E.quiet st D d s.fresh r ah<|by grind [A9]) (M.put st d s.fresh s ae fun k' ok' t' tk h1 h2 Y h4 _=>?_) l;rw[Z]at h1;cases h1;rw[q2]at h2;cases h2;rw[q6]at h4;cases h4;rw[Y,Fl<|by rw[E.sz];exact D.dst i o t' d Y]
  have hcp':∀k,sc i=some k->pos i<m:=ah;have hfl:∀(k:Nat) (ok:Oper) (t:Tmp),ops[k]?=some ok->(CC ok=true\/(sc k).isSome=true)->ok.dst=some t->t∈reads ops o->anc i k=true->pos k<m:=by
   intro k ok t Z N hkt ht G;rcases st.s3 k i ok o t Z d N r hkt ht G with h|⟨j,oj,j1,j2,j3,j4⟩
   ·have:=hcp' k h;have:=st.apos _ _ G;omega
   ·have:=(E.mh j oj j1 j2).1<|s.all j j4;have:=st.apos _ _ j3;omega
  have z:∀x,Mk ops pos sc (fun k=>S k\/k=i) m (a.put o.dst x):=fun x=>M.put st d s.fresh s ae ah
  have B:=operands st D E hd d s hfl;rw[Qj B];rcases D.step i o d with⟨u1,u2,y⟩|⟨u1,u⟩
  ·simp only[u1,zz,vf];refine⟨fun _ _=>trivial,?_⟩;exact O m fl p _ w (E.quiet st D d s.fresh r (fun _=>u1)<|by simp_all [Ab,undef]) (z _) l
  ·simp only[u1,wm];refine⟨fun _ _=>trivial,?_⟩;rcases u with⟨u2,y,u4⟩|⟨u2,ob,f,y,u4,u5⟩|⟨u2,y⟩
   ·have U:=Vb st D hd E J d s u2 u1 y;obtain⟨v',p',w',L,R,X⟩:=I4 hC E.ext.rel E.gl B I U;rw[zl _ _ _<|GG U,L,zr];have hi2:=E.along X;exact O m fl p' _ w' (hi2.quiet st D d s.fresh r (by grind [Jh]) fun _=>R) (z _) l
   ·have hle:m<=pos i:=by
     rcases OV st hd E J d s.fresh with h|⟨k,ok,h1,h2,Y,h4,h5,h6⟩
     ·exact h
     ·rcases st.s4 k i ok o h1 d h2 u2 with h7|h7
      ·grind
      ·omega
    obtain⟨x,n,v',L,R,X⟩:=uZ (P:=P) hC E.gl B y;rw[zl _ _ _<|fB u2,L,zr];exact O m _ p _ _ (E.made st d u2 u1 hle D y R X) (z _) l
   grind
 |true=>
  obtain⟨hnr,hnal⟩:=Sv r;have hle:m<=pos i:=by
   rcases yq (pos i) m with h|h
   ·exact wh ((E.mh i o d r).2 h) s.fresh
   omega
  have hpn:=(st.posp i hin).1;obtain⟨p1,c⟩:=Inv.adv st D (pos i-m) m E M ae (fun q h1 h2 oq hq=>by
   obtain⟨L,R⟩:=st.ordp q ae;refine⟨?_,fun N=>?_⟩
   ·grind [OS]
   ·rcases st.s4 i (ord q) o oq d hq r N with Y|Y
    ·exact s.all _ Y
    omega)
  rw[show m+(pos i-m)=pos i from by omega]at c;have B:=operands st D c hd d s fun k ok t Z N _ _ G=>st.apos _ _ G
  have z:∀x,Mk ops pos sc (fun k=>S k\/k=i) (pos i+1) (a.put o.dst x):=fun x=>M.put st d s.fresh s ae ae
  rw[Qj B];have g:Rest ops pos (fun k=>S k\/k=i) (pos i+1):=.inr ah;rcases D.step i o d with⟨u1,u2,y⟩|⟨u1,u⟩
  ·simp only[u1,zz,vf];refine⟨fun _ _=>trivial,?_⟩;have he:Ext p1 (Hh<|pos i) w p1 (Hh<|pos i+1) w:=by rw[y];exact zq c.ext.rel
   exact O _ _ _ _ _ (c.wrote st D d r s.fresh he<|by simp_all [Ab,undef]) (z _) g
  ·simp only[u1,wm];refine⟨fun _ _=>trivial,?_⟩;rcases u with⟨u2,y,u4⟩|⟨u2,ob,f,y,u4,u5⟩|⟨u2,y⟩
   ·grind
   ·grind
   ·unfold DU at y;split at y
    case h_4=>cases y
    case h_1=>
     rename_i vv hh A;obtain⟨rfl,rfl⟩:=y;obtain⟨v',p',w',L,R,X⟩:=I4 hC c.ext.rel c.gl B I A;rw[zl _ _ _<|GG A,L,zr];exact O _ _ _ _ _ (c.wrote st D d r s.fresh X R) (z _) g
    case h_2=>
     rename_i hh A;simp only[zg,ym]at y;obtain⟨u4,rfl⟩:=y;obtain⟨p',w',L,X⟩:=I4 hC c.ext.rel c.gl B I A;rw[zl _ _ _<|GG A,L,Oper.uponIn_skip];exact O _ _ _ _ _ (c.wrote st D d r s.fresh X<|by rw[<-u4];simp[Ab,undef]) (z _) g
    case h_3=>
     rename_i f args A;obtain⟨args',L,R⟩:=I4 hC c.ext.rel c.gl B I A;rw[zl _ _ _<|GG A,L,Oper.uponIn_enter];split at y
     case h_2=>cases y
     rename_i x1 x2 hcl;cases y;refine⟨(by grind [FW,yb]),Vo.2<|(W.fn f args _ _ hcl p1 w args' c.ext.rel c.gl R).mono ?_⟩;rintro e w' ⟨v',h',x',p',hm,rfl,k1,k2⟩;rw[zn]at hm;cases hm;exact O _ _ _ _ _ (c.wrote st D d r s.fresh k2 k1) (z _) g
theorem Inv.congr{b:Nat->Prop}(h:∀k,S k↔b k)(c:Inv C ops pos sc fr0 v Hh F p0 h0 w0 df S m fl p a w):Inv C ops pos sc fr0 v Hh F p0 h0 w0 df b m fl p a w:=by
 have e:S=b:=ah;grind
theorem Mk.congr{b:Nat->Prop}(h:∀k,S k↔b k)(c:Mk ops pos sc S m a):Mk ops pos sc b m a:=by
 have e:S=b:=ah;grind
def Ls(l:Array Bool)(k:Nat):Prop:=l.getD k false=true
theorem Ut{l:Array Bool}(n:Nat)(c:l.size=n){i:Nat}(g:i<n)(b:l.getD i true=false):
  ((z6 n).filter fun k=> !(l.setIfInBounds i true).getD k true).length<((z6 n).filter fun k=> !l.getD k true).length:=by
 have sub:∀k,(!(l.setIfInBounds i true).getD k true)=true->(!l.getD k true)=true:=by
  intro k f;by_cases e:i=k
  ·grind
  simp_all
 have key:∀(L:List Nat),(L.filter fun k=> !(l.setIfInBounds i true).getD k true).length<=(L.filter fun k=> !l.getD k true).length/\(i∈L->(L.filter fun k=> !(l.setIfInBounds i true).getD k true).length<(L.filter fun k=> !l.getD k true).length):=by
  intro L;induction L with
  |nil=>simp
  |cons x L d=>
   simp only[List.filter_cons];constructor
   ·grind
   ·by_cases e:i=x
    ·subst e;rw[wc (by simp),wd<|by simp[b]];grind
    grind
 grind
theorem iJ(hC:C.Ok P)(s:call.Ok C P)(st:Stat ops anc ord pos sc)(z:Canon C call ops anc ord pos fr0 h0 v Hh F){Q:Exit->Act->World->Prop}
  (hQ:∀p' J w',Co p' (F ops.size) J->Ext p0 h0 w0 p' (Hh ops.size) w'->J.defers=df->Q .normal J w') {ro:Option Nat} {nn:Nat}:
  ∀(c:Nat) (l:Array Bool),l.size=ops.size->((z6 ops.size).filter fun k=> !l.getD k true).length<=c->∀ {m:Nat} {fl:Nat->Nat} {p:Pl} {a:Act} {w:World},
   Inv C ops pos sc fr0 v Hh F p0 h0 w0 df (Ls l) m fl p a w->Mk ops pos sc (Ls l) m a->Down anc (Ls l)->Rest ops pos (Ls l) m->wpAnyIn (FW ro) nn P .any ops Q c l a w:=by
 have fin:∀(l:Array Bool),l.size=ops.size->yh .any ops l=[]->∀ {m:Nat} {fl:Nat->Nat} {p:Pl} {a:Act} {w:World},
   Inv C ops pos sc fr0 v Hh F p0 h0 w0 df (Ls l) m fl p a w->Mk ops pos sc (Ls l) m a->Q .normal a w:=by
  intro l R B m fl p a w x n;have all:∀q,q<=ops.size->∀k,k<ops.size->pos k<q->Ls l k:=by
   intro q;induction q with
   |zero=>omega
   |succ q O=>
    intro hq k d hlt;by_cases e:pos k=q
    ·apply Classical.byContradiction;intro hns;have X:k∈yh .any ops l:=by
      rw[mem_ready];refine⟨?_,ops[k],by simp[d],fun U K Y=>?_⟩
      ·grind [Ls]
      ·obtain⟨N,D⟩:=st.dir k _ U (by simp[d]) K Y;have h3:=st.apos _ _ N;exact O ae U.on D ae
     grind
    grind
  have r:∀k,k<ops.size->Ls l k:=fun k d=>all ops.size ae k d (st.posp k d).1
  obtain⟨p',b⟩:=Inv.adv st z (ops.size-m) m x n (by have:=x.mn;omega) (fun q N D o ho=>by
   obtain⟨W,g2⟩:=st.ordp q ae;refine⟨?_,ah⟩;cases hv:CI o with
   |false=>rfl
   |true=>have:=(x.mh _ o ho hv).1<|r _ W;omega)
  rw[show m+(ops.size-m)=ops.size from by have:=x.mn;omega]at b;refine hQ p' a w ⟨by rw[z.fn _ ae,b.sz],fun t=>?_⟩ b.ext b.df;by_cases hw:∃(k:Nat) (ok:Oper),ops[k]?=some ok/\ok.dst=some t
  ·obtain⟨k,ok,d,A⟩:=hw;have u:=(zc.1 d).1;rw[Fw st z d A _ ae (st.posp k u).1];exact b.slotw k ok t (r k u) d A fun _ _=>(st.posp k u).1
  ·rw[Fz st z _ ae ah];exact b.slot t ah
 intro c;induction c with
 |zero=>
  intro l R y m fl p a w x n M g;have B:yh .any ops l=[]:=by
   simp_all [yh,z6]
  exact⟨B,ah⟩
 |succ c O=>
  intro l R y m fl p a w x n M g;refine⟨ah,fun i hm=>?_⟩;obtain⟨N,o,D,h3⟩:=mem_ready.1 hm;have Z:=(zc.1 D).1;have f:Qi anc (Ls l) i:=by
   refine⟨fun hs=>?_,fun k d=>?_⟩
   ·grind [Ls]
   ·obtain⟨o',e,W,g2,g3,g4⟩:=st.edge i k d;grind [Ls,Down]
  refine up hC s st z x n M g D f fun m' fl' p' J w' b E I=>?_
  have L:∀k,(Ls l k\/k=i)↔Ls (l.setIfInBounds i true) k:=by
   intro k;unfold Ls;by_cases e:k=i
   ·simp_all
   ·rw[getD_set_ne false ae];simp[e]
  refine O (l.setIfInBounds i true) ah ?_ (b.congr L) (E.congr L) ?_ (by simp_all)
  ·grind [Ut]
  ·intro j k G d;rw[<-L]at G ⊢;rcases G with G|rfl
   ·exact .inl<|M j k G d
   ·exact .inl<|f.all k d
theorem aX(l:C.Ok P)(b:call.Ok C P)(n:P.follows .mixedOrders=true)(st:Stat ops anc ord pos sc)(f:Canon C call ops anc ord pos fr0 h0 v Hh F){Q:Exit->Act->World->Prop}(j:R p h0 w)(g:Gl C p)(d:Co p fr0 a)
  {id:Nat} (o:∀p' c w',Co p' (F ops.size) c->Ext p h0 w p' (Hh ops.size) w'->c.defers=a.defers->Q .normal c w') {ro:Option Nat} {s:Nat}:(Code.region id ops true).wpIn (FW ro) s P Q a w:=by
 refine wpIn_region_any n ?_;have r:=Ext.drew j<|w.drawn+1;have q:∀k,¬Ls (Array.replicate ops.size false) k:=by
  intro k e;unfold Ls at e;rw[zk]at e;grind
 refine iJ (p0:=p) (h0:=h0) (w0:=w) (df:=a.defers) l b st f o ops.size _ (by simp) ah (m:=0) (fl:=fun _=>0) (p:=p)
  ⟨by rw[f.h0];exact r,g,Nat.zero_le _,ah,ae,d.1.symm,rfl,fun t _=>d.2 t,ah,ah,ah⟩
  ⟨ah⟩ (fun i k h=>ah) (.inl rfl)
end
structure M6 where
 anc:List Nat
 ord:List Nat
 pos:List Nat
 sc:List (Option Nat)
def AbF(acc:List Nat)(o:Oper):Nat:=
 o.after.toList.foldl (fun s e=>bif yc .any e then s|||(2^e.on|||acc.getD e.on 0)else s) 0
def tX:List Oper->List Nat->List Nat
 |[],b=>b
 |o::os,b=>tX os<|b++[AbF b o]
def tb(m i:Nat):Bool:=m.testBit i
def sub(a d:Nat):Bool:=zo (a&&&d) a
def I6(f:Nat->Oper->Bool):Nat->List Oper->Option Nat
 |_,[]=>none
 |i,o::os=>bif f i o then some i else I6 f (i+1) os
def dO(f:Nat->Oper->Bool):Nat->List Oper->List Nat
 |_,[]=>[]
 |i,o::os=>bif f i o then i::dO f (i+1) os else dO f (i+1) os
def UP(ops:List Oper)(anc:List Nat):Nat->Nat->List Nat->List Nat
 |0,_,out=>out.reverse
 |fuel+1,d,out=>
  match I6 (fun i o=>Eh o&& !tb d i&&sub (anc.getD i 0) d) 0 ops with
  |some i=>UP ops anc fuel (d|||2^i) (i::out)
  |none=>
   match I6 (fun i o=>CI o&& !tb d i) 0 ops with
   |some k=>
    let b:=dO (fun i o=>CC o&& !tb d i&&tb (anc.getD k 0) i) 0 ops
    bif b.isEmpty then UP ops anc fuel (d|||2^k) (k::out)
    else UP ops anc fuel (b.foldl (fun s i=>s|||2^i) d)<|b.reverse++out
   |none=>
    match I6 (fun i o=>CC o&& !tb d i) 0 ops with
    |some i=>UP ops anc fuel (d|||2^i) (i::out)
    |none=>out.reverse
def idx(l:List Nat)(i:Nat):Nat:=l.getD i 0
def Aak(ord:List Nat)(n:Nat):List Nat:=(z6 n).map fun i=>ord.idxOf i
def SA(o:Oper):Option Tmp:=
 match o.guard,o.op with
 |none,.assign (.tmp t)=>some t
 |none,.move (.tmp t)=>some t
 |_,_=>none
def Acj(ops:List Oper)(anc:List Nat)(i:Nat)(o:Oper):Option Nat:=
 match SA o with
 |some t=>
  match I6 (fun k x=>CC x&&(x.dst==some t)&&tb (anc.getD i 0) k) 0 ops with
  |some k=>match I6 (fun h x=>CI x&&tb (anc.getD h 0) k&&tb (anc.getD i 0) h) 0 ops with
   |none=>some k
   |some _=>none
  |none=>none
 |none=>none
def En(ops:Array Oper):M6:=
 let anc:=tX ops.toList []
 let ord:=UP ops.toList anc (3*ops.size+3) 0 []
 ⟨anc,ord,Aak ord ops.size,ops.toList.zipIdx.map fun(o,i)=>Acj ops.toList anc i o⟩
def M6.s(pl:M6)(i:Nat):Option Nat:=pl.sc.getD i none
def M6.a(pl:M6)(j i:Nat):Bool:=(idx pl.anc j).testBit i
def Xv(ops:Array Oper)(f:Nat->Oper->Nat->Oper->Bool):Bool:=
 ops.toList.zipIdx.all fun(o,i)=>ops.toList.zipIdx.all fun(o',j)=>f i o j o'
def HT(ops:Array Oper)(pl:M6):Bool:=
 let n:=ops.size
 let A:=pl.a
 let pos:=idx pl.pos
 let ord:=idx pl.ord
 Region.noSelect ops&&
 ((z6 n).all fun q=>zh (ord q) n&&zo (pos<|ord q) q)&&
 ((z6 n).all fun i=>zh (pos i) n&&zo (ord<|pos i) i)&&
 (pl.anc.length==n)&&(pl.ord.length==n)&&
 (pl.sc.zipIdx.all fun(s,i)=>match s with
  |none=>true
  |some k=>match ops[i]?,ops[k]? with
   |some o,some ok=>match SA o with
    |some t=>CC ok&&(ok.dst==some t)&&A i k
    |none=>false
   |_,_=>false)&&
 (ops.toList.zipIdx.all fun(o,j)=>zh (idx pl.anc j) (2^n)&&
  ((z6 n).all fun i=> !A j i||((o.after.toList.any fun e=>yc .any e&&(zo e.on i||A e.on i))&&zh (pos i) (pos j)))&&
  (o.after.toList.all fun e=> !yc .any e||(A j e.on&&zh e.on n)))&&
 (Xv ops fun i o j o'=>
  (!(CI o&&CI o')||zo i j||A i j||A j i)&&
  (!(CI o&&Eh o')||A j i||zh (pos j) (pos i))&&
  (!((CC o||(pl.s i).isSome)&& !CI o')|| !A j i||(match o.dst with|some t=> !((reads ops o').contains t)|none=>true)||(pl.s j==some i)||(ops.toList.zipIdx.any fun(x,k)=>CI x&&A k i&&A j k))&&
  (!(CI o&&CC o')||A i j||zh (pos i) (pos j))&&
  (!(Eh o&&P9 o&&CC o')|| !zh (pos j) (pos i)||(ops.toList.zipIdx.any fun(x,k)=>CI x&&zh (pos j) (pos k)&&zh (pos k) (pos i)))&&
  (zo i j||(match o.dst with
   |none=>true
   |some t=> !(o'.dst==some t)&&(!((reads ops o').contains t)||A j i||A i j))))
theorem I7{ops:Array Oper}{i:Nat}{o:Oper}(h:ops[i]?=some o):(o,i)∈ops.toList.zipIdx:=by
 grind
theorem bM{ops:Array Oper}{i:Nat}{o:Oper}(h:(o,i)∈ops.toList.zipIdx):ops[i]?=some o:=by
 grind
theorem TZ{o:Oper}{t:Tmp}(h:SA o=some t):(o.op=.assign (.tmp t)\/o.op=.move (.tmp t))/\o.guard=none:=by
 grind [SA]
theorem XR{ops:Array Oper}{pl:M6}(I:HT ops pl=true):Stat ops pl.a (idx pl.ord) (idx pl.pos) pl.s:=by
 unfold HT at I;simp only[ze]at I;obtain⟨⟨⟨⟨⟨⟨⟨h0,Q⟩,X⟩,h3⟩,_⟩,L⟩,r⟩,O⟩:=I;simp only[zj,yk,ze,zt,Bm,w5]at Q X;simp only[zj]at r;have n:∀(i j:Nat) (o o':Oper),ops[i]?=some o->ops[j]?=some o'->_:=fun i j o o' f d=>zj.1 (zj.1 O (o,i)<|I7 f) (o',j)<|I7 d
 simp only[ze,zm,zw,Bm,w5,F4,w9,Bool.and_eq_false_imp]at n;have g:∀(j i:Nat),pl.a j i=true->j<ops.size/\i<ops.size:=by
  intro j i h;have d:j<ops.size:=by
   rcases yq j ops.size with b|b
   ·exact b
   ·have hl:pl.anc.length=ops.size:=by simpa using h3
    unfold M6.a idx at h;rw[yd,List.getElem?_eq_none ae]at h;simp at h
  refine⟨d,?_⟩;have b:=r (ops[j],j) (I7<|by simp[d]);simp only[ze,zt]at b;rcases yq i ops.size with c|c
  ·exact c
  ·have u:=b.1.1;have h9:idx pl.anc j<2^i:=Nat.lt_of_lt_of_le u (Nat.pow_le_pow_right ae c);unfold M6.a at h;rw[Nat.testBit_lt_two_pow h9]at h;cases h
 refine⟨h0,ae,ae,fun j i h=>?_,fun j o e d B N=>?_,fun j i h=>?_,fun i j o o' f d z hv' E=>?_,fun i j o o' f d z K=>?_,fun i k h=>?_,fun j k o o' t d M A z q l h=>?_,fun i j o o' f d z A=>?_,
  fun i j o o' f d K G A Y=>?_,fun i j o o' t f d E q=>?_⟩
 ·obtain⟨d,f⟩:=g j i h;have b:=r (ops[j],j) (I7<|by simp[d]);simp only[ze,zj,yk,zm,zw]at b;rcases b.1.2 i f with c|c
  ·rw[h]at c;cases c
  ·obtain⟨e,B,u⟩:=yg.1 c.1;simp only[ze,zm,Bm,w5]at u;exact⟨ops[j],e,by simp[d],by simpa using B,u.1,u.2⟩
 ·have b:=r (o,j)<|I7 d;simp only[ze,zj,zm,zw,zt]at b;rcases b.2 e (by simpa using B)with c|c
  ·rw[N]at c;cases c
  omega
 ·obtain⟨d,f⟩:=g j i h;have b:=r (ops[j],j) (I7<|by simp[d]);simp only[ze,zj,yk,zm,zw,zt]at b;rcases b.1.2 i f with c|c
  ·rw[h]at c;cases c
  omega
 ·have:=(n i j o o' f d).1.1.1.1.1;simp_all
 ·have:=(n i j o o' f d).1.1.1.1.2;simp_all
 ·have l:(pl.s i,i)∈pl.sc.zipIdx:=by
   rw[List.mem_zipIdx_iff_getElem?];unfold M6.s at h ⊢;rw[yd]at h ⊢;cases U:pl.sc[i]? with
   |none=>rw[U]at h;cases h
   |some x=>rfl
  have b:=zj.1 L _ l;simp only[h]at b;split at b
  case h_2=>cases b
  rename_i o ok W J;split at b
  case h_2=>cases b
  rename_i t q;simp only[ze,wk]at b;obtain⟨R,Z⟩:=TZ q;exact⟨o,ok,t,W,J,R,Z,b.1.1,b.1.2,b.2⟩
 ·have b:=(n j k o o' d M).1.1.1.2;have y:(CC o||(pl.s j).isSome)=true:=by simpa using A
  rw[z,h,q]at b;have hc:(reads ops o').contains t=true:=by simpa using l
  simp only[zm]at y;simp only[hc,Bool.not_false,Bool.not_true,zz,or_false,Bool.true_eq_false]at b;rcases b with(b|b)|b
  ·exact wh y ae
  ·exact .inl (by simpa using b)
  ·obtain⟨⟨x,i⟩,D,c⟩:=yg.1 b;simp only[ze]at c;exact .inr ⟨i,x,bM D,c.1.1,c.1.2,c.2⟩
 ·have:=(n i j o o' f d).1.1.2;simp_all
 ·have b:=(n i j o o' f d).1.2;rw[K,G,A]at b;simp only[and_self,forall_const,Bool.true_eq_false,false_or]at b;rcases b with b|b
  ·omega
  ·obtain⟨⟨x,k⟩,l,c⟩:=yg.1 b;simp only[ze,w5]at c;exact⟨k,x,bM l,c.1.1,c.1.2,c.2⟩
 ·have b:=(n i j o o' f d).2;rcases b with b|b
  ·omega
  ·rw[q]at b;simp only[ze,zw,zm,beq_eq_false_iff_ne]at b;refine⟨b.1,fun l=>?_⟩;rcases b.2 with(c|c)|c
   ·have:(reads ops o').contains t=true:=by simpa using l
    rw[this]at c;cases c
   ·exact .inl c
   ·exact .inr c
theorem oV{ops:Array Oper}{pl:M6}(b:HT ops pl=true):pl.ord.length=ops.size:=by
 unfold HT at b;grind
end Go.Det
