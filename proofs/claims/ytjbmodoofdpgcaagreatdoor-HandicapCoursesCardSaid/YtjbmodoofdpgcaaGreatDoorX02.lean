import Derived.Test.YtjbmodoofdpgcaaGreatDoorX01
import Derived.Laws.IdiomStrings
import Derived.Lib.UnsafeStr
import Derived.Lib.Builder
import Derived.RangeFuncRecord
import Derived.LoopNIn
import Derived.OrdersIn
import Derived.RangeFuncLeaves
/- A part of a proof; no law is stated here. -/
noncomputable section
open Array renaming getElem?_eq_some_iff -> zc, getD_eq_getD_getElem? -> zk, getElem?_toList -> zu, getElem?_setIfInBounds_ne -> z8
open Go.Result renaming andThen_ok -> zd
open Bool renaming and_eq_true -> ze, or_eq_true -> zm, not_eq_true' -> zw, false_eq_true -> zz
open Go.Sem renaming run_bind -> zf, run_pure -> zp, run -> ye
open Option.some renaming injEq -> zg
open Nat renaming blt -> zh, beq -> zo, blt_eq -> zt, ble -> z7, ble_eq -> yo, lt_or_ge -> yq
open Option renaming map_eq_some_iff -> zi, isSome_iff_exists -> yf
open List renaming all_eq_true -> zj, mem_singleton -> zn, range -> z6, getD_eq_getElem?_getD -> yd, any_eq_true -> yg, mem_range -> yk, mem_cons -> yn
open Go.Oper renaming semAt_eq -> zl, uponIn_value -> zr
open Go.Det.Ext renaming refl -> zq
open Go.Deferred renaming ofValue -> zx
open Go.Region renaming wanted -> zy, binds -> yc, ready -> yh
open Go.Fence renaming wide -> yb
open Go.Question renaming forced -> yi
open Go.Op renaming operands -> yj
open Prod.mk renaming injEq -> ym
open Go.Act renaming put -> yp
namespace Go.Det
section
variable {T:BP}{P:Program}{p:Pl}{h:H}{w:World}
def GY(T:BP)(h:H)(t:TypeId)(x:V):Option (V×H):=
 match T.und t,x with
 |some (.map _ _),.nilm=>some (.ptr h.nx 0,h.push<|.miter none 0 [] 0)
 |some (.map _ _),.map b=>match h.get b with
  |some (.map _ c)=>some (.ptr h.nx 0,h.push<|.miter (some b) c [] c)
  |_=>none
 |_,_=>QX T h t x
theorem Uc(k:T.Ok P)(d:R p h w){t:TypeId}{x:V}{x':Value}(i:Ab p x x'){v:V}{h':H}(c:GY T h t x=some (v,h')):
  ∃v' p' w',(Instr.range t x').run P w=.ok v' w'/\Ab p' v v'/\Ext p h w p' h' w':=by
 unfold GY at c;split at c
 case h_1=>
  rename_i f;cases c;subst i;have g:=Ext.push (n:=0) d (o:=.miter none 0 [] 0) (x:=.mapIter none 0 #[] 0) rfl;refine⟨.pointer<|some ⟨w.heap.size,0,none⟩,_,_,?_,?_,g⟩
  ·unfold Instr.range;simp only[zf,Ax k f,zd,zp,run_newObj]
  ·exact⟨w.heap.size,0,by rw[<-d.len];simp,rfl⟩
 case h_2=>
  rename_i b f;split at c
  case h_2=>cases c
  rename_i es e q;cases c;obtain⟨r,n,j,rfl⟩:=i;obtain⟨r',n',o,h1,h2,l,h3,h4⟩:=d.obj _ _ q;rw[j]at h1;cases h1;subst h3;have g:=Ext.push (n:=0) d (o:=.miter (some b) e [] e) (x:=.mapIter (some r) e #[] e) ⟨r,n,j,rfl⟩;refine⟨.pointer<|some ⟨w.heap.size,0,none⟩,_,_,?_,?_,g⟩
  ·unfold Instr.range;simp only[zf,Ax k f,zd,zp,getObj,ye,h2,run_newObj]
  ·exact⟨w.heap.size,0,by rw[<-d.len];simp,rfl⟩
 grind [Yf]
def Ra(h:H)(d:V)(c:Bool):Option (List<|V×H):=
 match d,c with
 | .ptr b 0,false=>
  match h.get b with
  |some (.miter none _ _ _)=>some [(.tup [.bool false],h)]
  |some (.miter (some m) since seen last)=>
   match h.get m with
   |some (.map es f)=>
    bif es.all (fun e=>zh e.2.2 since)&&z7 since last then
     match es.filter (fun e=> !seen.contains e.2.2)with
     |[]=>some [(.tup [.bool false],h)]
     |left=>some (left.map fun e=>(.tup [.bool true,e.1,e.2.1],h.put b<|.miter (some m) since (seen++[e.2.2]) f))
    else none
   |_=>none
  |_=>none
 |_,_=>none
theorem Dj.get{es:List (V×V×Nat)}{l:List MapEntry}(c:Dj p es l):∀ {i:Nat} {e:MapEntry},l[i]?=some e->∃k v,es[i]?=some (k,v,e.born)/\Ab p k e.key/\Ab p v e.val:=by
 induction c with
 |nil=>simp
 |@cons k v b es j l g d n _ f=>
  grind
theorem Dj.filter{es:List (V×V×Nat)}{l:List MapEntry}(i:Dj p es l)(q:Nat->Bool):Dj p (es.filter fun e=>q e.2.2) (l.filter fun e=>q e.born):=by
 induction i with
 |nil=>exact .nil
 |@cons k v b es j l g f d _ c=>
  simp only[List.filter_cons,d];cases q b with
  |false=>exact c
  |true=>exact .cons g f d c
theorem Dj.all{es:List (V×V×Nat)}{l:List MapEntry}(c:Dj p es l)(q:Nat->Bool):(es.all fun e=>q e.2.2)=l.all fun e=>q e.born:=by
 induction c with
 |nil=>rfl
 |@cons k v b es i l g d j _ f=>grind
theorem Dj.find{es:List (V×V×Nat)}{l:List MapEntry}(d:Dj p es l)(q:Nat->Bool){e:V×V×Nat}(j:es.find? (fun e=>q e.2.2)=some e):∃c,l.find? (fun e=>q e.born)=some c/\Ab p e.1 c.key/\Ab p e.2.1 c.val:=by
 induction d with
 |nil=>grind
 |@cons k v b es n l i f o _ g=>
  grind
theorem cM(n:Nat)(b:0<n):∃i d,(choose<|.mapNext n).run P w=.ok i { w with drawn:=d }/\i<n/\w.drawn<=d:=by
 rw[run_choose];by_cases c:n<=1
 ·refine⟨0,w.drawn,?_,b,Nat.le_refl _⟩;simp[yi,c]
 ·refine⟨w.tape w.drawn (.mapNext n) % n,w.drawn+1,?_,Nat.mod_lt _ b,Nat.le_succ _⟩;grind [yi,Question.cut]
theorem Xc(j:R p h w){O:V}{o:Value}{f:Bool}{t:TypeId}(M:Ab p O o){l:List (V×H)}(g:Ra h O f=some l):
  ∃v h' v' p' w',(v,h')∈l/\(Instr.next o f t).run P w=.ok v' w'/\Ab p' v v'/\Ext p h w p' h' w':=by
 unfold Ra at g;split at g
 case h_2=>cases g
 rename_i b;simp only[Ab]at M;obtain⟨r,n,I,rfl⟩:=M;split at g
 case h_3=>cases g
 case h_1=>
  rename_i since seen last E;cases g;obtain⟨r',n',x,q,D,B⟩:=j.obj _ _ E;rw[I]at q;cases q;simp only[I9]at B;subst B;refine⟨_,_,.tuple #[.bool false],p,w,zn.2 rfl,?_,by simp[Ab],zq j⟩;unfold Instr.next;simp only[zf,getObj,ye,D,zd];rfl
 case h_2=>
  rename_i m since seen last E;split at g
  case h_2=>cases g
  rename_i es G hm;cases J:(es.all (fun e=>zh e.2.2 since)&&z7 since last)with
  |false=>grind
  |true=>
   simp only[J,we]at g;simp only[ze,yo]at J;obtain⟨N,c2⟩:=J;obtain⟨r',n',x,q,D,B⟩:=j.obj _ _ E;rw[I]at q;cases q;obtain⟨rm,nm,hpm,rfl⟩:=B;obtain⟨r2,n2,x2,k1,k2,l2,k3,k4⟩:=j.obj _ _ hm;rw[hpm]at k1;cases k1;subst k3;rw[k4.all fun b=>zh b since]at N;have Q:∀e∈l2.toList,e.born<since:=by
    intro e he;have:=zj.1 N e he;simp_all
   have hno:(!seen.toArray.isEmpty&& !l2.isEmpty&&l2.all (·.born>=last))=false:=by
    cases hl:l2.toList with
    |nil=>
     simp_all
    |cons e0 W=>
     grind
   have z:(l2.filter fun e=> !seen.toArray.contains e.born).toList=l2.toList.filter fun e=> !seen.contains e.born:=by
    simp
   have c:=k4.filter fun b=> !seen.contains b
   have Z:((l2.filter fun e=> !seen.toArray.contains e.born).filter (·.born<since))=l2.filter fun e=> !seen.toArray.contains e.born:=by
    grind [Array.toList_inj,Array.toList_filter,List.filter_eq_self]
   have Y:((l2.filter fun e=> !seen.toArray.contains e.born).filter (·.born>=since))= #[]:=by
    apply Array.toList_inj.1;grind [List.filter_eq_nil_iff]
   unfold Instr.next;simp only[zf,getObj,ye,D,zd,k2];rw[wc ah];simp only[Z,Y,Array.append_empty];generalize hL:(l2.filter fun e=> !seen.toArray.contains e.born)=L at*;rw[<-z]at c;have U:=c.length;split at g
   case h_1=>
    cases g;have X:L= #[]:=by
     grind
    refine⟨_,_,.tuple #[.bool false],p,w,zn.2 rfl,?_,by simp[Ab],zq j⟩;simp_all [yi]
   case h_2=>
    have y:0<L.size:=by
     grind
    have u:L.isEmpty=false:=ah
    simp only[u,zz,vf,Array.empty_append,Array.size_map];obtain⟨i,d,g1,K,g4⟩:=cM (P:=P) (w:=w) L.size y;simp only[zf,g1,zd];have hi:L[i]?=some L[i]:=by simp[K]
    obtain⟨k,v,q1,q2,q3⟩:=c.get (i:=i) (e:=L[i]) (by simp[K]);simp only[Array.getElem?_map,hi,Option.map_some,zf];have A:=Ext.drew j d;have s:=Ext.put A.rel E I (o':=.miter (some m) since (seen++[L[i].born]) G) (x':=.mapIter (some rm) since (seen.toArray.push L[i].born) G) ⟨rm,nm,hpm,by simp⟩
     (w':=⟨w.heap.setIfInBounds r<|.mapIter (some rm) since (seen.toArray.push L[i].born) G,w.tape,d,w.os,w.output⟩) rfl rfl rfl rfl
    refine⟨.tup [.bool true,k,v],_,.tuple #[.bool true,L[i].key,L[i].val],p,_,ah,?_,?_,A.trans s⟩
    ·simp[setObj,ye,D]
    simp_all [Ab]
def QG(h:H)(c:V):Option V:=
 match c with
 | .ptr b 0=>
  match h.get b with
  |some (.miter (some m) _ seen last)=>
   match h.get m with
   |some (.map es d)=>
    bif zo d last then
     match seen.getLast? with
     |some s=>match es.find? (fun e=>zo e.2.2 s)with
      |some e=>some<|.tup [e.1,e.2.1]
      |none=>none
     |none=>none
    else none
   |_=>none
  |_=>none
 |_=>none
theorem X8(j:R p h w){i:V}{d:Value}(n:Ab p i d){v:V}(c:QG h i=some v):∃v',(Instr.entry d).run P w=.ok v' w/\Ab p v v':=by
 unfold QG at c;split at c
 case h_2=>cases c
 simp only[Ab]at n;split at c
 case h_2=>cases c
 rename_i m since seen last q;split at c
 case h_2=>cases c
 rename_i es l k;rw[Bj]at c;by_cases g:l=last
 ·simp only[g,decide_true,we]at c;split at c
  case h_2=>cases c
  rename_i s u;split at c
  case h_2=>cases c
  rename_i e o;cases c;obtain⟨z,n',x,y,t,r⟩:=j.obj _ _ q;simp only[I9]at r;obtain⟨r2,n2,x2,k1,k2,l2,k3,k4⟩:=j.obj _ _ k;obtain⟨e',q1,q2,q3⟩:=k4.find (fun b=>zo b s) o;refine⟨.tuple #[e'.key,e'.val],?_,by simp_all [Ab]⟩;unfold Instr.entry;have f:l2.find? (fun e=>e.born==s)=some e':=by
   rw[<-Array.find?_toList, <-q1];congr 1;funext e
   rw[Bj];rfl
  simp_all [getObj,ye]
 grind
theorem Dj.erase{es:List (V×V×Nat)}{l:List MapEntry}(g:Dj p es l)(i:Nat):Dj p (es.eraseIdx i) (l.eraseIdx i):=by
 induction g generalizing i with
 |nil=>simp;exact .nil
 |@cons k v b es j l e c f n d=>
  cases i with
  |zero=>grind
  |succ i=>simp;exact .cons e c f<|d i
def Kk(T:BP)(h:H)(ts:Array TypeId)(args:List V):Option (V×H):=
 match ts[0]?,args with
 |some f,[.map b,k]=>
  match T.und f with
  |some (.map c _)=>
   match T.und c,h.get b with
   |some d,some (.map es e)=>
    bif Ij T c d k then
     match Jz T c k es with
     |some (some (i,_))=>some (.tup [],h.put b<|.map (es.eraseIdx i) e)
     |some none=>some (.tup [],h.put b<|.map es e)
     |none=>none
    else none
   |_,_=>none
  |_=>none
 |_,_=>none
theorem Vg(i:T.Ok P)(z:R p h w){ts:Array TypeId}{t:TypeId}{args:List V}{args':Array Value}(O:An p args args'.toList){v:V}{h':H}(c:Kk T h ts args=some (v,h')):
  ∃v' p' w',(Builtin.delete_ ts t args').run P w=.ok v' w'/\Ab p' v v'/\Ext p h w p' h' w':=by
 unfold Kk at c;split at c
 case h_2=>cases c
 rename_i mt b k N;obtain⟨W,G,f,B,s⟩:=O.two;have y:args'[0]?=some W:=by rw[<-zu,f];rfl
 have u:args'[1]?=some G:=by rw[<-zu,f];rfl
 split at c
 case h_2=>cases c
 rename_i I e Q;split at c
 case h_2=>cases c
 rename_i d es o g A;cases E:Ij T I d k with
 |false=>grind
 |true=>
  simp only[E,we]at c;rcases Lf (es:=es) z B (by simp only[entries,A])with⟨rfl,_⟩|⟨r,l,J,b',n,L,rfl,D,K,U,q⟩
  ·simp[Ab]at B
  ·cases L;unfold Builtin.delete_;simp only[N,y,u,zf,Ax i Q,zd,getObj,ye,U,IC i g s E];split at c
   case h_3=>cases c
   case h_1=>
    rename_i j v0 x;cases c;obtain⟨X,M,v1,rfl,k3,en,Z,Y⟩:=run_findKey (P:=P) (w:=w) i s g q x;refine⟨.tuple #[],p,{ w with heap:=w.heap.setIfInBounds r (.map (l.eraseIdxIfInBounds j) o) },?_,by simp[Ab],Ext.put z A D (o':=.map (es.eraseIdx j) o) ⟨_,rfl,?_⟩ rfl rfl rfl rfl⟩
    ·simp_all [setObj,ye]
    ·have:=q.erase j;simp_all
   case h_2=>
    rename_i x;cases c;obtain⟨X,M,k2⟩:=run_findKey (P:=P) (w:=w) i s g q x;refine⟨.tuple #[],p,{ w with heap:=w.heap.setIfInBounds r (.map l o) },?_,by simp[Ab],Ext.put z A D (o':=.map es o) ⟨_,rfl,q⟩ rfl rfl rfl rfl⟩;simp_all [setObj,ye]
def E4(T:BP)(h:H)(ts:Array TypeId)(args:List V):Option (V×H):=
 match ts[0]?,args with
 |some t,[x]=>
  match T.und t,x with
  |some (.map _ _),.nilm=>some (.tup [],h)
  |some (.map _ _),.map b=>match h.get b with
   |some (.map _ c)=>some (.tup [],h.put b<|.map [] c)
   |_=>none
  |some (.slice _),.nils=>some (.tup [],h)
  |some (.slice _),.esl=>some (.tup [],h)
  |some (.slice _),.es0=>some (.tup [],h)
  |some (.slice e),.sl b off len _ _=>
   bif zo len 0 then some (.tup [],h)
   else match T.inf e with
    |some i=>bif zh 0 i.zero.length then
      (wr h b off<|EL i.zero<|len*i.zero.length).map fun h'=>(.tup [],h')
     else none
    |none=>none
  |_,_=>none
 |_,_=>none
theorem X4(g:T.Ok P)(j:R p h w){ts:Array TypeId}{t:TypeId}{args:List V}{args':Array Value}(I:An p args args'.toList){v:V}{h':H}(d:E4 T h ts args=some (v,h')):
  ∃v' p' w',(Builtin.clear_ ts t args').run P w=.ok v' w'/\Ab p' v v'/\Ext p h w p' h' w':=by
 unfold E4 at d;split at d
 case h_2=>cases d
 rename_i t0 x G;obtain⟨x',k,q⟩:=I.one;have y:args'[0]?=some x':=by rw[<-zu,k];rfl
 unfold Builtin.clear_;simp only[G,y];split at d
 case h_7=>cases d
 case h_1=>
  rename_i f;cases d;subst q;exact⟨.tuple #[],p,w,by simp[Ax g f],by simp[Ab],zq j⟩
 case h_2=>
  rename_i b f;split at d
  case h_2=>cases d
  rename_i es B D;cases d;obtain⟨r,n,u,rfl⟩:=q;obtain⟨r',n',o,A,h2,l,h3,h4⟩:=j.obj _ _ D;rw[u]at A;cases A;subst h3;refine⟨.tuple #[],p,{ w with heap:=w.heap.setIfInBounds r (.map #[] B) },?_,by simp[Ab],Ext.put j D u (o':=.map [] B) ⟨_,rfl,.nil⟩ rfl rfl rfl rfl⟩;simp[zf,Ax g f,getObj,setObj,ye,h2]
 case h_3=>
  rename_i e f;cases d;subst q;exact⟨.tuple #[],p,w,by simp[Ax g f],by simp[Ab],zq j⟩
 case h_4=>
  rename_i e f;cases d;obtain⟨_,_,rfl⟩:=q;exact⟨.tuple #[],p,w,by simp[Ax g f],by simp[Ab],zq j⟩
 case h_5=>
  rename_i e f;cases d;obtain⟨_,rfl⟩:=q;exact⟨.tuple #[],p,w,by simp[Ax g f],by simp[Ab],zq j⟩
 case h_6=>
  rename_i e b off len cap o f;obtain⟨r,n,c,u,rfl,_⟩:=q;rw[Bj]at d;by_cases h0:len=0
  ·simp only[h0,decide_true,we,zg,ym]at d;obtain⟨rfl,rfl⟩:=d;subst h0;exact⟨.tuple #[],p,w,by simp[Ax g f],by simp[Ab],zq j⟩
  ·simp only[h0,decide_false,wg]at d;split at d
   case h_2=>cases d
   rename_i i L;cases M:zh 0 i.zero.length with
   |false=>grind
   |true=>
    simp only[M,we,zi]at d;obtain⟨A,K,J⟩:=d;cases J;obtain⟨z,hzz,hzr⟩:=DO g L;have E:=(hzr p).length;have s:=IZ (hzr p) (by simp_all)<|len*i.zero.length;obtain⟨r',m,w',g1,g2,g3⟩:=Qd (P:=P) j s K;rw[u]at g1;cases g1;refine⟨.tuple #[],p,w',?_,by simp[Ab],g3⟩;have:Builtin.zeroCells z.cells len=(Array.range<|len*i.zero.length).map (fun i=>z.cells[i % z.cells.size]!):=by
     grind [Builtin.zeroCells]
    simp only[zf,Ax g f,zd,hzz,this,g2,zp]
def qW(T:BP)(ts:Array TypeId)(args:List V):Option V:=
 match ts[0]?,args with
 |some t,[x]=>
  match T.und t,x with
  |some (.slice _),.sl _ _ _ cap 0=>some<|i64 cap
  |some (.slice _),.nils=>some<|i64 0
  |_,_=>none
 |_,_=>none
theorem lR(k:T.Ok P){ts:Array TypeId}{t:TypeId}{args:List V}{args':Array Value}(o:An p args args'.toList){v:V}(f:qW T ts args=some v):
  ∃v',(Builtin.cap_ ts t args').run P w=.ok v' w/\Ab p v v':=by
 unfold qW at f;split at f
 case h_2=>cases f
 rename_i t0 x l;obtain⟨x',d,g⟩:=o.one;have j:args'[0]?=some x':=by rw[<-zu,d];rfl
 unfold Builtin.cap_;simp only[l,j];split at f
 case h_3=>cases f
 case h_1=>
  rename_i e b off len cap i;cases f;simp only[Ab]at g;obtain⟨r,n,c,y,rfl,u,s,q,z⟩:=g;have:=q trivial;subst this;exact⟨_,by simp[zf,Ax k i];rfl,by rfl⟩
 case h_2=>
  rename_i e i;cases f;subst g;exact⟨_,by simp[zf,Ax k i];rfl,by rfl⟩
def Q8(T:BP)(h:H)(src dst:TypeId)(x:V):Option (V×H):=
 match T.und src,T.und dst,x with
 |some .string,some<|.slice e,.str s=>
  match T.und e with
  |some (.int .u8)=>some (.sl h.nx 0 s.length s.length 1,h.push<|.cells (s.map fun b=>.int .u8<|.ofNat b.toNat) e (0,0))
  |_=>none
 |_,_,_=>none
theorem XK(k:T.Ok P)(l:R p h w){src dst:TypeId}{x:V}{x':Value}(r:Ab p x x'){v:V}{h':H}(f:Q8 T h src dst x=some (v,h')):
  ∃v' p' w',(convert src dst x').run P w=.ok v' w'/\Ab p' v v'/\Ext p h w p' h' w':=by
 unfold Q8 at f;split at f
 case h_2=>cases f
 rename_i e s u q;split at f
 case h_2=>cases f
 rename_i y;cases f;subst r;have d:=run_bytes_of_string (P:=P) w src dst e (bytesOf s) (k.und _ _ u) (k.und _ _ q)<|k.und _ _ y;generalize z:grownCap w (bytesOf s).size 0 e=c at d;have j:s.length<=c:=by
  grind [BL,grownCap,Question.cut]
 have i:(bytesRow (bytesOf s) c).size=c:=by
  grind [bytesRow,bytesOf,BL]
 have g:=Ext.drew l<|w.drawn+1;have t:=Ext.push (n:=c) g.rel (o:=.cells (s.map fun b=>.int .u8<|.ofNat b.toNat) e (0,0)) (x:=.cells (bytesRow (bytesOf s) c) e ((bytesRow (bytesOf s) c).size,(bytesRow (bytesOf s) c).size+1)) (by
  refine⟨_,_,rfl,i,by grind,?_,ae⟩;refine An.uU<|An.mk ?_ ?_
  ·grind
  ·grind [bytesRow,bytesOf,Ab])
 refine⟨_,_,_,d,?_,g.trans t⟩;refine⟨w.heap.size,c,c,by rw[<-l.len];simp,by rfl,Nat.le_refl _,j,ae,ae⟩
def D0(T:BP)(h:H)(s d:TypeId)(x:V):Option V:=
 match T.und s,T.und d,x with
 |some (.pointer _),some .unsafePointer,.nilp=>some .nilp
 |some .unsafePointer,some<|.pointer _,.nilp=>some .nilp
 |some (.pointer t),some .unsafePointer,.ptr b off=>
  match T.inf t,h.get b with
  |some i,some (.cells cs _ _)=>bif zh 0 i.size&&zh off cs.length then some (.ptr b off)else none
  |_,_=>none
 |some .unsafePointer,some<|.pointer u,.ptr b off=>
  match T.inf u,h.get b with
  |some i,some (.cells cs e _)=>bif zh 0 i.size&&z7 i.size cs.length&&zo e u&&zo off 0 then some (.ptr b 0)else none
  |_,_=>none
 |_,_,_=>none
theorem Sw(d:R p h w){b:Nat}{cs:List V}{t:TypeId}{fz:Nat×Nat}(e:h.get b=some (.cells cs t fz)):
  ∃r n,p[b]?=some (r,n)/\w.shape? r=some (t,n)/\cs.length<=n:=by
 obtain⟨r,n,x,j,f,c,fz',rfl,i,g,_⟩:=d.obj b _ e;grind [World.shape?]
theorem Xm{u:TypeId}(c:P.cellsOf u≠0)(k:Nat)(d:1<=k):liesAt P P.depth u k 0 u 1=true:=by
 have b:P.depth=(2*(P.types.size+Made.depth)+1)+1:=rfl;rw[b];simp only[liesAt,zm];rw[b];simp[rowAt,c,d,sameLayout]
theorem jZ(f:T.Ok P)(D:R p h w){s d:TypeId}{x:V}{x':Value}(o:Ab p x x'){v:V}(c:D0 T h s d x=some v):
  ∃v',(convert s d x').run P w=.ok v' w/\Ab p v v':=by
 unfold D0 at c;split at c
 case h_5=>cases c
 case h_1=>
  rename_i k g;subst o;cases c;refine⟨.pointer none,?_,by rfl⟩;simp[convert,Ax f k,Ax f g,Conv.unsafePointer]
 case h_2=>
  rename_i k g;subst o;cases c;refine⟨.pointer none,?_,by rfl⟩;simp[convert,Ax f k,Ax f g,Conv.unsafePointer]
 case h_3=>
  rename_i t b off k g;split at c
  case h_2=>cases c
  rename_i i cs e fz y B;cases l:(zh 0 i.size&&zh off cs.length)with
  |false=>grind
  |true=>
   rw[l]at c;cases c;simp only[ze,zt]at l;obtain⟨j,z,A,I,_⟩:=f.inf t i y;obtain⟨r,n,k1,k2,k3⟩:=Sw D B;obtain⟨r',n',q1,rfl⟩:=o;rw[k1]at q1;cases q1;refine⟨_,Lib.run_to_unsafe w ⟨r,off,none⟩ (f.und _ _ k) (f.und _ _ g) A ae k2 ah,?_⟩;simp_all [Ab]
 case h_4=>
  rename_i u b off k g;split at c
  case h_2=>cases c
  rename_i i cs e fz y B;cases l:(zh 0 i.size&&z7 i.size cs.length&&zo e u&&zo off 0)with
  |false=>grind
  |true=>
   rw[l]at c;cases c;simp only[ze,zt,yo,Bj,w5]at l;obtain⟨⟨⟨G,J⟩,rfl⟩,rfl⟩:=l;obtain⟨j,z,A,I,_⟩:=f.inf e i y;obtain⟨r,n,k1,k2,k3⟩:=Sw D B;obtain⟨r',n',q1,rfl⟩:=o;rw[k1]at q1;cases q1;have q:P.cellsOf e=i.size:=by grind [Program.cellsOf]
   have E:1<=n/P.cellsOf e:=by rw[q];exact Nat.div_pos ae G
   refine⟨_,Lib.run_from_unsafe w ⟨r,0,none⟩ (f.und _ _ k) (f.und _ _ g) A k2 (Xm ae _ E),?_⟩;simp_all [Ab]
def NN(args:List V):Option V:=
 match args with
 |[.nils]=>some .nilp
 |[.sl b off _ cap _]=>bif zh 0 cap then some (.ptr b off)else none
 |_=>none
theorem Ym{ts:Array TypeId}{t:TypeId}{args:List V}{args':Array Value}(e:An p args args'.toList){v:V}(d:NN args=some v):
  ∃v',(Builtin.unsafeSliceData_ ts t args').run P w=.ok v' w/\Ab p v v':=by
 unfold NN at d;split at d
 case h_3=>cases d
 case h_1=>
  cases d;obtain⟨x,i,g⟩:=e.one;have:args'= #[x]:=ah;simp_all [Ab,Lib.run_unsafeSliceData_nil]
 case h_2=>
  rename_i b off len cap o;cases f:zh 0 cap with
  |false=>grind
  |true=>
   rw[f]at d;cases d;rw[zt]at f;obtain⟨x,i,g⟩:=e.one;have:args'= #[x]:=ah;subst this;obtain⟨r,n,c,g1,rfl,g2,g3,_⟩:=g;exact⟨_,Lib.run_unsafeSliceData_row w ts t _ len c ae,by simp_all [Ab]⟩
def Qv:V->Option UInt8
 | .int .u8 (.ofNat n)=>bif zh n 256 then some (UInt8.ofNat n)else none
 |_=>none
def GL:List V->Option Rd
 |[]=>some []
 |v::vs=>
  match Qv v,GL vs with
  |some b,some c=>some (b::c)
  |_,_=>none
theorem Zn{c:V}{b:UInt8}(h:Qv c=some b):c=.int .u8 (b.toNat:Int):=by
 unfold Qv at h;split at h
 case h_2=>cases h
 rename_i n;cases d:zh n 256 with
 |false=>grind
 |true=>
  rw[zt]at d;have:(UInt8.ofNat n).toNat=n:=by simp;omega
  grind
theorem JG:∀ {cs:List V} {l:Rd},GL cs=some l->cs=l.map fun b=>V.int .u8 (b.toNat:Int)
 |[],l,d=>by cases d;rfl
 |c::cs,l,d=>by
  unfold GL at d;split at d
  case h_2=>cases d
  rename_i b g f e;cases d;rw[Zn f,JG e];rfl
def S3(T:BP)(h:H)(ts:List TypeId)(args:List V):Option (V×H):=
 match ts,args with
 |[c,_],[.ptr b 0,.int .i64<|.ofNat n]=>
  match T.und c,h.get b with
  |some (.pointer e),some (.cells cs d fz)=>
   match T.inf e,GL (cs.take n)with
   |some i,some l=>bif zo i.size 1&&zo e d&&zh 0 n&&z7 n cs.length&&z7 n 9223372036854775807&&z7 fz.2 fz.1 then some (.str l,h.kill b)else none
   |_,_=>none
  |_,_=>none
 |_,_=>none
theorem Ext.gone{w':World}(d:R p h w){b r n:Nat}{o:O}{x':Obj}(q:h.get b=some o)(l:p[b]?=some (r,n))
  (E:w'.heap=w.heap.setIfInBounds r x') (x:w'.os=w.os) (B:w'.output=w.output) (A:w'.tape=w.tape) (L:∀cs t fz,o=.cells cs t fz->¬Lk n fz) (I:w.drawn<=w'.drawn:=by exact Nat.le_refl _):Ext p h w p (h.kill b) w':=by
 refine⟨(by simp),⟨d.len,fun c j f=>?_,(d.kill b).inj⟩,by simp[E],fun s D M=>?_,fun s Q=>?_,x,B,A,fun s D u=>?_,I⟩
 ·rw[H.De]at f;by_cases e:c=b
  ·grind
  ·rw[wc e]at f;obtain⟨s,m,y,G,K,N⟩:=d.obj c j f;have g:r≠s:=fun i=>e<|d.inj c b j o s m n f q G<|i▸l
   grind
 ·grind [Im]
 ·grind [H.De,Im]
 ·obtain⟨c,m,cs,t,fz,z,k,J⟩:=u;by_cases e:c=b
  ·grind
  ·have g:r≠s:=fun i=>e<|d.inj c b _ o s m n z q k<|i▸l
   refine⟨by grind,.inl ⟨c,m,cs,t,fz,by simp_all,k,J⟩⟩
theorem SF{w:World}{r n:Nat}{c:Array Value}{e:TypeId}{fz:Nat×Nat}(b:w.heap[r]?=some (.cells c e fz))(h0:n≠0):
  ∃fz',(w.freeze ⟨r,0,none⟩ n).heap=w.heap.setIfInBounds r (.cells c e fz'):=by
 refine⟨if fz.1==fz.2 then(0,0+n)else(min fz.1 0,max fz.2<|0+n),?_⟩;simp_all [World.freeze,MM]
theorem dO(G:T.Ok P)(J:R p h w){ts:Array TypeId}{t:TypeId}{args:List V}{args':Array Value}(X:An p args args'.toList){v:V}{h':H}(f:S3 T h ts.toList args=some (v,h')):
  ∃v' w',(Builtin.unsafeString_ ts t args').run P w=.ok v' w'/\Ab p v v'/\Ext p h w p h' w':=by
 unfold S3 at f;split at f
 case h_2=>cases f
 rename_i K I b n q;have q:ts= #[K,I]:=ah;subst q;split at f
 case h_2=>cases f
 rename_i e cs Y fz Q M;split at f
 case h_2=>cases f
 rename_i i l Z O;cases L:(zo i.size 1&&zo e Y&&zh 0 n&&z7 n cs.length&&z7 n 9223372036854775807&&z7 fz.2 fz.1)with
 |false=>grind
 |true=>
  rw[L]at f;cases f;simp only[ze,zt,yo,Bj,w5]at L;obtain⟨x,y,E,u,N⟩:=X.two;have:args'= #[x,y]:=ah;subst this;obtain⟨r,m,u,rfl⟩:=u;subst N;obtain⟨r',m',ob,k1,k2,c,fz',rfl,k4,k5,k6,k7⟩:=J.obj b _ M;rw[u]at k1;cases k1;obtain⟨j,z,j1,j2,_⟩:=G.inf e i Z;have B:P.cellsOf e=1:=by grind [Program.cellsOf]
  have o:=JG O;have s:l.length=n:=by
   have:=wi List.length o;grind
  have D:w.shape? r=some (e,m):=by grind [World.shape?]
  have g:∀j x,l[j]?=some x->w.cell? ((⟨r,0,none⟩:Addr).add j)=some (.int .u8 x.toNat):=by
   intro j x hx;have W:cs[j]?=some (.int .u8 (x.toNat:Int)):=by
    have:=wi (·[j]?) o;grind
   obtain⟨v,hv,hvr⟩:=k6.get W rfl;grind [Ab,Addr.Ly,World.cell?]
  have k:=Lib.run_unsafeString_row w K I t e (G.und _ _ Q) B r m D l ah ae ae g;obtain⟨U,A⟩:=SF (n:=l.length) k2 ae;refine⟨.string<|bytesOf l,w.freeze ⟨r,0,none⟩ l.length,?_,by rfl,?_⟩
  ·rw[<-s];exact k
  ·have d:(w.freeze ⟨r,0,none⟩ l.length).os=w.os/\(w.freeze ⟨r,0,none⟩ l.length).output=w.output/\(w.freeze ⟨r,0,none⟩ l.length).tape=w.tape/\(w.freeze ⟨r,0,none⟩ l.length).drawn=w.drawn:=by
    unfold World.freeze;grind
   exact Ext.gone J M u A d.1 d.2.1 d.2.2.1 (by
    grind [Lk])<|Nat.le_of_eq d.2.2.2.symm
end
mutual
def cv:Value->Option V
 | .bool b=>some<|.bool b
 | .int k n=>some<|.int k n
 | .string s=>some<|.str s.data.toList
 | .pointer none=>some .nilp
 | .slice none 0 0=>some .nils
 | .map none=>some .nilm
 | .nilFunc=>some .nilf
 | .nilIface=>some .nili
 | .func f ⟨[]⟩ ⟨[]⟩=>some<|.fn f [] []
 | .agg ⟨cs⟩=>(nX cs).map .agg
 | .tuple ⟨cs⟩=>(nX cs).map .tup
 |_=>none
def nX:List Value->Option (List V)
 |[]=>some []
 |v::vs=>match cv v,nX vs with
  |some x,some b=>some (x::b)
  |_,_=>none
end
mutual
theorem TC(p:Pl):∀ {v:Value} {x:V},cv v=some x->Ab p x v
 | .bool b,x,h=>by grind [cv,Ab]
 | .int k n,x,h=>by grind [cv,Ab]
 | .string s,x,h=>by simp[cv]at h;subst h;rfl
 | .pointer none,x,h=>by grind [cv,Ab]
 | .pointer (some a),x,h=>by simp[cv]at h
 | .slice none 0 0,x,h=>by grind [cv,Ab]
 | .slice none 0 (_+1),x,h=>by simp[cv]at h
 | .slice none (_+1) _,x,h=>by simp[cv]at h
 | .slice (some a) _ _,x,h=>by simp[cv]at h
 | .map none,x,h=>by grind [cv,Ab]
 | .map (some a),x,h=>by simp[cv]at h
 | .nilFunc,x,h=>by grind [cv,Ab]
 | .nilIface,x,h=>by grind [cv,Ab]
 | .func f ⟨[]⟩ ⟨[]⟩,x,h=>by simp[cv]at h;subst h;simp[Ab]
 | .func f ⟨_::_⟩ _,x,h=>by simp[cv]at h
 | .func f ⟨[]⟩ ⟨_::_⟩,x,h=>by simp[cv]at h
 | .agg ⟨cs⟩,x,h=>by
  simp only[cv,zi]at h;obtain⟨d,c,rfl⟩:=h;exact⟨_,rfl,Qu p c⟩
 | .tuple ⟨cs⟩,x,h=>by
  simp only[cv,zi]at h;obtain⟨d,c,rfl⟩:=h;exact⟨_,rfl,Qu p c⟩
 | .float _ _,x,h=>by simp[cv]at h
 | .complex _ _ _,x,h=>by simp[cv]at h
 | .chan _,x,h=>by simp[cv]at h
 | .iface _ _,x,h=>by simp[cv]at h
theorem Qu(p:Pl):∀ {vs:List Value} {b:List V},nX vs=some b->An p b vs
 |[],b,h=>by simp_all [nX]
 |v::vs,b,h=>by
  unfold nX at h;split at h
  case h_2=>cases h
  rename_i x d e c;cases h;exact(A4 ..).2 ⟨TC p e,Qu p c⟩
end
structure Fn where
 ntmps:Nat
 results:Array ResultVar
 body:Code
 cert:Bool
structure Ctx where
 T:BP
 ng:Nat
 fn:FuncId->Option Fn
 prim:FuncId->Option (List V->H->Option (V×H))
 spec:FuncId->Option (List V->H->Option (V×H))
 mg:Bool
def Gl(_:Ctx)(p:Pl):Prop:=Gp p
theorem Gl.ext{C:Ctx}{p p':Pl}{h h':H}{w w':World}(b:Gl C p)(e:Ext p h w p' h' w'):Gl C p':=by
 obtain⟨q,rfl⟩:=e.pre;exact Gp.app b q
def ev(_:Ctx)(fr:Fr):Operand->Option V
 | .tmp t=>some<|fr.get t
 | .const v=>cv v
 | .global g=>bif wS g C8 then some (.ptr g 0)else none
 | .func f=>some<|.fn (.func f) [] []
theorem AY{C:Ctx}{p:Pl}{fr:Fr}{a:Act}(d:Gl C p)(i:Cd p fr a){x:Operand}{v:V}(b:ev C fr x=some v):Ab p v (a.eval x):=by
 cases x with
 |tmp t=>grind [ev,Act.eval,Cd]
 |const v=>exact TC p b
 |global g=>
  simp only[ev]at b;cases c:wS g C8 with
  |true=>
   rw[c]at b;simp only[we,zg]at b;subst b;obtain⟨o,e⟩:=VW c;exact⟨g,_,d _ e,rfl⟩
  |false=>grind
 |func f=>simp only[ev,zg]at b;subst b;simp[Ab,Act.eval]
def Sl(C:Ctx)(fr:Fr):List Operand->Option (List V)
 |[]=>some []
 |x::b=>match ev C fr x,Sl C fr b with
  |some v,some vs=>some (v::vs)
  |_,_=>none
theorem IP{C:Ctx}{p:Pl}{fr:Fr}{a:Act}(c:Gl C p)(d:Cd p fr a):∀ {b:List Operand} {vs:List V},Sl C fr b=some vs->An p vs (b.map a.eval)
 |[],vs,h=>by simp_all [Sl]
 |x::b,vs,h=>by
  unfold Sl at h;split at h
  case h_2=>cases h
  rename_i v f g e;cases h;exact(A4 ..).2 ⟨AY c d g,IP c d e⟩
def Tz(C:Ctx)(fr:Fr):Option Operand->Option (Option V)
 |none=>some none
 |some x=>(ev C fr x).map some
theorem My{C:Ctx}{p:Pl}{fr:Fr}{a:Act}(c:Gl C p)(e:Cd p fr a){x:Option Operand}{v:Option V}(b:Tz C fr x=some v):GC p v (x.map a.eval):=by
 cases x with
 |none=>simp[Tz]at b;subst b;rfl
 |some x=>
  simp only[Tz,zi]at b;obtain⟨u,d,rfl⟩:=b;exact⟨_,rfl,AY c e d⟩
def UM(C:Ctx)(fr:Fr):List (Nat×Operand)->Option (List<|Nat×V)
 |[]=>some []
 |(i,x)::b=>match ev C fr x,UM C fr b with
  |some v,some vs=>some ((i,v)::vs)
  |_,_=>none
theorem Mh{C:Ctx}{p:Pl}{fr:Fr}{a:Act}(d:Gl C p)(c:Cd p fr a):∀ {b:List (Nat×Operand)} {vs:List (Nat×V)},UM C fr b=some vs->RW p vs (b.map fun(i,x)=>(i,a.eval x))
 |[],vs,h=>by simp[UM]at h;subst h;exact .nil
 |(i,x)::b,vs,h=>by
  unfold UM at h;split at h
  case h_2=>cases h
  rename_i v f g e;cases h;exact .cons (AY d c g)<|Mh d c e
inductive OR where
 |val (v:V) (h:H)
 |skip (h:H)
 |enter (f:FuncId) (args:List V)
 |round (b:Nat) (l:LS) (fr:Fr)
 |alts (l:List (V×H))
def Fr.XA(f:Fr)(t:Nat)(v:V):Fr:=bif zh t f.n then⟨f.n,f.m.set t<|some v⟩else f
def Gg:List Tmp->List V->Fr->Fr
 |t::ts,v::vs,f=>Gg ts vs<|f.XA t v
 |_,_,f=>f
theorem D2.XA{p:Pl}{f:Fr}{tmps:Array Value}(c:D2 p f tmps){v:V}{v':Value}(g:Ab p v v')(t:Nat):D2 p (f.XA t v) (tmps.setIfInBounds t v'):=by
 unfold Fr.XA;simp only[FL];by_cases b:t<f.n
 ·simp only[b,decide_true,we];refine⟨by simp[c.1],fun s=>?_⟩;have d:t<tmps.size:=c.1▸b;by_cases e:s=t
  ·simp_all [Fr.get]
  ·have:=c.2 s;simp only[Fr.get,PM.Cs,wc e]at this ⊢;rw[zk,z8 ae, <-zk];omega
 ·grind [D2]
theorem D2.Gg{p:Pl}:∀ {ts:List Tmp} {vs:List V} {b:List Value},An p vs b->∀ {f:Fr} {tmps:Array Value},D2 p f tmps->D2 p (Gg ts vs f) ((ts.zip b).foldl (fun tmps (t,a)=>tmps.setIfInBounds t a) tmps)
 |[],vs,b,_,f,tmps,c=>by simpa [Det.Gg]using c
 |t::ts,[],b,d,f,tmps,c=>by simp_all [Det.Gg]
 |t::ts,v::vs,b,d,f,tmps,c=>by
  obtain⟨u,i,rfl,g,e⟩:=d;exact D2.Gg e<|c.XA g t
def Bs(h:H):Option V->Option OR
 |some v=>some<|.val v h
 |none=>none
def EG:Option (V×H)->Option OR
 |some (v,h)=>some<|.val v h
 |none=>none
def YQ:Option H->Option OR
 |some h=>some<|.skip h
 |none=>none
def EA(C:Ctx)(h:H)(b:Builtin)(ts:Array TypeId)(args:List V):Option OR:=
 match b with
 | .len=>Bs h<|E6 C.T h ts args
 | .append=>EG<|FJ C.T h ts args
 | .copy=>EG<|aL C.T h ts args
 | .max=>Bs h<|FG ZU args
 | .min=>Bs h<|FG gQ args
 | .cap=>Bs h<|qW C.T ts args
 | .delete=>EG<|Kk C.T h ts args
 | .clear=>EG<|E4 C.T h ts args
 | .unsafeSliceData=>Bs h<|NN args
 | .unsafeString=>EG<|S3 C.T h ts.toList args
 |_=>none
def Hq(C:Ctx)(h:H)(f:V)(args:List V):Option OR:=
 match f with
 | .fn (.func g) first captured=>
  match C.prim g with
  |some q=>EG<|q (first++args++captured) h
  |none=>match C.fn g with
   |some _=>some<|.enter g<|first++args++captured
   |none=>none
 | .yld b=>match h.get b with
  |some (.loop l)=>bif zo args.length l.ps.size then some (.round b l<|Gg l.ps.toList args l.fr)else none
  |_=>none
 |_=>none
def Mi(C:Ctx)(h:H)(x:V)(name:String)(args:List V):Option OR:=
 match x with
 | .iface t v=>match C.T.mth t name with
  |some g=>Hq C h (.fn (.func g) [] []) (v::args)
  |none=>none
 |_=>none
def WO:Operand->Bool
 | .const _=>true
 |_=>false
def mJ(T:BP)(op:BinOp)(t:TypeId)(x y:Operand)(v u:V):Option V:=
 match op,v,u,T.und t with
 | .eql,.nili,.nili,some (.interface _)=>bif WO x||WO y then some (.bool true)else none
 | .neq,.nili,.nili,some (.interface _)=>bif WO x||WO y then some (.bool false)else none
 |_,_,_,_=>none
def Jd(T:BP)(op:BinOp)(t:TypeId)(x y:Operand)(v u:V):Option V:=
 match mJ T op t x y v u with
 |some r=>some r
 |none=>Jv T op t v u
def F5(C:Ctx)(fr:Fr)(h:H)(o:Oper):Option OR:=
 let ρ:=ev C fr
 match o.op with
 | .move x| .assign x=>Bs h<|ρ x
 | .pick c a b=>match ρ c with
  |some (.bool t)=>Bs h<|if t then ρ a else ρ b
  |_=>none
 | .alloc t=>EG<|FR C.T h t
 | .box t x=>EG<|(ρ x).map fun v=>Xi h t v
 | .build t e=>match UM C fr e.toList with
  |some ps=>Bs h<|JB C.T t ps
  |none=>none
 | .buildSlice t n e=>match UM C fr e.toList with
  |some ps=>EG<|Ef C.T h t n ps
  |none=>none
 | .load t x=>match ρ x with
  |some v=>Bs h<|Eu C.T h t v
  |none=>none
 | .store t x y=>match ρ x,ρ y with
  |some v,some u=>YQ<|Hl C.T h t v u
  |_,_=>none
 | .nilCheck x=>match ρ x with
  |some (.ptr b i)=>Bs h<|some<|.ptr b i
  |some (.iface t v)=>Bs h<|some<|.iface t v
  |_=>none
 | .binOp op t x y _=>match ρ x,ρ y with
  |some v,some u=>Bs h<|Jd C.T op t x y v u
  |_,_=>none
 | .unOp op _ x=>match ρ x with
  |some v=>Bs h<|yT op v
  |none=>none
 | .convert s d x=>match ρ x with
  |some v=>Bs h<|E1 C.T h s d v
  |none=>none
 | .makeInterface t x=>match ρ x,C.T.und t with
  |some v,some d=>match d with
   | .interface _=>none
   |_=>Bs h<|some<|.iface t v
  |_,_=>none
 | .makeFunc f first captured=>match Sl C fr first.toList,Sl C fr captured.toList with
  |some a,some b=>Bs h<|some<|.fn f a b
  |_,_=>none
 | .makeMap _ r=>match Tz C fr r with
  |some v=>EG<|Ig h v
  |none=>none
 | .makeSlice t l c=>match ρ l,ρ c with
  |some v,some u=>EG<|Nf C.T h t v u
  |_,_=>none
 | .slice t x z A mx=>match ρ x,Tz C fr z,Tz C fr A,Tz C fr mx with
  |some v,some l,some r,some m=>Bs h<|Dt C.T t v l r m
  |_,_,_,_=>none
 | .fieldAddr t x f=>match ρ x with
  |some v=>Bs h<|Jt C.T t v f
  |none=>none
 | .field t x f=>match ρ x with
  |some v=>Bs h<|JA C.T t v f
  |none=>none
 | .indexAddr t x i=>match ρ x,ρ i with
  |some v,some u=>Bs h<|ED C.T t v u
  |_,_=>none
 | .index t x i=>match ρ x,ρ i with
  |some v,some u=>Bs h<|H6 C.T t v u
  |_,_=>none
 | .lookup t x i ok=>match ρ x,ρ i with
  |some v,some u=>Bs h<|Ei C.T h t v u ok
  |_,_=>none
 | .mapUpdate t m k x| .insert t m k x=>match ρ m,ρ k,ρ x with
  |some a,some b,some c=>YQ<|Hd C.T h t a b c
  |_,_,_=>none
 | .range t x=>match ρ x with
  |some v=>EG<|GY C.T h t v
  |none=>none
 | .next x j=>match ρ x with
  |some v=>bif j then EG (LF h v j)else(Ra h v j).map .alts
  |none=>none
 | .entry x=>match ρ x with
  |some v=>Bs h<|QG h v
  |none=>none
 | .extract x i=>match ρ x with
  |some v=>Bs h<|Gu v i
  |none=>none
 | .call c=>match c.callee,Sl C fr c.args.toList with
  | .builtin b,some args=>EA C h b c.argTypes args
  | .value f,some args=>match ρ f with
   |some g=>Hq C h g args
   |none=>none
  | .invoke x q,some args=>match ρ x with
   |some v=>Mi C h v q args
   |none=>none
  |_,_=>none
 |_=>none
abbrev Fp:=Ctx->Fr->H->Option OR
def sA(a0:Operand):Fp:=fun C fr h=>Bs h<|ev C fr a0
def YR(a0:Operand):Fp:=fun C fr h=>Bs h<|ev C fr a0
def rB(a0:Operand)(a1:Operand)(a2:Operand):Fp:=fun C fr h=>match ev C fr a0 with|some (.bool t)=>Bs h (if t then ev C fr a1 else ev C fr a2)|_=>none
def kM(a0:TypeId):Fp:=fun C _fr h=>EG<|FR C.T h a0
def xF(a0:TypeId)(a1:Operand):Fp:=fun C fr h=>EG<|(ev C fr a1).map fun v=>Xi h a0 v
def mP(a0:TypeId)(a1:Array (Nat×Operand)):Fp:=fun C fr h=>match UM C fr a1.toList with|some ps=>Bs h (JB C.T a0 ps)|none=>none
def QT(a0:TypeId)(a1:Nat)(a2:Array (Nat×Operand)):Fp:=fun C fr h=>match UM C fr a2.toList with|some ps=>EG (Ef C.T h a0 a1 ps)|none=>none
def bG(a0:TypeId)(a1:Operand)(a2:Operand)(a3:Operand):Fp:=fun C fr h=>match ev C fr a1,ev C fr a2,ev C fr a3 with|some a,some b,some c=>YQ (Hd C.T h a0 a b c)|_,_,_=>none
def rC(a0:TypeId)(a1:Operand):Fp:=fun C fr h=>match ev C fr a1 with|some v=>Bs h (Eu C.T h a0 v)|none=>none
def kF(a0:TypeId)(a1:Operand)(a2:Operand):Fp:=fun C fr h=>match ev C fr a1,ev C fr a2 with|some v,some u=>YQ (Hl C.T h a0 v u)|_,_=>none
def gS(_a0:Nat):Fp:=fun _ _ _=>none
def kD(_a0:Nat):Fp:=fun _ _ _=>none
def TX(a0:Operand):Fp:=fun C fr h=>match ev C fr a0 with|some (.ptr b i)=>Bs h (some<|.ptr b i)|some (.iface t v)=>Bs h (some<|.iface t v)|_=>none
def mA(a0:BinOp)(a1:TypeId)(a2:Operand)(a3:Operand)(_a4:TypeId):Fp:=fun C fr h=>match ev C fr a2,ev C fr a3 with|some v,some u=>Bs h (Jd C.T a0 a1 a2 a3 v u)|_,_=>none
def rV(a0:UnOp)(_a1:TypeId)(a2:Operand):Fp:=fun C fr h=>match ev C fr a2 with|some v=>Bs h (yT a0 v)|none=>none
def XC(a0:TypeId)(a1:TypeId)(a2:Operand):Fp:=fun C fr h=>match ev C fr a2 with|some v=>Bs h (E1 C.T h a0 a1 v)|none=>none
def Hu(_a0:TypeId)(_a1:Operand):Fp:=fun _ _ _=>none
def Mb(a0:TypeId)(a1:Operand):Fp:=fun C fr h=>match ev C fr a1,C.T.und a0 with|some v,some d=>(match d with| .interface _=>none|_=>Bs h<|some<|.iface a0 v)|_,_=>none
def UE(a0:Go.Fn)(a1:Array Operand)(a2:Array Operand):Fp:=fun C fr h=>match Sl C fr a1.toList,Sl C fr a2.toList with|some a,some b=>Bs h (some<|.fn a0 a b)|_,_=>none
def Xq(_a0:TypeId)(a1:Option Operand):Fp:=fun C fr h=>match Tz C fr a1 with|some v=>EG (Ig h v)|none=>none
def Vi(_a0:TypeId)(_a1:Operand):Fp:=fun _ _ _=>none
def RL(a0:TypeId)(a1:Operand)(a2:Operand):Fp:=fun C fr h=>match ev C fr a1,ev C fr a2 with|some v,some u=>EG (Nf C.T h a0 v u)|_,_=>none
def kQ(a0:TypeId)(a1:Operand)(a2:Option Operand)(a3:Option Operand)(a4:Option Operand):Fp:=fun C fr h=>match ev C fr a1,Tz C fr a2,Tz C fr a3,Tz C fr a4 with|some v,some l,some r,some m=>Bs h (Dt C.T a0 v l r m)|_,_,_,_=>none
def RQ(a0:TypeId)(a1:Operand)(a2:Nat):Fp:=fun C fr h=>match ev C fr a1 with|some v=>Bs h (Jt C.T a0 v a2)|none=>none
def mG(a0:TypeId)(a1:Operand)(a2:Nat):Fp:=fun C fr h=>match ev C fr a1 with|some v=>Bs h (JA C.T a0 v a2)|none=>none
def R1(a0:TypeId)(a1:Operand)(a2:Operand):Fp:=fun C fr h=>match ev C fr a1,ev C fr a2 with|some v,some u=>Bs h (ED C.T a0 v u)|_,_=>none
def kO(a0:TypeId)(a1:Operand)(a2:Operand):Fp:=fun C fr h=>match ev C fr a1,ev C fr a2 with|some v,some u=>Bs h (H6 C.T a0 v u)|_,_=>none
def eO(a0:TypeId)(a1:Operand)(a2:Operand)(a3:Bool):Fp:=fun C fr h=>match ev C fr a1,ev C fr a2 with|some v,some u=>Bs h (Ei C.T h a0 v u a3)|_,_=>none
def RK(a0:TypeId)(a1:Operand)(a2:Operand)(a3:Operand):Fp:=fun C fr h=>match ev C fr a1,ev C fr a2,ev C fr a3 with|some a,some b,some c=>YQ (Hd C.T h a0 a b c)|_,_,_=>none
def UG(_a0:TypeId)(_a1:Operand)(_a2:Operand):Fp:=fun _ _ _=>none
def Qe(_a0:TypeId)(_a1:Operand)(_a2:Operand)(_a3:Operand):Fp:=fun _ _ _=>none
def lZ(a0:TypeId)(a1:Operand):Fp:=fun C fr h=>match ev C fr a1 with|some v=>EG (GY C.T h a0 v)|none=>none
def pO(a0:Operand)(a1:Bool):Fp:=fun C fr h=>match ev C fr a0 with|some v=>bif a1 then EG (LF h v a1)else(Ra h v a1).map .alts|none=>none
def iS(a0:Operand):Fp:=fun C fr h=>match ev C fr a0 with|some v=>Bs h (QG h v)|none=>none
def QI(_a0:Operand)(_a1:TypeId)(_a2:TypeId)(_a3:Bool):Fp:=fun _ _ _=>none
def Yw(a0:Operand)(a1:Nat):Fp:=fun C fr h=>match ev C fr a0 with|some v=>Bs h (Gu v a1)|none=>none
def qR(a0:Call):Fp:=fun C fr h=>match a0.callee,Sl C fr a0.args.toList with| .builtin b,some args=>EA C h b a0.argTypes args| .value f,some args=>(match ev C fr f with|some g=>Hq C h g args|none=>none)| .invoke x c,some args=>(match ev C fr x with|some v=>Mi C h v c args|none=>none)|_,_=>none
def zQ(_a0:Call):Fp:=fun _ _ _=>none
def kS(_a0:Call):Fp:=fun _ _ _=>none
def jD(_a0:Operand):Fp:=fun _ _ _=>none
def sN(_a0:Operand)(_a1:Operand):Fp:=fun _ _ _=>none
def qT(_a0:TypeId)(_a1:Operand)(_a2:Bool):Fp:=fun _ _ _=>none
def dM(_a0:Array SelectCase)(_a1:Bool):Fp:=fun _ _ _=>none
def opF(o:Op):Fp:=@Op.casesOn (fun _=>Fp) o sA YR rB kM xF mP QT bG rC kF gS kD TX mA rV XC Hu Mb UE Xq Vi RL kQ RQ mG R1 kO eO RK UG Qe lZ pO iS QI Yw qR zQ kS jD sN qT dM
def FN(C:Ctx)(fr:Fr)(h:H)(o:Oper):Option OR:=opF o.op C fr h
theorem CF(C:Ctx)(fr:Fr)(h:H)(o:Oper):FN C fr h o=F5 C fr h o:=by
 unfold FN F5;cases o.op<;>rfl
def HC(C:Ctx)(fr:Fr)(h:H)(o:Oper):Option OR:=
 match FN C fr h o with
 |some r=>some r
 |none=>match o.op with
  | .convert s d x=>match ev C fr x with
   |some v=>match D0 C.T h s d v with
    |some u=>some<|.val u h
    |none=>EG<|Q8 C.T h s d v
   |none=>none
  |_=>none
structure Ctx.Ok(C:Ctx)(P:Program):Prop where
 T:C.T.Ok P
 fn : ∀ f i, C.fn f = some i -> ∃ fn, P.funcs[f]? = some fn /\ fn.name ≠ "runtime.NumGoroutine" /\ fn.body = some i.body /\ fn.ntmps = i.ntmps /\ fn.results = i.results
 prim:∀f q,C.prim f=some q->∀(p:Pl) (h:H) (w:World) (args:List V) (args':Array Value) v h',R p h w->Gl C p->An p args args'.toList->q args h=some (v,h')->
  ∃v' p' w',(callFunc f args').run P w=.ok (.value v') w'/\Ab p' v v'/\Ext p h w p' h' w'
 spec:∀f q,C.spec f=some q->∀(p:Pl) (h:H) (w:World) (args:List V) (args':Array Value) v h',R p h w->Gl C p->An p args args'.toList->q args h=some (v,h')->
  Calls P f args' w fun e w'=>∃v' p',e=.returned v'/\Ab p' v v'/\Ext p h w p' h' w'
def OW(p:Pl)(h:H)(w:World):OR->Result Next->Prop
 | .val v h',r=>∃v' p' w',r=.ok (.value v') w'/\Ab p' v v'/\Ext p h w p' h' w'
 | .skip h',r=>∃p' w',r=.ok .skip w'/\Ext p h w p' h' w'
 | .enter f args,r=>∃args',r=.ok (.enter f args') w/\An p args args'.toList
 | .round b l fr,r=>∃k n f tmps,p[b]?=some (k,n)/\h.get b=some (.loop l)/\r=.ok (.round k f tmps l.asg l.body) w/\D2 p fr tmps
 | .alts l,r=>∃v h' v' p' w',(v,h')∈l/\r=.ok (.value v') w'/\Ab p' v v'/\Ext p h w p' h' w'
section
variable {C:Ctx}{P:Program}{p:Pl}{h:H}{w:World}{fr:Fr}{a:Act}
theorem BJ{s:Sem Value}{v:Option V}{r:OR}(c:R p h w)(b:Bs h v=some r)(d:∀x,v=some x->∃v',s.run P w=.ok v' w/\Ab p x v'):OW p h w r ((do pure (.value<|<-s):Sem Next).run P w):=by
 cases v with
 |none=>simp[Bs]at b
 |some x=>
  simp only[Bs,zg]at b;subst b;obtain⟨v',f,e⟩:=d x rfl;exact⟨v',p,w,by simp[f],e,zq c⟩
theorem C1{s:Sem Value}{v:Option (V×H)}{r:OR}(b:EG v=some r)(c:∀x h',v=some (x,h')->∃v' p' w',s.run P w=.ok v' w'/\Ab p' x v'/\Ext p h w p' h' w'):OW p h w r ((do pure (.value<|<-s):Sem Next).run P w):=by
 match v,b,c with
 |some (x,h'),b,c=>
  simp only[EG,zg]at b;subst b;obtain⟨v',p',w',f,d,e⟩:=c x h' rfl;exact⟨v',p',w',by simp[f],d,e⟩
 |none,b,_=>simp[EG]at b
theorem VZ{s:Sem Unit}{v:Option H}{r:OR}(b:YQ v=some r)(c:∀h',v=some h'->∃w',s.run P w=.ok () w'/\Ext p h w p h' w'):OW p h w r ((do s;pure .skip:Sem Next).run P w):=by
 cases v with
 |none=>simp[YQ]at b
 |some h'=>
  simp only[YQ,zg]at b;subst b;obtain⟨w',e,d⟩:=c h' rfl;exact⟨p,w',by simp[e],d⟩
theorem Lv(E:C.Ok P)(G:R p h w)(Q:Gl C p){f:V}{B:Value}{args:List V}{args':Array Value}(A:Ab p f B)(u:An p args args'.toList){r:OR}(b:Hq C h f args=some r):
  OW p h w r ((do let d<-zx B args';invoke d.target d.args:Sem Next).run P w):=by
 unfold Hq at b;split at b
 case h_3=>cases b
 case h_2=>
  split at b
  case h_2=>cases b
  rename_i l I;rw[Bj]at b;by_cases K:args.length=l.ps.size
  ·simp only[K,decide_true,we,zg]at b;subst b;obtain⟨k,n,M,rfl⟩:=A;obtain⟨k',n',o,z,s,f0,tmps,r,m,j,U,rfl⟩:=G.obj _ _ I;have W:=u.length;simp only[zx,zf,zp,zd,invoke];have e:((l.ps.zip args').foldl (fun tmps (t,a)=>tmps.setIfInBounds t a) tmps)=(l.ps.toList.zip args'.toList).foldl (fun tmps (t,a)=>tmps.setIfInBounds t a) tmps:=by
    grind [Array.toList_zip]
   have D:=D2.Gg (ts:=l.ps.toList) u j;refine⟨k,n,f0,_,M,I,?_,D⟩;simp_all [run_yield]
  grind
 rename_i g first captured
 obtain⟨x,y,rfl,J,L⟩:=A;have c:An p (first++args++captured) (x++args'++y).toList:=by
  simpa using(J.append u).append L
 simp only[zx,zf,zp,zd,invoke];split at b
 case h_1=>
  rename_i q N;match hqr:q (first++args++captured) h,b with
  |some (v,h'),b=>
   simp only[EG,zg]at b;subst b;obtain⟨v',p',w',z,s,j⟩:=E.prim g q N p h w _ _ v h' G Q c hqr;exact⟨v',p',w',z,s,j⟩
  |none,b=>simp[EG]at b
 case h_2=>
  split at b
  case h_2=>cases b
  rename_i i O;cases b;obtain⟨fn,z,s,j,U,D⟩:=E.fn g i O;refine⟨_,?_,c⟩;simp_all [callFunc]
theorem S1(l:C.Ok P)(u:R p h w)(z:Gl C p){x:V}{x':Value}{name:String}{args:List V}{args':Array Value}(s:Ab p x x')(A:An p args args'.toList){r:OR}(c:Mi C h x name args=some r):
  OW p h w r ((invoke (.fn (.method name) #[])<|#[x']++args').run P w):=by
 unfold Mi at c;split at c
 case h_2=>cases c
 rename_i t v;split at c
 case h_2=>cases c
 rename_i g q;obtain⟨y,rfl,B⟩:=s;obtain⟨j,m,d,h1,h2,h3,h4,h5,h6⟩:=l.T.mth t name g q;have key:(invoke (.fn (.method name) #[])<|#[.iface t y]++args').run P w=((do let d<-zx (.func (.func g) #[] #[]) (#[y]++args');invoke d.target d.args:Sem Next).run P w):=by
  have Ma:(underlying t).run P w=.ok d w:=by simp_all [underlying]
  have n:(typeInfo t).run P w=.ok j w:=by unfold typeInfo;simp[h1]
  have b:∀k,(method (k+1) t y name).run P w=.ok (g,y) w:=by
   simp_all [method,follow,receiverAt,Place.get]
  have i:=b<|P.types.size+99;have e:P.types.size+Made.depth=P.types.size+99+1:=rfl;have h0:(#[Value.iface t y]++args')[0]?=some (.iface t y):=by
   grind
  have o:(#[Value.iface t y]++args').extract 1 (#[Value.iface t y]++args').size=args':=by
   simp
  simp only[invoke,zx,h0,o];simp[callMethod,e,i]
 rw[key];exact Lv l u z (f:=.fn (.func g) [] []) (by simp[Ab]) (by simp_all) c
theorem Sd(g:C.Ok P)(e:R p h w){b:Builtin}{ts:Array TypeId}{t:TypeId}{cs:Array Bool}{args:List V}{args':Array Value}(f:An p args args'.toList){r:OR}(d:EA C h b ts args=some r):
  OW p h w r ((builtin b ts t cs args').run P w):=by
 unfold EA at d;split at d
 case h_1=>exact BJ e d fun x c=>mB g.T e f c
 case h_2=>exact C1 d fun x h' c=>Vl g.T e f c
 case h_3=>exact C1 d fun x h' c=>fU g.T e f c
 case h_4=>exact BJ e d fun x c=>kP f c
 case h_5=>exact BJ e d fun x c=>mV f c
 case h_6=>exact BJ e d fun x c=>lR g.T f c
 case h_7=>exact C1 d fun x h' c=>Vg g.T e f c
 case h_8=>exact C1 d fun x h' c=>X4 g.T e f c
 case h_9=>exact BJ e d fun x c=>Ym f c
 case h_10=>
  refine C1 d fun x h' c=>?_
  obtain⟨v',w',j,i,k⟩:=dO (t:=t) g.T e f c;grind
 grind
theorem bS{T:BP}(j:T.Ok P){op:BinOp}{t:TypeId}{x y:Operand}{v u:V}{v' i:Value}(e:Ab p v v')(k:Ab p u i){z:V}(f:Jd T op t x y v u=some z):
  ∃l,(do eqGuard op t x y v' i;binOp op t v' i:Sem Value).run P w=.ok l w/\Ab p z l:=by
 unfold Jd at f;split at f
 case h_2=>
  simp only[zf,Yn j e k f,zd];exact iR j e k f
 case h_1=>
  rename_i r n;have A:∀ {b:Bool},(bif WO x||WO y then some (V.bool b)else none)=some z->z=.bool b/\((∃c,x=.const c)\/∃c,y=.const c):=by
   intro b g;cases d:(WO x||WO y)with
   |false=>grind
   |true=>
    simp only[d,we,zg]at g;refine⟨g.symm,?_⟩;simp only[zm]at d;rcases d with d|d
    ·left;cases x<;>first|exact⟨_,rfl⟩|cases d
    ·right;cases y<;>first|exact⟨_,rfl⟩|cases d
  have B:∀op,(op=.eql\/op=.neq)->((∃c,x=.const c)\/∃c,y=.const c)->(eqGuard op t x y .nilIface .nilIface).run P w=.ok () w:=by
   intro op s d;rcases s with rfl|rfl<;>unfold eqGuard<;>rcases d with⟨c,rfl⟩|⟨c,rfl⟩<;>simp
  have q:∀ {o},T.und t=some (.interface o)->(Op.equal t .nilIface .nilIface).run P w=.ok true w:=by
   intro o Ma;unfold Op.equal Op.maxDepth Op.equalIn;rw[zf,Ax j Ma];rfl
  unfold mJ at n;split at n
  case h_1=>
   have g:=(Mz (t:=t) (y':=.nilIface) e rfl).1;simp_all [Ab]
  case h_2=>
   have g:=(Mz (t:=t) (y':=.nilIface) e rfl).2;simp_all [Ab]
  grind
theorem YJ(G:C.Ok P)(D:R p h w)(q:Gl C p)(A:Cd p fr a){o:Oper}{r:OR}(e:FN C fr h o=some r):OW p h w r ((execOp a.eval o).run P w):=by
 rw[CF]at e;unfold F5 at e;unfold execOp;cases ho:o.op<;>simp only[ho]at e ⊢<;>try (cases e;done)
 case move x|assign x=>
  cases j:ev C fr x with
  |none=>simp[j,Bs]at e
  |some v=>simp[j,Bs]at e;subst e;exact⟨_,p,w,rfl,AY q A j,zq D⟩
 case pick c x y=>
  split at e
  case h_2=>cases e
  rename_i t hc;have Q:=AY q A hc;simp only[Ab]at Q;simp only[zf,Q,asBool,zp,zd];cases t
  ·cases j:ev C fr y with
   |none=>simp[j,Bs]at e
   |some v=>simp[j,Bs]at e;subst e;exact⟨_,p,w,by simp,AY q A j,zq D⟩
  ·cases j:ev C fr x with
   |none=>simp[j,Bs]at e
   |some v=>simp[j,Bs]at e;subst e;exact⟨_,p,w,by simp,AY q A j,zq D⟩
 case alloc t=>exact C1 e fun x h' j=>XG G.T D j
 case box t x=>
  refine C1 e fun v h' j=>?_
  rw[zi]at j;obtain⟨u,J,O⟩:=j;have:=jB (P:=P) (t:=t) D<|AY q A J;grind
 case build t L=>
  split at e
  case h_2=>cases e
  rename_i ps M;refine BJ D e fun x j=>XU G.T ?_ j
  have:=Mh q A M;simp_all
 case buildSlice t n L=>
  split at e
  case h_2=>cases e
  rename_i ps M;refine C1 e fun x h' j=>TB G.T D ?_ j
  have:=Mh q A M;simp_all
 case load t x=>
  split at e
  case h_2=>cases e
  rename_i v B;exact BJ D e fun x j=>SV G.T D (AY q A B) j
 case store t x y=>
  split at e
  case h_2=>cases e
  rename_i v u B J;exact VZ e fun h' j=>Xt G.T D (AY q A B) (AY q A J) j
 case nilCheck x=>
  split at e
  case h_3=>cases e
  case h_1=>
   rename_i b i B;have j:=AY q A B;have K:=j;simp only[Ab]at K;obtain⟨r',n,hp,O⟩:=K;simp only[Bs,zg]at e;subst e;rw[O];exact⟨_,p,w,rfl,O▸j,zq D⟩
  case h_2=>
   rename_i t v B;have j:=AY q A B;have K:=j;simp only[Ab]at K;obtain⟨y,O,_⟩:=K;simp only[Bs,zg]at e;subst e;rw[O];exact⟨_,p,w,rfl,O▸j,zq D⟩
 case binOp op t x y t2=>
  split at e
  case h_2=>cases e
  rename_i v u B J;refine BJ D e fun z N=>?_
  exact bS G.T (AY q A B) (AY q A J) N
 case unOp op t x=>
  split at e
  case h_2=>cases e
  rename_i v B;exact BJ D e fun x j=>qH (AY q A B) j
 case convert s d x=>
  split at e
  case h_2=>cases e
  rename_i v B;exact BJ D e fun x j=>ZM G.T D (AY q A B) j
 case makeInterface t x=>
  split at e
  case h_2=>cases e
  rename_i v d B Y;split at e
  case h_1=>cases e
  case h_2=>
   refine BJ D e fun z N=>?_
   cases N;refine⟨.iface t<|a.eval x,?_,by exact⟨_,rfl,AY q A B⟩⟩;unfold Instr.makeInterface;simp only[zf,Ax G.T Y,zd];rfl
 case makeFunc f first captured=>
  split at e
  case h_2=>cases e
  rename_i x y j Z;refine BJ D e fun z N=>?_
  cases N;exact⟨_,rfl,by exact⟨_,_,rfl,by simpa using IP q A j,by simpa using IP q A Z⟩⟩
 case makeMap t x=>
  split at e
  case h_2=>cases e
  rename_i v B;exact C1 e fun x h' j=>RR D (My q A B) j
 case makeSlice t l c=>
  split at e
  case h_2=>cases e
  rename_i v u B J;exact C1 e fun x h' j=>eI G.T D (AY q A B) (AY q A J) j
 case slice t x lo hi mx=>
  split at e
  case h_2=>cases e
  rename_i v l r' m B U X hm;exact BJ D e fun x j=>Yr G.T (AY q A B) (My q A U) (My q A X) (My q A hm) j
 case fieldAddr t x f=>
  split at e
  case h_2=>cases e
  rename_i v B;exact BJ D e fun x j=>XZ G.T (AY q A B) j
 case field t x f=>
  split at e
  case h_2=>cases e
  rename_i v B;exact BJ D e fun x j=>Xj G.T (AY q A B) j
 case indexAddr t x i=>
  split at e
  case h_2=>cases e
  rename_i v u B J;exact BJ D e fun x j=>Xu G.T (AY q A B) (AY q A J) j
 case index t x i=>
  split at e
  case h_2=>cases e
  rename_i v u B J;exact BJ D e fun x j=>Xh G.T (AY q A B) (AY q A J) j
 case lookup t x i ok=>
  split at e
  case h_2=>cases e
  rename_i v u B J;exact BJ D e fun x j=>TQ G.T D (AY q A B) (AY q A J) j
 case mapUpdate t m k x|insert t m k x=>
  split at e
  case h_2=>cases e
  rename_i v u z B J N;exact VZ e fun h' j=>Vf G.T D (AY q A B) (AY q A J) (AY q A N) j
 case range t x=>
  split at e
  case h_2=>cases e
  rename_i v B;exact C1 e fun x h' j=>Uc G.T D (AY q A B) j
 case next x b=>
  split at e
  case h_2=>cases e
  rename_i v B;cases b with
  |true=>exact C1 e fun x h' j=>ZC D (AY q A B) j
  |false=>
   simp only[wg,zi]at e;obtain⟨l,U,rfl⟩:=e;obtain⟨v,h',v',p',w',g1,g2,g3,g4⟩:=Xc (P:=P) (t:=o.type) D (AY q A B) U;grind [zf,zd,zp,OW]
 case entry x=>
  split at e
  case h_2=>cases e
  rename_i v B;exact BJ D e fun x j=>X8 D (AY q A B) j
 case extract x i=>
  split at e
  case h_2=>cases e
  rename_i v B;exact BJ D e fun x j=>SC (AY q A B) j
 case call c=>
  split at e
  case h_4=>cases e
  case h_1=>
   rename_i b args I E;have:=IP q A E;unfold resolve;simp only[I,zf,zp,zd,invoke];exact Sd G D (by simp_all) e
  case h_2=>
   rename_i f args I E;split at e
   case h_2=>cases e
   rename_i g W;have:=IP q A E;unfold resolve;simp only[I];exact Lv G D q (AY q A W) (by simp_all) e
  case h_3=>
   rename_i x nm args I E;split at e
   case h_2=>cases e
   rename_i v B;have:=IP q A E;unfold resolve;simp only[I,zf,zp,zd];exact S1 G D q (AY q A B) (by simp_all) e
theorem Kj(f:C.Ok P)(e:R p h w)(j:Gl C p)(i:Cd p fr a){o:Oper}{r:OR}(b:HC C fr h o=some r):OW p h w r ((execOp a.eval o).run P w):=by
 unfold HC at b;split at b
 case h_1=>
  grind [YJ]
 case h_2=>
  split at b
  case h_2=>cases b
  rename_i s d x l;split at b
  case h_2=>cases b
  rename_i v g;unfold execOp;simp only[l];split at b
  case h_1=>
   rename_i u k;exact BJ (v:=some u) e b fun x c=>by cases c;exact jZ f.T e (AY j i g) k
  exact C1 b fun x h' c=>XK f.T e (AY j i g) c
end
def A3(fr:Fr)(ops:Array Oper)(o:Oper):Bool:=
 match o.guard with
 |none=>true
 |some (j,c)=>
  match (ops[j]?).bind (·.dst)with
  |some t=>bif zh t fr.n then(match fr.get t with| .bool b=>b==c|_=>false)else false
  |none=>false
inductive Cl where
 |fn (f:FuncId) (args:List V)
 |rnd (b:Nat) (l:LS) (fr:Fr)
abbrev CJ:=Cl->H->Option (List<|V×H)
def bl{α d:Type}:List α->(α->Option (List d))->Option (List d)
 |[],_=>some []
 |a::c,f=>match f a with
  |none=>none
  |some x=>match c with
   |[]=>some x
   |b::e=>match bl (b::e) f with
    |some y=>some<|x++y
    |none=>none
theorem EH{α g:Type}{f:α->Option (List g)}:∀ {l:List α} {r:List g},bl l f=some r->∀a∈l,∃x,f a=some x/\∀b∈x,b∈r
 |[],r,_,a,e=>by cases e
 |[c],r,h,a,e=>by
  grind [bl]
 |c::d::i,r,h,a,e=>by
  unfold bl at h;split at h
  ·cases h
  simp only at h;split at h
  case h_2=>cases h
  rename_i y j;rcases yn.1 e with rfl|e
  ·grind
  ·obtain⟨z,n,k⟩:=EH j a e;grind
def G6(fr:Fr)(d:Option Nat):List (V×H)->Option (List<|Fr×H)
 |[]=>some []
 |(v,h)::l=>match fr.put d v with
  |some f=>match G6 fr d l with
   |some r=>some ((f,h)::r)
   |none=>none
  |none=>none
theorem Nv{fr:Fr}{d:Option Nat}:∀ {l:List (V×H)} {r:List (Fr×H)},G6 fr d l=some r->∀v h,(v,h)∈l->∃f,fr.put d v=some f/\(f,h)∈r
 |[],r,_,v,h,hm=>by cases hm
 |(u,k)::l,r,b,v,h,hm=>by
  unfold G6 at b;split at b
  case h_2=>cases b
  split at b
  case h_2=>cases b
  rename_i j c;rcases yn.1 hm with e|hm
  ·grind
  ·obtain⟨g,n,i⟩:=Nv c v h hm;grind
def step1(C:Ctx)(call:CJ)(ops:Array Oper)(o:Oper)(fr:Fr)(h:H):Option (List<|Fr×H):=
 bif A3 fr ops o then
  match HC C fr h o with
  |some (.val v h')=>match fr.put o.dst v with
   |some fr'=>some [(fr',h')]
   |none=>none
  |some (.skip h')=>match fr.put o.dst (.tup [])with
   |some fr'=>some [(fr',h')]
   |none=>none
  |some (.enter f args)=>match call (.fn f args) h with
   |some l=>G6 fr o.dst l
   |none=>none
  |some (.round b ls f)=>match call (.rnd b ls f) h with
   |some l=>G6 fr o.dst l
   |none=>none
  |some (.alts l)=>G6 fr o.dst l
  |none=>none
 else match fr.put o.dst (.tup [])with
  |some fr'=>some [(fr',h)]
  |none=>none
def Rr(C:Ctx)(call:CJ)(ops:Array Oper):List Oper->Fr->H->Option (List<|Fr×H)
 |[],fr,h=>some [(fr,h)]
 |o::b,fr,h=>match step1 C call ops o fr h with
  |some l=>bl l fun x=>Rr C call ops b x.1 x.2
  |none=>none
def FW(ro:Option Nat):Fence:={ yb with round:=ro }
theorem Vc{ro:Option Nat}{n:Nat}{P:Program}{f:FuncId}{args:Array Value}{w:World}{R:Ending->World->Prop}:CallsIn (FW ro) n P f args w R↔Calls P f args w R:=by
 have:CallsIn (FW ro) n P f args w R↔CallsIn yb n P f args w R:=Iff.rfl;grind [callsIn_wide]
theorem sR{ro:Option Nat}{n:Nat}{P:Program}{k:Nat}{f:FuncId}{tmps:Array Value}{asg body:Code}{w:World}{R:Ending->World->Prop}(h:RoundIn yb 0 P k f tmps asg body w R):RoundIn (FW ro) n P k f tmps asg body w R:=
 ⟨trivial,fun c cs _=>h.2 c cs<|room_wide _⟩
inductive DX where
 |normal
 |exit (id:Nat)
 |ret
def DX.Qx:DX->Exit
 | .normal=>.normal
 | .exit id=>.exit id
 | .ret=>.ret
section
variable {C:Ctx}{P:Program}{p:Pl}{h:H}{w:World}{fr:Fr}{a:Act}
theorem Cd.put(f:Cd p fr a){d:Option Nat}{v:V}{v':Value}(i:Ab p v v'){fr':Fr}(b:fr.put d v=some fr'):Cd p fr' (a.put d v'):=by
 unfold Fr.put at b;cases d with
 |none=>cases b;exact f
 |some t=>
  simp only[FL]at b;by_cases c:t<fr.n
  ·simp only[c,decide_true,we,zg]at b;subst b;refine⟨by simp[yp,f.1],fun s=>?_⟩;have g:t<a.tmps.size:=f.1▸c;by_cases e:s=t
   ·simp_all [Fr.get,yp]
   ·have:=f.2 s;simp only[Fr.get,PM.Cs,wc e,yp]at this ⊢;rw[zk,z8 ae, <-zk];omega
  grind
theorem Cd.mono(b:Cd p fr a){p':Pl}(c:∃q,p'=p++q):Cd p' fr a:=by
 obtain⟨q,rfl⟩:=c;exact⟨b.1,fun t=>(b.2 t).mono q⟩
theorem Cd.ext(b:Cd p fr a){p':Pl}{h':H}{w':World}(e:Ext p h w p' h' w'):Cd p' fr a:=b.mono e.pre
theorem iJ{p:Pl}{v:V}{b:Bool}(c:Ab p v (.bool b)):v=.bool b:=by
 cases v<;>simp only[Ab]at c<;>first|(cases c;rfl)|(simp at c;done)|(done)|(done)|(done)|(done)|(done)
theorem PT(l:Cd p fr a)(ops:Array Oper)(o:Oper):zy o (yielded ops a.tmps)=A3 fr ops o:=by
 unfold zy A3;cases r:o.guard with
 |none=>rfl
 |some q=>
  obtain⟨j,d⟩:=q;simp only;unfold yielded;cases s:(ops[j]?).bind (·.dst)with
  |none=>simp
  |some t=>
   simp only[Option.bind_some,FL];by_cases c:t<fr.n
   ·have f:t<a.tmps.size:=l.1▸c;have g:=l.2 t;simp only[c,decide_true,we];have e:a.tmps[t]?=some (a.tmps.getD t undef):=by simp[f]
    rw[e];cases i:a.tmps.getD t undef with
    |bool b=>
     rw[i]at g;have:=iJ g;grind
    |_=>
     rw[i]at g;cases k:fr.get t with
     |bool b=>rw[k]at g;simp[Ab]at g
     |_=>cases d<;>rfl
   ·have:a.tmps[t]?=none:=Array.getElem?_eq_none<|Nat.le_of_not_lt<|l.1▸c;grind
def FU(p:Pl)(h:H)(w:World)(l:List (V×H))(e:Ending)(w':World):Prop:=
 ∃v h' v' p',(v,h')∈l/\e=.returned v'/\Ab p' v v'/\Ext p h w p' h' w'
structure CJ.Ok(C:Ctx)(P:Program)(call:CJ):Prop where
 fn:∀f args h l,call (.fn f args) h=some l->∀(p:Pl) (w:World) (args':Array Value),R p h w->Gl C p->An p args args'.toList->Calls P f args' w (FU p h w l)
 rnd:∀b ls fr h l,call (.rnd b ls fr) h=some l->∀(p:Pl) (w:World) (k n:Nat) (f:FuncId) (tmps:Array Value),R p h w->Gl C p->h.get b=some (.loop ls)->p[b]?=some (k,n)->D2 p fr tmps->
  RoundIn yb 0 P k f tmps ls.asg ls.body w (FU p h w l)
theorem Gq{o:Oper}{r:OR}(b:FN C fr h o=some r):∀c,o.op≠ .defer c:=by
 grind [CF,F5]
theorem Ff{o:Oper}{r:OR}(b:HC C fr h o=some r):∀c,o.op≠ .defer c:=by
 grind [HC,Gq]
theorem QN{p':Pl}{l:List (V×H)}{r:List (Fr×H)}{d:Option Nat}(j:G6 fr d l=some r)(k:Cd p fr a){K:Act->World->Prop}
  (g:∀x∈r,∀p' b w',Cd p' x.1 b->Ext p h w p' x.2 w'->b.defers=a.defers->K b w') {v:V} {h':H} {v':Value} {w':World} (i:(v,h')∈l) (n:Ab p' v v') (c:Ext p h w p' h' w'):K (a.put d v') w':=by
 obtain⟨f,o,e⟩:=Nv j v h' i;exact g _ e p' _ w' ((k.ext c).put n o) c (by cases d<;>rfl)
theorem XV(D:C.Ok P){call:CJ}(q:call.Ok C P)(t:R p h w)(z:Gl C p)(j:Cd p fr a){ops:Array Oper}{i:Nat}{o:Oper}(W:ops[i]?=some o){l:List (Fr×H)}
  (d:step1 C call ops o fr h=some l) {ro:Option Nat} {n:Nat} {Q:Exit->Act->World->Prop} {K:Act->World->Prop}
  (A:∀x∈l,∀p' J w',Cd p' x.1 J->Ext p h w p' x.2 w'->J.defers=a.defers->K J w'):wpOpIn (FW ro) n P ops Q i K a w:=by
 have y:∀v,(a.put o.dst v).defers=a.defers:=by intro v;cases o.dst<;>rfl
 unfold step1 at d;unfold wpOpIn;simp only[W];rw[PT j];cases O:A3 fr ops o with
 |false=>
  simp only[O,wg]at d;refine⟨fun _ _=>trivial,?_⟩;split at d
  case h_2=>cases d
  rename_i E G;cases d;exact A _ (zn.2 rfl) p _ w (j.put (by simp[Ab,undef]) G) (zq t)<|y _
 |true=>
  simp only[O,we]at d;refine⟨fun _ _=>trivial,?_⟩;split at d
  case h_6=>cases d
  case h_1=>
   rename_i v X c;split at d
   case h_2=>cases d
   rename_i E G;cases d;obtain⟨v',p',w',r,u,s⟩:=Kj D t z j c;rw[zl _ _ _<|Ff c,r,zr];exact A _ (zn.2 rfl) p' _ w' ((j.ext s).put u G) s<|y _
  case h_2=>
   rename_i X c;split at d
   case h_2=>cases d
   rename_i E G;cases d;obtain⟨p',w',r,s⟩:=Kj D t z j c;rw[zl _ _ _<|Ff c,r,Oper.uponIn_skip];exact A _ (zn.2 rfl) p' _ w' ((j.ext s).put (by simp[Ab,undef]) G) s<|y _
  case h_3=>
   rename_i f args c;split at d
   case h_2=>cases d
   rename_i I N;obtain⟨args',r,u⟩:=Kj D t z j c;rw[zl _ _ _<|Ff c,r,Oper.uponIn_enter];refine⟨(by grind [FW,yb]),Vc.2<|(q.fn f args h I N p w args' t z u).mono ?_⟩;rintro e w' ⟨v,h',v',p',B,rfl,M,L⟩;exact QN d j A B M L
  case h_4=>
   rename_i b ls f c;split at d
   case h_2=>cases d
   rename_i I N;obtain⟨k,m,g,tmps,r,u,s,U⟩:=Kj D t z j c;rw[zl _ _ _<|Ff c,s,Oper.uponIn_round];refine⟨(by grind [FW,yb]),(sR<|q.rnd b ls f h I N p w k m g tmps t z u r U).mono ?_⟩;rintro e w' ⟨v,h',v',p',B,rfl,M,L⟩;exact QN d j A B M L
  case h_5=>
   rename_i I c;obtain⟨v,h',v',p',w',B,r,u,s⟩:=Kj D t z j c;rw[zl _ _ _<|Ff c,r,zr];exact QN d j A B u s
theorem Su(A:C.Ok P){call:CJ}(b:call.Ok C P){ops:Array Oper}{ro:Option Nat}{n:Nat}{Q:Exit->Act->World->Prop}:
  ∀(l:List Oper) (k:Nat),(∀j,l[j]?=ops[k+j]?)->∀ {p:Pl} {h:H} {w:World} {fr:Fr} {a:Act},R p h w->Gl C p->Cd p fr a->∀ {L:List (Fr×H)},Rr C call ops l fr h=some L->
  (∀x∈L,∀p' e w',Cd p' x.1 e->Ext p h w p' x.2 w'->e.defers=a.defers->Q .normal e w')->wpOpsIn (FW ro) n P ops Q (List.range' k l.length) a w
 |[],k,_,p,h,w,fr,a,q,t,f,L,d,s=>by
  cases d;exact s _ (zn.2 rfl) p a w f (zq q) rfl
 |o::l,k,u,p,h,w,fr,a,q,t,f,L,d,s=>by
  unfold Rr at d;split at d
  case h_2=>cases d
  rename_i W J;refine XV A b q t f (by simpa using(u 0).symm) J (K:=wpOpsIn (FW ro) n P ops Q<|List.range' (k+1) l.length) fun x E O a1 U g c z=>?_
  obtain⟨L1,M,D⟩:=EH d x E;exact Su A b l (k+1) (fun j=>by have:=u<|j+1;grind) c.rel (t.ext c) g M
   fun y I N a2 G i r B=>s y (D y I) N a2 G i (c.trans r) ah
theorem Vn(i:C.Ok P){call:CJ}(b:call.Ok C P){ops:Array Oper}{ro:Option Nat}{n:Nat}{Q:Exit->Act->World->Prop}(d:R p h w)(g:Gl C p)(j:Cd p fr a){L:List (Fr×H)}
  (e:Rr C call ops ops.toList fr h=some L) {id:Nat}
  (f:∀x∈L,∀p' c w',Cd p' x.1 c->Ext p h w p' x.2 w'->c.defers=a.defers->Q .normal c w'):(Code.region id ops false).wpIn (FW ro) n P Q a w:=by
 refine wpIn_region ?_;have:=Su (Q:=Q) (ro:=ro) (n:=n) i b ops.toList 0 (by simp) d g j e f;grind [List.range_eq_range']
end
theorem K5{C:Ctx}{fr fr':Fr}:∀ {b:List Operand},(∀x∈b,ev C fr x=ev C fr' x)->Sl C fr b=Sl C fr' b
 |[],_=>rfl
 |x::b,h=>by
  unfold Sl;rw[h x (by simp),K5<|fun y c=>h y<|by simp[c]]
theorem IN{C:Ctx}{fr fr':Fr}:∀ {b:List (Nat×Operand)},(∀x∈b,ev C fr x.2=ev C fr' x.2)->UM C fr b=UM C fr' b
 |[],_=>rfl
 |(i,x)::b,h=>by
  unfold UM;rw[h (i,x) (by simp),IN<|fun y c=>h y<|by simp[c]]
theorem Py{C:Ctx}{fr fr':Fr}{x:Option Operand}(h:∀y,x=some y->ev C fr y=ev C fr' y):Tz C fr x=Tz C fr' x:=by
 cases x with
 |none=>rfl
 |some y=>simp[Tz,h y rfl]
theorem XM{C:Ctx}{fr fr':Fr}{h:H}{o:Oper}(d:∀x∈o.op.operands,ev C fr x=ev C fr' x):FN C fr h o=FN C fr' h o:=by
 obtain⟨dst,op,b,pos,after,guard⟩:=o;cases op<;>simp only[yj]at d<;>simp only[CF,F5]
 case build t ps=>grind [IN]
 case buildSlice t n ps=>grind [IN]
 case makeFunc f first captured=>grind [K5]
 case makeMap t r=>grind [Py]
 case slice t x e g mx=>
  grind [Py]
 case call c=>
  grind [K5,Call.operands]
 all_goals (first|rfl|(simp_all;done))
def reads(ops:Array Oper)(o:Oper):List Tmp:=o.looksAt ops
theorem lY{C:Ctx}{fr fr':Fr}{x:Operand}(h:∀t,x=.tmp t->fr.get t=fr'.get t):ev C fr x=ev C fr' x:=by
 cases x with
 |tmp t=>simp only[ev,h t rfl]
 |_=>rfl
theorem mem_reads{ops:Array Oper}{o:Oper}{t:Tmp}(h:Operand.tmp t∈o.op.operands):t∈reads ops o:=
 List.mem_append_left _ (List.mem_filterMap.2 ⟨.tmp t,by grind,rfl⟩)
theorem Q6{fr fr':Fr}{ops:Array Oper}{o:Oper}(d:fr.n=fr'.n)(h:∀t∈reads ops o,fr.get t=fr'.get t):A3 fr ops o=A3 fr' ops o:=by
 unfold A3;cases e:o.guard with
 |none=>rfl
 |some c=>
  obtain⟨j,b⟩:=c;simp only;cases f:(ops[j]?).bind (·.dst)with
  |none=>rfl
  |some t=>
   simp only[d];rw[h t<|List.mem_append_right _ ah]
def Pq(l:List Tmp)(fr:Fr):Fr:=⟨fr.n,l.foldr (fun t m=>m.set t<|some<|fr.get t) .leaf⟩
def Oo(l:List Tmp)(a:Act):Act:={ a with tmps:=Array.ofFn (n:=a.tmps.size) fun t=>if l.contains t.1 then a.tmps.getD t undef else undef }
theorem Lj(l:List Tmp)(fr:Fr)(t:Tmp):(Pq l fr).get t=if t∈l then fr.get t else .tup []:=by
 unfold Pq Fr.get;induction l with
 |nil=>simp
 |cons x l b=>
  simp only[List.foldr_cons,PM.Cs,yn];grind
theorem Pg(l:List Tmp)(a:Act)(t:Tmp):(Oo l a).tmps.getD t undef=if t∈l then a.tmps.getD t undef else undef:=by
 unfold Oo;by_cases h:t<a.tmps.size
 ·simp[h]
 simp_all
section
variable {C:Ctx}{P:Program}{p:Pl}{h:H}{w:World}{fr:Fr}{a:Act}
structure uF(p:Pl)(fr:Fr)(a:Act)(l:List Tmp):Prop where
 n:fr.n=a.tmps.size
 get:∀t∈l,Ab p (fr.get t) (a.tmps.getD t undef)
theorem uF.Oj{l:List Tmp}(c:uF p fr a l):Cd p (Pq l fr) (Oo l a):=by
 refine⟨by simp[Pq,Oo,c.n],fun t=>?_⟩;rw[Lj,Pg];by_cases b:t∈l
 ·simp only[b,wm];exact c.get t b
 simp_all [Ab,undef]
theorem Ln{ops:Array Oper}{o:Oper}{x:Operand}(b:x∈o.op.operands):(Oo (reads ops o) a).eval x=a.eval x:=by
 cases x with
 |tmp t=>
  have:=Pg (reads ops o) a t;rw[wd<|mem_reads b]at this;exact this
 |_=>rfl
theorem QE{ops:Array Oper}{o:Oper}{x:Operand}(c:x∈o.op.operands):ev C (Pq (reads ops o) fr) x=ev C fr x:=by
 refine lY fun t b=>?_
 simp_all [Lj,mem_reads]
theorem IX(e:C.Ok P)(c:R p h w)(d:Gl C p){ops:Array Oper}{o:Oper}(f:uF p fr a (reads ops o))(g:∀cs b,o.op≠ .select cs b){r:OR}(i:FN C fr h o=some r):
  OW p h w r ((execOp a.eval o).run P w):=by
 have j:=YJ e c d f.Oj (o:=o) (r:=r) (by grind [XM,QE]);grind [execOp_congr,Ln]
theorem O8{ops:Array Oper}{o:Oper}(e:uF p fr a (reads ops o)):zy o (yielded ops a.tmps)=A3 fr ops o:=by
 have c:=PT e.Oj ops o;rw[Q6 (fr:=Pq (reads ops o) fr) (fr':=fr) (ops:=ops) (o:=o) rfl (by simp_all [Lj])]at c;rw[<-c];unfold zy;cases i:o.guard with
 |none=>rfl
 |some d=>
  obtain⟨j,b⟩:=d;simp only;unfold yielded;cases k:(ops[j]?).bind (·.dst)with
  |none=>rfl
  |some t=>
   have g:t∈reads ops o:=List.mem_append_right _ ah;by_cases f:t<a.tmps.size
   ·simp_all [Oo]
   simp_all [Oo]
end
def DZ(o:Oper):Bool:=
 match o.op with
 | .move _| .assign _| .pick .. | .build .. | .load .. | .nilCheck _| .binOp .. | .unOp .. | .convert .. | .makeInterface .. | .makeFunc .. | .slice .. | .fieldAddr .. | .field .. | .indexAddr .. | .index .. | .lookup .. | .extract .. =>true
 | .call { callee:=.builtin .len,.. }| .call { callee:=.builtin .max,.. }| .call { callee:=.builtin .min,.. }| .call { callee:=.builtin .unsafeSliceData,.. }=>true
 |_=>false
def OX(o:Oper):Bool:=
 match o.op with
 | .load .. | .convert .. | .lookup .. =>true
 | .call { callee:=.builtin .len,.. }=>true
 |_=>false
def Cr(o:Oper):Bool:=
 match o.op with
 | .alloc _| .box .. | .buildSlice .. =>true
 |_=>false
theorem Fv{h:H}{v:Option V}{r:OR}(b:Bs h v=some r):∃x,v=some x/\r=.val x h:=by
 cases v with
 |none=>cases b
 |some x=>cases b;simp
theorem rd_val{C:Ctx}{fr:Fr}{h:H}{o:Oper}(e:DZ o=true){r:OR}(d:FN C fr h o=some r):∃v,r=.val v h:=by
 obtain⟨dst,op,g,pos,after,guard⟩:=o;cases op<;>simp only[DZ]at e<;>simp only[CF,F5]at d<;>try (cases e;done)
 case call c=>
  obtain⟨callee,args,ts⟩:=c;cases callee with
  |builtin b=>
   cases i:Sl C fr args.toList with
   |none=>grind
   |some j=>
    simp only[i]at d;cases b<;>first|(cases e;done)|(obtain⟨x,_,rfl⟩:=Fv d;simp)
  |value f=>cases e
  |invoke=>cases e
 all_goals
  repeat' split at d
  all_goals first
   |(cases d;done)
   |(obtain⟨x,_,rfl⟩:=Fv d;exact⟨x,rfl⟩)
theorem fF{C:Ctx}{fr:Fr}{h:H}{o:Oper}(d:DZ o=true)(l:OX o=false){v:V}(g:FN C fr h o=some (.val v h))(h':H):FN C fr h' o=some (.val v h'):=by
 have key:∀ {x:Option V},Bs h x=some (.val v h)->Bs h' x=some (.val v h'):=by
  intro x j;obtain⟨y,rfl,e⟩:=Fv j;cases e;rfl
 obtain⟨dst,op,i,pos,after,guard⟩:=o;cases op<;>simp only[DZ]at d<;>simp only[OX]at l<;>simp only[CF,F5]at g ⊢<;>try (first|(done)|(done))
 case call c=>
  obtain⟨callee,args,ts⟩:=c;cases callee with
  |builtin b=>
   cases n:Sl C fr args.toList with
   |none=>grind
   |some k=>
    grind [EA]
  |value f=>cases d
  |invoke=>cases d
 all_goals
  repeat' split at g
  all_goals first
   |(done)
   |exact key g
   |grind
section
variable {C:Ctx}{P:Program}{p:Pl}{h:H}{w:World}{fr:Fr}{a:Act}
def T1(T:BP)(t:TypeId)(len:Nat)(b:List (Nat×V)):Option (List V×TypeId):=
 match T.und t with
 |some (.slice e)=>match T.inf e with
  |some i=>
   bif z7 (len*i.size) 16777216&&zh 0 (i.zero.length)&&zo i.zero.length i.size then
    (HX (fun k=>some (k*i.size,i.size)) (EL i.zero<|len*i.size) b).map fun cs=>(cs,e)
   else none
  |none=>none
 |_=>none
def fW(C:Ctx)(fr:Fr)(o:Oper):Option (O×(Nat->V)):=
 match o.op with
 | .alloc t=>match C.T.inf t with
  |some i=>some (.cells i.zero t (0,0),fun b=>.ptr b 0)
  |none=>none
 | .box t x=>match ev C fr x with
  |some v=>some (.cells v.cells t (0,0),fun b=>.ptr b 0)
  |none=>none
 | .buildSlice t n c=>match UM C fr c.toList with
  |some ps=>match T1 C.T t n ps with
   |some (cs,e)=>some (.cells cs e (0,0),fun b=>.sl b 0 n n 0)
   |none=>none
  |none=>none
 |_=>none
theorem qF(A:C.Ok P)(J:Gl C p){ops:Array Oper}{o:Oper}(E:uF p fr a (reads ops o)){ob:O}{f:Nat->V}(l:fW C fr o=some (ob,f)):
  ∃x n v',(execOp a.eval o).run P w=.ok (.value v') { w with heap:=w.heap.push x }/\I9 p n ob x/\∀(q:Pl) b,q[b]?=some (w.heap.size,n)->Ab q (f b) v':=by
 have K:=E.Oj;have d:∀(t:TypeId) (cs:List V) (c:Array Value),An p cs c.toList->I9 p c.size (.cells cs t (0,0)) (.cells c t):=by
  intro t cs c y;refine⟨c,(0,0),rfl,rfl,by have:=y.length;grind,?_,ae⟩;have:=y.length;rw[List.take_of_length_le ae];exact y.uU
 unfold fW at l;split at l
 case h_4=>cases l
 case h_1=>
  rename_i t D;split at l
  case h_2=>cases l
  rename_i i B;cases l;obtain⟨z,I,s⟩:=DO A.T B;refine⟨.cells z.cells t,_,.pointer<|some ⟨w.heap.size,0,none⟩,?_,d _ _ _<|s p,(by simp_all [Ab])⟩;simp_all [execOp,Instr.alloc,newVar,Cp]
 case h_2=>
  rename_i t x D;split at l
  case h_2=>cases l
  rename_i v Q;cases l;have y:Ab p v (a.eval x):=by
   have:=AY (C:=C) J K (x:=x) (v:=v) (by grind [QE,yj]);grind [Ln,yj]
  refine⟨.cells (a.eval x).cells t,_,.pointer<|some ⟨w.heap.size,0,none⟩,?_,d _ _ _ y.cells,(by simp_all [Ab])⟩;simp_all [execOp,Instr.box,newVar,Cp]
 case h_3=>
  rename_i t len r D;split at l
  case h_2=>cases l
  rename_i ps G;split at l
  case h_2=>cases l
  rename_i cs e j;cases l;have M:RW p ps (r.map fun(i,x)=>(i,a.eval x)).toList:=by
   grind [Mh,IN,QE,yj,Array.toList_map,List.map_congr_left,Ln]
  unfold T1 at j;split at j
  case h_2=>cases j
  rename_i N L;split at j
  case h_2=>cases j
  rename_i i B;cases g:(z7 (len*i.size) 16777216&&zh 0 (i.zero.length)&&zo i.zero.length i.size)with
  |false=>grind
  |true=>
   simp only[g,we,zi,ym]at j;obtain⟨cs',u,rfl,rfl⟩:=j;simp only[ze,yo,zt,Bj,w5]at g;obtain⟨⟨c1,c2⟩,c3⟩:=g;obtain⟨z,I,s⟩:=DO A.T B;obtain⟨oo,h1,h2⟩:=Kw (p:=p) (place:=fun k=>some (k*i.size,i.size)) M (IZ (s p) c2<|len*i.size) u;refine⟨.cells oo N,_,.slice (some ⟨w.heap.size,0,none⟩) len len,?_,d _ _ _ h2,(by simp_all [Ab])⟩;unfold execOp;simp only[D];unfold Instr.buildSlice;simp only[zf,Ax A.T L,zd,Bo A.T B];by_cases h0:len*i.size=0
   ·grind [zf,zp,zd,Cp]
   simp_all [Cp]
theorem Ext.Ze{l p:Pl}{k h:H}{i w:World}(j:Ext l k i p h w){r n:Nat}{o:O}{x:Obj}(Y:w.heap[r]?=some x)(ho:I9 p n o x)(hi:¬Im p h r)(U:i.heap.size<=r):
  Ext l k i (p++[(r,n)]) (h.push o) w:=by
 have E:=j.rel;have B:(p++[(r,n)])[h.nx]?=some (r,n):=by rw[<-E.len];simp
 have g:∀b,b<h.nx->(p++[(r,n)])[b]?=p[b]?:=ah;have d:∀c f,(h.push o).get c=some f->(c=h.nx/\f=o)\/(c<h.nx/\h.get c=some f):=by
  intro c f z;rw[H.Ci]at z;by_cases e:c=h.nx
  ·grind
  ·rw[wc e]at z;exact .inr ⟨E.lt z,z⟩
 refine⟨?_,⟨by simp[E.len],fun c f z=>?_,fun c K f I s m Z z L h1 R=>?_⟩,j.size,j.same,fun s M=>?_,j.os,j.out,j.tape,fun s M W=>?_,j.dr⟩
 ·obtain⟨q,rfl⟩:=j.pre;simp
 ·rcases d c f z with⟨rfl,rfl⟩|⟨D,G⟩
  ·exact⟨r,n,x,B,Y,ho.mono _⟩
  ·obtain⟨s,m,y,A,u,Q⟩:=E.obj c f G;exact⟨s,m,y,by grind,u,Q.mono _⟩
 ·rcases d c f z with⟨rfl,rfl⟩|⟨D,G⟩<;>rcases d K I L with⟨rfl,rfl⟩|⟨J,N⟩
  ·rfl
  ·grind [Im]
  ·grind [Im]
  ·rw[g c D]at h1;rw[g K J]at R;exact E.inj c K f I s m Z G N h1 R
 ·obtain⟨c,f,m,A,u⟩:=M;rcases d c f A with⟨rfl,rfl⟩|⟨D,G⟩
  ·grind
  ·rw[g c D]at u;exact j.im s ⟨c,f,m,G,u⟩
 ·obtain⟨D,h1⟩:=j.lock s M W;refine⟨D,?_⟩;rcases h1 with⟨c,m,cs,t,fz,A,u,Q⟩|h1
  ·have X:=E.lt A;exact .inl ⟨c,m,cs,t,fz,by rw[H.Ci,wc ae];exact A,by grind,Q⟩
  ·refine .inr ?_;rintro⟨c,f,m,A,u⟩;rcases d c f A with⟨rfl,rfl⟩|⟨J,N⟩
   ·grind
   ·rw[g c J]at u;exact h1 ⟨c,f,m,N,u⟩
theorem Ext.aside{e p:Pl}{d h:H}{f w:World}(c:Ext e d f p h w)(x:Obj):Ext e d f p h { w with heap:=w.heap.push x }:=by
 have i:=c.rel;refine⟨c.pre,⟨i.len,fun b o s=>?_,i.inj⟩,by have:=c.size;grind,fun r g q=>?_,c.im,c.os,c.out,c.tape,fun r g l=>?_,c.dr⟩
 ·obtain⟨r,n,y,j,k,t⟩:=i.obj b o s;grind
 ·have j:=c.same r g q;grind
 ·obtain⟨j,k⟩:=c.lock r g l;grind
end
def Dx(C:Ctx)(call:CJ)(fr:Fr)(h:H)(o:Oper):Option (V×H):=
 match FN C fr h o with
 |some (.val v h')=>some (v,h')
 |some (.skip h')=>some (.tup [],h')
 |some (.enter f args)=>match call (.fn f args) h with
  |some [x]=>some x
  |_=>none
 |_=>none
def Cx(o:Oper):Bool:= !DZ o&& !Cr o
structure Stat(ops:Array Oper)(anc:Nat->Nat->Bool)(ord pos:Nat->Nat)(sc:Nat->Option Nat):Prop where
 sel:Region.noSelect ops=true
 ordp:∀q,q<ops.size->ord q<ops.size/\pos (ord q)=q
 posp:∀i,i<ops.size->pos i<ops.size/\ord (pos i)=i
 edge:∀j i,anc j i=true->∃(o:Oper) (e:Edge),ops[j]?=some o/\e∈o.after/\yc .any e=true/\(e.on=i\/anc e.on i=true)
 dir:∀(j:Nat) (o:Oper) (e:Edge),ops[j]?=some o->e∈o.after->yc .any e=true->anc j e.on=true/\e.on<ops.size
 apos:∀j i,anc j i=true->pos i<pos j
 s1:∀(i j:Nat) (o o':Oper),ops[i]?=some o->ops[j]?=some o'->Cx o=true->Cx o'=true->i≠j->anc i j=true\/anc j i=true
 s2:∀(i j:Nat) (o o':Oper),ops[i]?=some o->ops[j]?=some o'->Cx o=true->DZ o'=true->anc j i=true\/pos j<pos i
 q1:∀(i k:Nat),sc i=some k->∃(o ok:Oper) (t:Tmp),ops[i]?=some o/\ops[k]?=some ok/\(o.op=.assign (.tmp t)\/o.op=.move (.tmp t))/\o.guard=none/\Cr ok=true/\ok.dst=some t/\anc i k=true
 s3:∀(j k:Nat) (o o':Oper) (t:Tmp),ops[j]?=some o->ops[k]?=some o'->(Cr o=true\/(sc j).isSome=true)->Cx o'=false->o.dst=some t->t∈reads ops o'->anc k j=true->
  sc k=some j\/∃(i:Nat) (oi:Oper),ops[i]?=some oi/\Cx oi=true/\anc i j=true/\anc k i=true
 s4:∀(i j:Nat) (o o':Oper),ops[i]?=some o->ops[j]?=some o'->Cx o=true->Cr o'=true->anc i j=true\/pos i<pos j
 s5:∀(i j:Nat) (o o':Oper),ops[i]?=some o->ops[j]?=some o'->DZ o=true->OX o=true->Cr o'=true->pos j<pos i->∃(k:Nat) (ok:Oper),ops[k]?=some ok/\Cx ok=true/\pos j<pos k/\pos k<pos i
 s6:∀(i j:Nat) (o o':Oper) (t:Tmp),ops[i]?=some o->ops[j]?=some o'->i≠j->o.dst=some t->o'.dst≠some t/\(t∈reads ops o'->anc j i=true\/anc i j=true)
structure Canon(C:Ctx)(call:CJ)(ops:Array Oper)(anc:Nat->Nat->Bool)(ord pos:Nat->Nat)(fr0:Fr)(h0:H)(v:Nat->V)(Hh:Nat->H)(F:Nat->Fr):Prop where
 h0:Hh 0=h0
 f0:F 0=fr0
 fn:∀q,q<=ops.size->(F q).n=fr0.n
 fget:∀q,q<ops.size->∀(o:Oper),ops[ord q]?=some o->∀t,(F (q+1)).get t=if o.dst=some t then v (ord q)else(F q).get t
 dst:∀(i:Nat) (o:Oper) (t:Tmp),ops[i]?=some o->o.dst=some t->t<fr0.n
 step:∀(i:Nat) (o:Oper),ops[i]?=some o->
  (A3 (F (pos i)) ops o=false/\v i=.tup []/\Hh (pos i+1)=Hh (pos i))\/
  (A3 (F (pos i)) ops o=true/\
   ((DZ o=true/\FN C (F (pos i)) (Hh (pos i)) o=some (.val (v i) (Hh (pos i)))/\Hh (pos i+1)=Hh (pos i))\/
    (Cr o=true/\∃ob f,fW C (F (pos i)) o=some (ob,f)/\v i=f (Hh (pos i)).nx/\Hh (pos i+1)=(Hh (pos i)).push ob)\/
    (Cx o=true/\Dx C call (F (pos i)) (Hh (pos i)) o=some (v i,Hh (pos i+1)))))
 stable:∀(i j:Nat) (o oj:Oper),ops[i]?=some o->ops[j]?=some oj->Cx o=true->DZ oj=true->OX oj=true->A3 (F (pos j)) ops oj=true->pos j<pos i->anc i j=false->
  FN C (F (pos j)) (Hh (pos i+1)) oj=some (.val (v j) (Hh (pos i+1)))
theorem kinds(o:Oper):DZ o=true\/Cr o=true\/Cx o=true:=by
 grind [Cx]
theorem Iv{o:Oper}(h:DZ o=true):Cr o=false:=by
 grind [DZ,Cr]
theorem Ry{o:Oper}(h:Cx o=true):DZ o=false/\Cr o=false:=by
 grind [Cx]
section
variable {C:Ctx}{P:Program}{call:CJ}{ops:Array Oper}{anc:Nat->Nat->Bool}{ord pos:Nat->Nat}{sc:Nat->Option Nat}{fr0:Fr}{h0:H}{v:Nat->V}{Hh:Nat->H}{F:Nat->Fr}
theorem Fw(st:Stat ops anc ord pos sc)(i:Canon C call ops anc ord pos fr0 h0 v Hh F){k:Nat}{o:Oper}{t:Tmp}(c:ops[k]?=some o)(g:o.dst=some t):
  ∀q,q<=ops.size->pos k<q->(F q).get t=v k
 |0,_,h=>by omega
 |q+1,r,h=>by
  have b:q<ops.size:=ae
  obtain⟨j,l⟩:=st.ordp q b;rw[i.fget q b (ops[ord q]) (by simp[j]) t];have d:=(zc.1 c).1;by_cases e:pos k=q
  ·have n:ord q=k:=by rw[<-e];exact(st.posp k d).2
   grind
  ·have f:ord q≠k:=ah;have:=(st.s6 k (ord q) o (ops[ord q]) t c (by simp[j]) (Ne.symm f) g).1;rw[wc this];exact Fw st i c g q ae ae
theorem Fz(st:Stat ops anc ord pos sc)(c:Canon C call ops anc ord pos fr0 h0 v Hh F){t:Tmp}:
  ∀q,q<=ops.size->(∀k o,ops[k]?=some o->o.dst=some t->¬pos k<q)->(F q).get t=fr0.get t
 |0,_,_=>by rw[c.f0]
 |q+1,f,h=>by
  have b:q<ops.size:=ae
  obtain⟨d,e⟩:=st.ordp q b;rw[c.fget q b (ops[ord q]) (by simp[d]) t,wc]
  ·exact Fz st c q ae ah
  grind
theorem tD(st:Stat ops anc ord pos sc)(c:Canon C call ops anc ord pos fr0 h0 v Hh F){i k:Nat}(h:sc i=some k):v i=v k:=by
 obtain⟨o,ok,t,d,j,n,l,q,f,g⟩:=st.q1 i k h;have b:=(zc.1 d).1;have s:=Fw st c j f (pos i) (Nat.le_of_lt (st.posp i b).1)<|st.apos i k g;have r:A3 (F<|pos i) ops o=true:=by unfold A3;rw[l]
 have e:DZ o=true:=by grind [DZ]
 rcases c.step i o d with⟨u,_⟩|⟨_,⟨_,u,_⟩|⟨u,_⟩|⟨u,_⟩⟩
 ·grind
 ·grind [CF,F5,ev,Bs]
 ·grind [Iv]
 grind [Ry]
structure Inv(C:Ctx)(ops:Array Oper)(pos:Nat->Nat)(sc:Nat->Option Nat)(fr0:Fr)(v:Nat->V)(Hh:Nat->H)(F:Nat->Fr)(p0:Pl)(h0:H)(w0:World)(df:List Deferred)
  (S:Nat->Prop) (m:Nat) (fl:Nat->Nat) (p:Pl) (a:Act) (w:World):Prop where
 ext:Ext p0 h0 w0 p (Hh m) w
 gl:Gl C p
 mn:m<=ops.size
 mh:∀(k:Nat) (o:Oper),ops[k]?=some o->Cx o=true->(S k↔pos k<m)
 ma:∀(k:Nat) (o:Oper),ops[k]?=some o->Cr o=true->pos k<m->S k
 sz:a.tmps.size=fr0.n
 df:a.defers=df
 slot:∀t,(∀(i:Nat) (o:Oper),S i->ops[i]?=some o->o.dst≠some t)->Ab p (fr0.get t) (a.tmps.getD t undef)
 slotw:∀(i:Nat) (o:Oper) (t:Tmp),S i->ops[i]?=some o->o.dst=some t->((Cr o=true\/(sc i).isSome=true)->A3 (F (pos i)) ops o=true->pos i<m)->Ab p (v i) (a.tmps.getD t undef)
 flt:∀(i:Nat) (o:Oper),S i->ops[i]?=some o->Cr o=true->A3 (F (pos i)) ops o=true->m<=pos i->
  ∃n x ob f v',fW C (F (pos i)) o=some (ob,f)/\w.heap[fl i]?=some x/\w0.heap.size<=fl i/\¬Im p (Hh m) (fl i)/\I9 p n ob x/\
   (∀(q:Pl) b,q[b]?=some (fl i,n)->Ab q (f b) v')/\(∀t,o.dst=some t->a.tmps.getD t undef=v')
 inj:∀(i j:Nat) (o o':Oper),S i->S j->ops[i]?=some o->ops[j]?=some o'->Cr o=true->Cr o'=true->A3 (F (pos i)) ops o=true->A3 (F (pos j)) ops o'=true->
  m<=pos i->m<=pos j->fl i=fl j->i=j
structure KZ(ops:Array Oper)(pos:Nat->Nat)(sc:Nat->Option Nat)(S:Nat->Prop)(m:Nat)(a:Act):Prop where
 eq:∀(i k:Nat) (o ok:Oper) (t tk:Tmp),S i->ops[i]?=some o->sc i=some k->ops[k]?=some ok->o.dst=some t->ok.dst=some tk->m<=pos i->a.tmps.getD t undef=a.tmps.getD tk undef/\S k
theorem Inv.adv(st:Stat ops anc ord pos sc)(cn:Canon C call ops anc ord pos fr0 h0 v Hh F){p0:Pl}{w0:World}{df:List Deferred}{S:Nat->Prop}{fl:Nat->Nat}{a:Act}{w:World}:
  ∀(d m:Nat) {p:Pl},Inv C ops pos sc fr0 v Hh F p0 h0 w0 df S m fl p a w->KZ ops pos sc S m a->m+d<=ops.size->
  (∀q,m<=q->q<m+d->∀(o:Oper),ops[ord q]?=some o->Cx o=false/\(Cr o=true->S (ord q)))->
  ∃p',Inv C ops pos sc fr0 v Hh F p0 h0 w0 df S (m+d) fl p' a w
 |0,m,p,g,_,_,_=>⟨p,g⟩
 |d+1,m,p,g,Q,hn,hq=>by
  have hm:m<ops.size:=ae
  obtain⟨g1,Y⟩:=st.ordp m hm;obtain⟨R,hj⟩:∃R,ops[ord m]?=some R:=(by simp_all);obtain⟨q1,q2⟩:=hq m ae ae _ hj;have one:∃p',Inv C ops pos sc fr0 v Hh F p0 h0 w0 df S (m+1) fl p' a w:=by
   have L:∀(k:Nat) (o:Oper),ops[k]?=some o->Cx o=true->(S k↔pos k<m+1):=by
    intro k o u hv;rw[g.mh k o u hv];constructor
    ·omega
    ·intro h;by_cases e:pos k=m
     ·have A:=(zc.1 u).1;have I:ord m=k:=by rw[<-e];exact(st.posp k A).2
      grind
     ·omega
   have N:∀(k:Nat) (o:Oper),ops[k]?=some o->Cr o=true->pos k<m+1->S k:=by
    intro k o u M hlt;by_cases e:pos k=m
    ·have A:=(zc.1 u).1;have I:ord m=k:=by rw[<-e];exact(st.posp k A).2
     grind
    ·exact g.ma k o u M ae
   have same:Hh (m+1)=Hh m->(Cr R=true->A3 (F<|pos<|ord m) ops R=false)->(A3 (F<|pos<|ord m) ops R=false->v (ord m)=.tup [])->
     Inv C ops pos sc fr0 v Hh F p0 h0 w0 df S (m+1) fl p a w:=by
    intro hh M _;refine⟨by rw[hh];exact g.ext,g.gl,by omega,L,N,g.sz,g.df,g.slot,fun i o t l c J hc=>?_,fun i o l c r s G=>?_,fun i j o o' l y c E r D s B G O he=>?_⟩
    ·by_cases hcp:(sc i).isSome=true/\pos i=m
     ·obtain⟨k,u⟩:=yf.1 hcp.1;obtain⟨o2,ok,tk,h1,h2,h3,h4,h5,h6,h7⟩:=st.q1 i k u;obtain⟨e1,I⟩:=Q.eq i k o ok t tk l c u h2 J h6 ae;rw[tD st cn u,e1];have:=st.apos _ _ h7;exact g.slotw k ok tk I h2 h6 ae
     ·refine g.slotw i o t l c J fun r s=>?_
      have h1:=hc r s;by_cases e:pos i=m
      ·have z:=(zc.1 c).1;have I:ord m=i:=by rw[<-e];exact(st.posp i z).2
       grind
      ·omega
    ·obtain⟨n,x,ob,f,v',U,k2,k3,k4,k5⟩:=g.flt i o l c r s ae;exact⟨n,x,ob,f,v',U,k2,k3,by grind,k5⟩
    ·exact g.inj i j o o' l y c E r D s B ae ae he
   rcases cn.step (ord m) _ hj with⟨u1,u2,X⟩|⟨u1,⟨u2,X,u4⟩|⟨u2,ob,f,X,u4,Z⟩|⟨u2,X⟩⟩
   ·grind
   ·grind [Iv]
   ·
    obtain⟨n,x,K,f',v',U,k2,k3,k4,k5,k6,k7⟩:=g.flt (ord m) _ (q2 u2) hj u2 u1 ae;rw[X]at U;cases U;rw[Y]at u4 Z;have hx:=g.ext.Ze k2 k5 k4 k3;rw[<-Z]at hx;have hnew:(p++[(fl<|ord m,n)])[(Hh m).nx]?=some (fl<|ord m,n):=by rw[<-g.ext.rel.len];simp
    refine⟨p++[(fl<|ord m,n)],hx,?_,by omega,L,N,g.sz,g.df,fun t J=>(g.slot t J).mono _,fun i o t l c J hc=>?_,fun i o l c r s G=>?_,fun i j o o' l y c E r D s B G O he=>?_⟩
    ·exact Gp.app g.gl _
    ·by_cases e:i=ord m
     ·grind
     ·refine(g.slotw i o t l c J fun r s=>?_).mono _;have h1:=hc r s;have z:=(zc.1 c).1;have:pos i≠m:=fun I=>e (by rw[<-I];exact(st.posp i z).2.symm)
      omega
    ·obtain⟨n',x',K,f',v'',l1,l2,l3,l4,l5,l6,l7⟩:=g.flt i o l c r s ae;refine⟨n',x',K,f',v'',l1,l2,l3,?_,l5.mono _,l6,l7⟩;rintro⟨b,ob2,n2,W,m2⟩;rw[Z,H.Ci]at W;by_cases e:b=(Hh m).nx
     ·have:fl (ord m)=fl i:=ah;have:=g.inj (ord m) i _ o (q2 u2) l hj c u2 r u1 s ae ae this;grind
     ·rw[wc e]at W;have hb:=g.ext.rel.lt W;rw[List.getElem?_append_left ah]at m2;exact l4 ⟨b,ob2,n2,W,m2⟩
    ·exact g.inj i j o o' l y c E r D s B ae ae he
   grind
  obtain⟨p',c⟩:=one;obtain⟨p'',hi''⟩:=Inv.adv st cn d (m+1) c ⟨fun i k o ok t tk g1 Y g3 g4 g5 g6 g7=>Q.eq i k o ok t tk g1 Y g3 g4 g5 g6 ae⟩ ae ah;grind
end
section
variable {C:Ctx}{P:Program}{call:CJ}{ops:Array Oper}{anc:Nat->Nat->Bool}{ord pos:Nat->Nat}{sc:Nat->Option Nat}{fr0:Fr}{h0:H}{v:Nat->V}{Hh:Nat->H}{F:Nat->Fr}
 {p0:Pl} {w0:World} {df:List Deferred} {S:Nat->Prop} {m:Nat} {fl:Nat->Nat} {p:Pl} {a:Act} {w:World}
structure Pv(anc:Nat->Nat->Bool)(S:Nat->Prop)(i:Nat):Prop where
 fresh:¬S i
 all:∀k,anc i k=true->S k
def Down(anc:Nat->Nat->Bool)(S:Nat->Prop):Prop:=∀i k,S i->anc i k=true->S k
theorem operands(st:Stat ops anc ord pos sc)(q:Canon C call ops anc ord pos fr0 h0 v Hh F)(n:Inv C ops pos sc fr0 v Hh F p0 h0 w0 df S m fl p a w)(B:Down anc S){i:Nat}{o:Oper}(x:ops[i]?=some o)(s:Pv anc S i)
  (E:∀(k:Nat) (ok:Oper) (t:Tmp),ops[k]?=some ok->(Cr ok=true\/(sc k).isSome=true)->ok.dst=some t->t∈reads ops o->anc i k=true->pos k<m):uF p (F<|pos i) a (reads ops o):=by
 have r:=(zc.1 x).1;have G:=(st.posp i r).1;refine⟨by rw[q.fn _ ae,n.sz],fun t z=>?_⟩;by_cases A:∃(k:Nat) (ok:Oper),k≠i/\ops[k]?=some ok/\ok.dst=some t
 ·obtain⟨k,ok,u,l,c⟩:=A;rcases(st.s6 k i ok o t l x u c).2 z with h1|h1
  ·have g:=s.all k h1;rw[Fw st q l c (pos i) ae<|st.apos i k h1];exact n.slotw k ok t g l c ah
  ·have g:¬S k:=fun h=>s.fresh<|B k i h h1
   have d:∀(j:Nat) (oj:Oper),ops[j]?=some oj->oj.dst=some t->j=k:=by
    intro j oj f b;by_cases e:j=k
    ·exact e
    ·exact wh b (st.s6 k j ok oj t l f ae c).1
   rw[Fz st q (pos i) ae fun j oj f b D=>by
    have:=d j oj f b;subst this;have:=st.apos _ _ h1;omega]
   refine n.slot t fun j oj y f b=>?_
   grind
 ·have d:∀(j:Nat) (oj:Oper),ops[j]?=some oj->oj.dst=some t->j=i:=by
   grind
  rw[Fz st q (pos i) ae ah];refine n.slot t fun j oj y f b=>?_
  have:=d j oj f b;subst this;exact s.fresh y
def Rest(ops:Array Oper)(pos:Nat->Nat)(S:Nat->Prop)(m:Nat):Prop:=m=0\/∃(k:Nat) (o:Oper),ops[k]?=some o/\Cx o=true/\S k/\m=pos k+1
theorem Nw(st:Stat ops anc ord pos sc)(t:Down anc S)(u:Inv C ops pos sc fr0 v Hh F p0 h0 w0 df S m fl p a w)(b:Rest ops pos S m){k:Nat}{o:Oper}(l:ops[k]?=some o)(s:¬S k):
  m<=pos k\/∃(i:Nat) (oi:Oper),ops[i]?=some oi/\Cx oi=true/\S i/\m=pos i+1/\pos k<pos i/\anc i k=false:=by
 by_cases n:m<=pos k
 ·omega
 ·right;rcases b with rfl|⟨i,oi,g,j,r,q⟩
  ·omega
  ·refine⟨i,oi,g,j,r,q,?_,?_⟩
   ·have f:k≠i:=ah;have d:=(zc.1 l).1;have c:=(zc.1 g).1;have:pos k≠pos i:=fun e=>f (by rw[<-(st.posp k d).2,e,(st.posp i c).2])
    omega
   grind [Down]
theorem N8(st:Stat ops anc ord pos sc)(n:Inv C ops pos sc fr0 v Hh F p0 h0 w0 df S m fl p a w){i:Nat}{o:Oper}(j:ops[i]?=some o)(g:Pv anc S i)(l:Cr o=false){k:Nat}{ok:Oper}(e:ops[k]?=some ok)
  (f:Cx ok=true) (r:m<=pos k) (q:pos k<pos i):False:=by
 have c:¬S k:=fun h=>by have:=(n.mh k ok e f).1 h;omega
 have d:k≠i:=ah;rcases kinds o with h|h|h
 ·rcases st.s2 k i ok o e j f h with b|b
  ·exact c<|g.all k b
  ·omega
 ·grind
 ·rcases st.s1 k i ok o e j f h d with b|b
  ·have:=st.apos _ _ b;omega
  ·exact c<|g.all k b
theorem UY(st:Stat ops anc ord pos sc)(s:Canon C call ops anc ord pos fr0 h0 v Hh F)(D:Down anc S)(E:Inv C ops pos sc fr0 v Hh F p0 h0 w0 df S m fl p a w)(b:Rest ops pos S m){i:Nat}{o:Oper}(f:ops[i]?=some o)
  (B:Pv anc S i) (g:DZ o=true) (l:A3 (F<|pos i) ops o=true) (n:FN C (F<|pos i) (Hh<|pos i) o=some (.val (v i)<|Hh<|pos i)):FN C (F<|pos i) (Hh m) o=some (.val (v i)<|Hh m):=by
 have q:=Iv g;cases c:OX o with
 |false=>grind [fF]
 |true=>
  rcases Nw st D E b f B.fresh with x|⟨k,ok,I,z,N,G,A,t⟩
  ·have j:=(zc.1 f).1;have y:=(st.posp i j).1;have key:∀d,m+d<=pos i->Hh (m+d)=Hh m:=by
    intro d;induction d with
    |zero=>simp
    |succ d O=>
     intro r;obtain⟨Q,J⟩:=st.ordp (m+d) ae;obtain⟨e,hq⟩:∃e,ops[ord<|m+d]?=some e:=ah;rcases s.step _ e hq with⟨_,_,u⟩|⟨_,⟨_,_,u⟩|⟨u1,_⟩|⟨u1,_⟩⟩
     ·grind
     ·grind
     ·obtain⟨k,ok,M,L,R,K⟩:=st.s5 i _ o e f hq g c u1 ae;grind [N8]
     grind [N8]
   have:=key (pos i-m) ae;grind
  ·rw[G];exact s.stable k i ok o I f z g c l A t
theorem C4{a:Act}{d:Option Tmp}{x:Value}{t:Tmp}(h:d≠some t):(a.put d x).tmps.getD t undef=a.tmps.getD t undef:=by
 cases d with
 |none=>rfl
 |some s=>
  simp_all [yp]
theorem ES{a:Act}{x:Value}{t:Tmp}(h:t<a.tmps.size):(a.put (some t) x).tmps.getD t undef=x:=by
 simp[yp,h]
theorem Ny{a:Act}{d:Option Tmp}{x:Value}:(a.put d x).tmps.size=a.tmps.size:=by cases d<;>simp[yp]
theorem Nq{a:Act}{d:Option Tmp}{x:Value}:(a.put d x).defers=a.defers:=by cases d<;>rfl
theorem KZ.put(st:Stat ops anc ord pos sc){S:Nat->Prop}{m r:Nat}{a:Act}(z:KZ ops pos sc S m a){i:Nat}{o:Oper}(g:ops[i]?=some o)(d:¬S i)(D:Pv anc S i){x:Value}(Q:m<=r)
  (E:∀(k:Nat) (ok:Oper) (t tk:Tmp),sc i=some k->ops[k]?=some ok->o.dst=some t->ok.dst=some tk->r<=pos i->(a.put o.dst x).tmps.getD t undef=a.tmps.getD tk undef):
  KZ ops pos sc (fun k=>S k\/k=i) r (a.put o.dst x):=by
 refine⟨fun j k oj ok t tk B b s f n c y=>?_⟩;obtain⟨o1,R,t2,q1,M,N,O,U,J,A⟩:=st.q1 j k s;by_cases e:j=i
 ·subst e;rw[g]at b;cases b;have u:S k:=D.all k A;refine⟨?_,.inl u⟩;rw[E k ok t tk s f n c y];have q:k≠j:=ah;have:o.dst≠some tk:=(st.s6 k j ok o tk f g q c).1;rw[C4 this]
 ·have G:=B.resolve_right e;obtain⟨K,I⟩:=z.eq j k oj ok t tk G b s f n c ae;have l:k≠i:=ah;have L:o.dst≠some t:=(st.s6 j i oj o t b g e n).1;have W:o.dst≠some tk:=(st.s6 k i ok o tk f g l c).1;grind [C4]
theorem Inv.quiet(st:Stat ops anc ord pos sc)(X:Canon C call ops anc ord pos fr0 h0 v Hh F)(c:Inv C ops pos sc fr0 v Hh F p0 h0 w0 df S m fl p a w){i:Nat}{o:Oper}(E:ops[i]?=some o)(q:¬S i)(I:Cx o=false)
  (Q:Cr o=true->A3 (F<|pos i) ops o=false) {x:Value} (hx:((sc i).isSome=true->A3 (F<|pos i) ops o=true->pos i<m)->Ab p (v i) x):Inv C ops pos sc fr0 v Hh F p0 h0 w0 df (fun k=>S k\/k=i) m fl p (a.put o.dst x) w:=by
 have G:∀(k:Nat) (ok:Oper) (t:Tmp),k≠i->ops[k]?=some ok->ok.dst=some t->o.dst≠some t:=fun k ok t r b g=>(st.s6 k i ok o t b E r g).1
 refine⟨c.ext,c.gl,c.mn,fun k ok b L=>?_,fun k ok b A D=>.inl<|c.ma k ok b A D,by rw[Ny,c.sz],by rw[Nq,c.df],fun t g=>?_,fun k ok t J b g W=>?_,fun k ok J b z B d=>?_,
  fun k j ok oj J U b hj z u B s d l he=>?_⟩
 ·rw[<-c.mh k ok b L];grind
 ·have N:o.dst≠some t:=ah;rw[C4 N];exact c.slot t ah
 ·by_cases e:k=i
  ·subst e;rw[E]at b;cases b;rw[g,ES<|by rw[c.sz];exact X.dst k o t E g];grind
  ·rw[C4 ah];exact c.slotw k ok t ah b g W
 ·obtain⟨n,y,ob,f,v',R,O,Z,M,K,Y,k7⟩:=c.flt k ok ah b z B d;exact⟨n,y,ob,f,v',R,O,Z,M,K,Y,(by grind [C4])⟩
 ·exact c.inj k j ok oj ah ah b hj z u B s d l he
theorem Inv.made(st:Stat ops anc ord pos sc)(c:Inv C ops pos sc fr0 v Hh F p0 h0 w0 df S m fl p a w){i:Nat}{o:Oper}(L:ops[i]?=some o)(s:Cr o=true)(hwd:A3 (F<|pos i) ops o=true)(g:m<=pos i)
  (cn:Canon C call ops anc ord pos fr0 h0 v Hh F) {ob:O} {f:Nat->V} (A:fW C (F<|pos i) o=some (ob,f)) {x:Obj} {n:Nat} {v':Value} (Y:I9 p n ob x) (M:∀(q:Pl) b,q[b]?=some (w.heap.size,n)->Ab q (f b) v'):
  Inv C ops pos sc fr0 v Hh F p0 h0 w0 df (fun k=>S k\/k=i) m (fun k=>if k=i then w.heap.size else fl k) p (a.put o.dst v') { w with heap:=w.heap.push x }:=by
 have Q:∀(k:Nat) (ok:Oper) (t:Tmp),k≠i->ops[k]?=some ok->ok.dst=some t->o.dst≠some t:=fun k ok t G d r=>(st.s6 k i ok o t d L G r).1
 have R:Cx o=false:=by simp[Cx,s]
 refine⟨c.ext.aside x,c.gl,c.mn,fun k ok d M=>?_,fun k ok d s K=>.inl<|c.ma k ok d s K,by rw[Ny,c.sz],by rw[Nq,c.df],fun t r=>?_,fun k ok t U d r hc=>?_,fun k ok U d B D g=>?_,
  fun k j ok oj U hS' d X B z D u g l W=>?_⟩
 ·rw[<-c.mh k ok d M];grind
 ·have h1:o.dst≠some t:=ah;rw[C4 h1];exact c.slot t ah
 ·by_cases e:k=i
  ·grind
  ·rw[C4 ah];exact c.slotw k ok t ah d r hc
 ·by_cases e:k=i
  ·subst e;rw[L]at d;cases d;refine⟨n,x,ob,f,v',A,by simp,by simpa using c.ext.size,fun J=>?_,Y,by grind,fun t r=>?_⟩
   ·have:=c.ext.rel.V3 J;grind
   ·rw[r,ES<|by rw[c.sz];exact cn.dst k o t L r]
  ·obtain⟨n',y,E,f',I,k1,N,k3,k4,Z,k6,k7⟩:=c.flt k ok ah d B D g;refine⟨n',y,E,f',I,k1,?_,by grind,by grind,Z,by grind,(by grind [C4])⟩;grind
 ·by_cases e:k=i<;>by_cases e':j=i
  ·omega
  ·obtain⟨_,_,_,_,_,_,N,_⟩:=c.flt j oj ah X z u l;grind
  ·obtain⟨_,_,_,_,_,_,N,_⟩:=c.flt k ok ah d B D g;grind
  ·simp only[e,vf,e']at W;exact c.inj k j ok oj ah ah d X B z D u g l W
theorem Inv.wrote(st:Stat ops anc ord pos sc)(cn:Canon C call ops anc ord pos fr0 h0 v Hh F){i:Nat}{o:Oper}(c:Inv C ops pos sc fr0 v Hh F p0 h0 w0 df S (pos i) fl p a w)(u:ops[i]?=some o)(_:Cx o=true)(s:¬S i)
  {p':Pl} {w':World} {x:Value} (d:Ext p (Hh<|pos i) w p' (Hh<|pos i+1) w') (W:Ab p' (v i) x):
  Inv C ops pos sc fr0 v Hh F p0 h0 w0 df (fun k=>S k\/k=i) (pos i+1) fl p' (a.put o.dst x) w':=by
 have O:∀(k:Nat) (ok:Oper) (t:Tmp),k≠i->ops[k]?=some ok->ok.dst=some t->o.dst≠some t:=fun k ok t A b g=>(st.s6 k i ok o t b u A g).1
 have l:=(zc.1 u).1;have Y:∀ {k:Nat} {ok:Oper},ops[k]?=some ok->pos k=pos i->k=i:=fun {k ok} b e=>by
  have B:=(zc.1 b).1;rw[<-(st.posp k B).2,e,(st.posp i l).2]
 refine⟨c.ext.trans d,c.gl.ext d,(st.posp i l).1,fun k ok b M=>?_,fun k ok b J r=>?_,by rw[Ny,c.sz],by rw[Nq,c.df],fun t g=>?_,fun k ok t R b g hc=>?_,fun k ok R b I K z=>?_,
  fun k j ok oj R hS' b hj I E K D z Q L=>?_⟩
 ·constructor
  ·rintro(h|rfl)
   ·have:=(c.mh k ok b M).1 h;omega
   ·omega
  ·intro h;by_cases e:pos k=pos i
   ·grind
   ·exact .inl ((c.mh k ok b M).2 ae)
 ·by_cases e:pos k=pos i
  ·grind
  ·exact .inl (c.ma k ok b J ae)
 ·have U:o.dst≠some t:=ah;rw[C4 U];exact d.cH (c.slot t ah)
 ·by_cases e:k=i
  ·subst e;rw[u]at b;cases b;rw[g,ES<|by rw[c.sz];exact cn.dst k o t u g];exact W
  ·rw[C4 ah];refine d.cH (c.slotw k ok t ah b g fun U h2=>?_);grind
 ·obtain⟨n,y,ob,f,v',k1,N,k3,Z,X,k6,k7⟩:=c.flt k ok ah b I K ae;have r:=(zc.1 N).1;obtain⟨q,rfl⟩:=d.pre;refine⟨n,y,ob,f,v',k1,by rw[d.same _ r Z];exact N,k3,fun G=>?_,X.mono _,k6,(by grind [C4])⟩;rcases d.im _ G with h|h
  ·grind
  ·omega
 ·exact c.inj k j ok oj ah ah b hj I E K D ae ae L
theorem Inv.along(b:Inv C ops pos sc fr0 v Hh F p0 h0 w0 df S m fl p a w){p':Pl}{w':World}(c:Ext p (Hh m) w p' (Hh m) w'):Inv C ops pos sc fr0 v Hh F p0 h0 w0 df S m fl p' a w':=by
 refine⟨b.ext.trans c,b.gl.ext c,b.mn,b.mh,b.ma,b.sz,b.df,fun t r=>c.cH<|b.slot t r,fun i o t L l I E=>c.cH<|b.slotw i o t L l I E,fun k ok K s x A e=>?_,b.inj⟩;obtain⟨n,y,ob,f,v',G,j,J,B,u,D,z⟩:=b.flt k ok K s x A e;have g:=(zc.1 j).1;obtain⟨q,rfl⟩:=c.pre;refine⟨n,y,ob,f,v',G,by rw[c.same _ g B];exact j,J,fun d=>?_,u.mono _,D,z⟩;rcases c.im _ d with h|h
 ·grind
 ·omega
theorem bR{o:Oper}(h:Cr o=true):∀c,o.op≠ .defer c:=by
 grind [Cr]
theorem up(hC:C.Ok P)(W:call.Ok C P)(st:Stat ops anc ord pos sc)(D:Canon C call ops anc ord pos fr0 h0 v Hh F)(E:Inv C ops pos sc fr0 v Hh F p0 h0 w0 df S m fl p a w)(N:KZ ops pos sc S m a)(hd:Down anc S)(J:Rest ops pos S m)
  {i:Nat} {o:Oper} (d:ops[i]?=some o) (y:Pv anc S i) {Q:Exit->Act->World->Prop} {K:Act->World->Prop}
  (U:∀m' fl' p' a' w',Inv C ops pos sc fr0 v Hh F p0 h0 w0 df (fun k=>S k\/k=i) m' fl' p' a' w'->KZ ops pos sc (fun k=>S k\/k=i) m' a'->Rest ops pos (fun k=>S k\/k=i) m'->K a' w') {ro:Option Nat} {nn:Nat}:wpOpIn (FW ro) nn P ops Q i K a w:=by
 have hin:=(zc.1 d).1;have I:∀cs b,o.op≠ .select cs b:=fun cs b=>Region.noSelect_spec st.sel i o cs b d
 have g:Rest ops pos (fun k=>S k\/k=i) m:=by
  grind [Rest]
 unfold wpOpIn;simp only[d];cases r:Cx o with
 |false=>
  by_cases hcp:(sc i).isSome=true/\m<=pos i
  ·
   obtain⟨k,hk⟩:=yf.1 hcp.1;obtain⟨o2,ok,t,q1,q2,q3,q4,q5,q6,q7⟩:=st.q1 i k hk;rw[d]at q1;cases q1;have hw:zy o (yielded ops a.tmps)=true:=by grind [zy]
   simp only[hw,wm];refine⟨fun _ _=>trivial,?_⟩;have Z:(execOp a.eval o).run P w=.ok (.value<|a.tmps.getD t undef) w:=by
    unfold execOp;rcases q3 with q3|q3<;>simp[q3,Act.eval]
   rw[zl _ _ _ ah,Z,zr];have hnal:Cr o=false:=by grind [Cr]
   refine U m fl p _ w (E.quiet st D d y.fresh r ah<|by grind [A3]) (N.put st d y.fresh y ae fun k' ok' t' tk h1 h2 Y h4 _=>?_) g;rw[hk]at h1;cases h1;rw[q2]at h2;cases h2;rw[q6]at h4;cases h4;rw[Y,ES<|by rw[E.sz];exact D.dst i o t' d Y]
  have hcp':∀k,sc i=some k->pos i<m:=ah;have hfl:∀(k:Nat) (ok:Oper) (t:Tmp),ops[k]?=some ok->(Cr ok=true\/(sc k).isSome=true)->ok.dst=some t->t∈reads ops o->anc i k=true->pos k<m:=by
   intro k ok t hk M hkt ht G;rcases st.s3 k i ok o t hk d M r hkt ht G with h|⟨j,oj,j1,j2,j3,j4⟩
   ·have:=hcp' k h;have:=st.apos _ _ G;omega
   ·have:=(E.mh j oj j1 j2).1<|y.all j j4;have:=st.apos _ _ j3;omega
  have z:∀x,KZ ops pos sc (fun k=>S k\/k=i) m (a.put o.dst x):=fun x=>N.put st d y.fresh y ae ah
  have A:=operands st D E hd d y hfl;rw[O8 A];rcases D.step i o d with⟨u1,u2,s⟩|⟨u1,u⟩
  ·simp only[u1,zz,vf];refine⟨fun _ _=>trivial,?_⟩;exact U m fl p _ w (E.quiet st D d y.fresh r (fun _=>u1)<|by simp_all [Ab,undef]) (z _) g
  ·simp only[u1,wm];refine⟨fun _ _=>trivial,?_⟩;rcases u with⟨u2,s,u4⟩|⟨u2,ob,f,s,u4,u5⟩|⟨u2,s⟩
   ·have R:=UY st D hd E J d y u2 u1 s;obtain⟨v',p',w',L,O,X⟩:=IX hC E.ext.rel E.gl A I R;rw[zl _ _ _<|Gq R,L,zr];have hi2:=E.along X;exact U m fl p' _ w' (hi2.quiet st D d y.fresh r (by grind [Iv]) fun _=>O) (z _) g
   ·have hle:m<=pos i:=by
     rcases Nw st hd E J d y.fresh with h|⟨k,ok,h1,h2,Y,h4,h5,h6⟩
     ·exact h
     ·rcases st.s4 k i ok o h1 d h2 u2 with h7|h7
      ·grind
      ·omega
    obtain⟨x,n,v',L,O,X⟩:=qF (P:=P) hC E.gl A s;rw[zl _ _ _<|bR u2,L,zr];exact U m _ p _ _ (E.made st d u2 u1 hle D s O X) (z _) g
   grind
 |true=>
  obtain⟨hnr,hnal⟩:=Ry r;have hle:m<=pos i:=by
   rcases yq (pos i) m with h|h
   ·exact wh ((E.mh i o d r).2 h) y.fresh
   omega
  have hpn:=(st.posp i hin).1;obtain⟨p1,c⟩:=Inv.adv st D (pos i-m) m E N ae (fun q h1 h2 oq hq=>by
   obtain⟨L,O⟩:=st.ordp q ae;refine⟨?_,fun M=>?_⟩
   ·grind [N8]
   ·rcases st.s4 i (ord q) o oq d hq r M with Y|Y
    ·exact y.all _ Y
    omega)
  rw[show m+(pos i-m)=pos i from by omega]at c;have A:=operands st D c hd d y fun k ok t hk M _ _ G=>st.apos _ _ G
  have z:∀x,KZ ops pos sc (fun k=>S k\/k=i) (pos i+1) (a.put o.dst x):=fun x=>N.put st d y.fresh y ae ae
  rw[O8 A];have l:Rest ops pos (fun k=>S k\/k=i) (pos i+1):=.inr ah;rcases D.step i o d with⟨u1,u2,s⟩|⟨u1,u⟩
  ·simp only[u1,zz,vf];refine⟨fun _ _=>trivial,?_⟩;have he:Ext p1 (Hh<|pos i) w p1 (Hh<|pos i+1) w:=by rw[s];exact zq c.ext.rel
   exact U _ _ _ _ _ (c.wrote st D d r y.fresh he<|by simp_all [Ab,undef]) (z _) l
  ·simp only[u1,wm];refine⟨fun _ _=>trivial,?_⟩;rcases u with⟨u2,s,u4⟩|⟨u2,ob,f,s,u4,u5⟩|⟨u2,s⟩
   ·grind
   ·grind
   ·unfold Dx at s;split at s
    case h_4=>cases s
    case h_1=>
     rename_i vv hh B;obtain⟨rfl,rfl⟩:=s;obtain⟨v',p',w',L,O,X⟩:=IX hC c.ext.rel c.gl A I B;rw[zl _ _ _<|Gq B,L,zr];exact U _ _ _ _ _ (c.wrote st D d r y.fresh X O) (z _) l
    case h_2=>
     rename_i hh B;simp only[zg,ym]at s;obtain⟨u4,rfl⟩:=s;obtain⟨p',w',L,X⟩:=IX hC c.ext.rel c.gl A I B;rw[zl _ _ _<|Gq B,L,Oper.uponIn_skip];exact U _ _ _ _ _ (c.wrote st D d r y.fresh X<|by rw[<-u4];simp[Ab,undef]) (z _) l
    case h_3=>
     rename_i f args B;obtain⟨args',L,O⟩:=IX hC c.ext.rel c.gl A I B;rw[zl _ _ _<|Gq B,L,Oper.uponIn_enter];split at s
     case h_2=>cases s
     rename_i x1 x2 hcl;cases s;refine⟨(by grind [FW,yb]),Vc.2<|(W.fn f args _ _ hcl p1 w args' c.ext.rel c.gl O).mono ?_⟩;rintro e w' ⟨v',h',x',p',hm,rfl,k1,k2⟩;rw[zn]at hm;cases hm;exact U _ _ _ _ _ (c.wrote st D d r y.fresh k2 k1) (z _) l
theorem Inv.congr{b:Nat->Prop}(h:∀k,S k↔b k)(c:Inv C ops pos sc fr0 v Hh F p0 h0 w0 df S m fl p a w):Inv C ops pos sc fr0 v Hh F p0 h0 w0 df b m fl p a w:=by
 have e:S=b:=ah;grind
theorem KZ.congr{b:Nat->Prop}(h:∀k,S k↔b k)(c:KZ ops pos sc S m a):KZ ops pos sc b m a:=by
 have e:S=b:=ah;grind
def Ls(l:Array Bool)(k:Nat):Prop:=l.getD k false=true
theorem R6{l:Array Bool}(n:Nat)(c:l.size=n){i:Nat}(d:i<n)(b:l.getD i true=false):
  ((z6 n).filter fun k=> !(l.setIfInBounds i true).getD k true).length<((z6 n).filter fun k=> !l.getD k true).length:=by
 have sub:∀k,(!(l.setIfInBounds i true).getD k true)=true->(!l.getD k true)=true:=by
  intro k f;by_cases e:i=k
  ·grind
  simp_all
 have key:∀(L:List Nat),(L.filter fun k=> !(l.setIfInBounds i true).getD k true).length<=(L.filter fun k=> !l.getD k true).length/\(i∈L->(L.filter fun k=> !(l.setIfInBounds i true).getD k true).length<(L.filter fun k=> !l.getD k true).length):=by
  intro L;induction L with
  |nil=>simp
  |cons x L g=>
   simp only[List.filter_cons];constructor
   ·grind
   ·by_cases e:i=x
    ·subst e;rw[wc (by simp),wd<|by simp[b]];grind
    grind
 grind
theorem YT(hC:C.Ok P)(x:call.Ok C P)(st:Stat ops anc ord pos sc)(E:Canon C call ops anc ord pos fr0 h0 v Hh F){Q:Exit->Act->World->Prop}
  (hQ:∀p' G w',Cd p' (F ops.size) G->Ext p0 h0 w0 p' (Hh ops.size) w'->G.defers=df->Q .normal G w') {ro:Option Nat} {nn:Nat}:
  ∀(c:Nat) (l:Array Bool),l.size=ops.size->((z6 ops.size).filter fun k=> !l.getD k true).length<=c->∀ {m:Nat} {fl:Nat->Nat} {p:Pl} {a:Act} {w:World},
   Inv C ops pos sc fr0 v Hh F p0 h0 w0 df (Ls l) m fl p a w->KZ ops pos sc (Ls l) m a->Down anc (Ls l)->Rest ops pos (Ls l) m->wpAnyIn (FW ro) nn P .any ops Q c l a w:=by
 have fin:∀(l:Array Bool),l.size=ops.size->yh .any ops l=[]->∀ {m:Nat} {fl:Nat->Nat} {p:Pl} {a:Act} {w:World},
   Inv C ops pos sc fr0 v Hh F p0 h0 w0 df (Ls l) m fl p a w->KZ ops pos sc (Ls l) m a->Q .normal a w:=by
  intro l R y m fl p a w u n;have all:∀q,q<=ops.size->∀k,k<ops.size->pos k<q->Ls l k:=by
   intro q;induction q with
   |zero=>omega
   |succ q M=>
    intro hq k d hlt;by_cases e:pos k=q
    ·apply Classical.byContradiction;intro hns;have W:k∈yh .any ops l:=by
      rw[mem_ready];refine⟨?_,ops[k],by simp[d],fun X K hb=>?_⟩
      ·grind [Ls]
      ·obtain⟨L,A⟩:=st.dir k _ X (by simp[d]) K hb;have h3:=st.apos _ _ L;exact M ae X.on A ae
     grind
    grind
  have r:∀k,k<ops.size->Ls l k:=fun k d=>all ops.size ae k d (st.posp k d).1
  obtain⟨p',b⟩:=Inv.adv st E (ops.size-m) m u n (by have:=u.mn;omega) (fun q L A o ho=>by
   obtain⟨U,Y⟩:=st.ordp q ae;refine⟨?_,ah⟩;cases hv:Cx o with
   |false=>rfl
   |true=>have:=(u.mh _ o ho hv).1<|r _ U;omega)
  rw[show m+(ops.size-m)=ops.size from by have:=u.mn;omega]at b;refine hQ p' a w ⟨by rw[E.fn _ ae,b.sz],fun t=>?_⟩ b.ext b.df;by_cases hw:∃(k:Nat) (ok:Oper),ops[k]?=some ok/\ok.dst=some t
  ·obtain⟨k,ok,d,z⟩:=hw;have s:=(zc.1 d).1;rw[Fw st E d z _ ae (st.posp k s).1];exact b.slotw k ok t (r k s) d z fun _ _=>(st.posp k s).1
  ·rw[Fz st E _ ae ah];exact b.slot t ah
 intro c;induction c with
 |zero=>
  intro l R B m fl p a w u n N g;have y:yh .any ops l=[]:=by
   simp_all [yh,z6]
  exact⟨y,ah⟩
 |succ c M=>
  intro l R B m fl p a w u n N g;refine⟨ah,fun i hm=>?_⟩;obtain⟨L,o,A,h3⟩:=mem_ready.1 hm;have Z:=(zc.1 A).1;have f:Pv anc (Ls l) i:=by
   refine⟨fun hs=>?_,fun k d=>?_⟩
   ·grind [Ls]
   ·obtain⟨o',e,U,Y,g3,g4⟩:=st.edge i k d;grind [Ls,Down]
  refine up hC x st E u n N g A f fun m' fl' p' G w' b D I=>?_
  have O:∀k,(Ls l k\/k=i)↔Ls (l.setIfInBounds i true) k:=by
   intro k;unfold Ls;by_cases e:k=i
   ·simp_all
   ·rw[getD_set_ne false ae];simp[e]
  refine M (l.setIfInBounds i true) ah ?_ (b.congr O) (D.congr O) ?_ (by simp_all)
  ·grind [R6]
  ·intro j k J d;rw[<-O]at J ⊢;rcases J with J|rfl
   ·exact .inl<|N j k J d
   ·exact .inl<|f.all k d
theorem aQ(j:C.Ok P)(b:call.Ok C P)(g:P.follows .mixedOrders=true)(st:Stat ops anc ord pos sc)(f:Canon C call ops anc ord pos fr0 h0 v Hh F){Q:Exit->Act->World->Prop}(n:R p h0 w)(r:Gl C p)(e:Cd p fr0 a)
  {id:Nat} (q:∀p' c w',Cd p' (F ops.size) c->Ext p h0 w p' (Hh ops.size) w'->c.defers=a.defers->Q .normal c w') {ro:Option Nat} {s:Nat}:(Code.region id ops true).wpIn (FW ro) s P Q a w:=by
 refine wpIn_region_any g ?_;have o:=Ext.drew n<|w.drawn+1;have l:∀k,¬Ls (Array.replicate ops.size false) k:=by
  intro k d;unfold Ls at d;rw[zk]at d;grind
 refine YT (p0:=p) (h0:=h0) (w0:=w) (df:=a.defers) j b st f q ops.size _ (by simp) ah (m:=0) (fl:=fun _=>0) (p:=p)
  ⟨by rw[f.h0];exact o,r,Nat.zero_le _,ah,ae,e.1.symm,rfl,fun t _=>e.2 t,ah,ah,ah⟩
  ⟨ah⟩ (fun i k h=>ah) (.inl rfl)
end
structure LZ where
 anc:List Nat
 ord:List Nat
 pos:List Nat
 sc:List (Option Nat)
def wR(acc:List Nat)(o:Oper):Nat:=
 o.after.toList.foldl (fun s e=>bif yc .any e then s|||(2^e.on|||acc.getD e.on 0)else s) 0
def pC:List Oper->List Nat->List Nat
 |[],b=>b
 |o::os,b=>pC os<|b++[wR b o]
def tb(m i:Nat):Bool:=m.testBit i
def sub(a d:Nat):Bool:=zo (a&&&d) a
def I1(f:Nat->Oper->Bool):Nat->List Oper->Option Nat
 |_,[]=>none
 |i,o::os=>bif f i o then some i else I1 f (i+1) os
def Zt(f:Nat->Oper->Bool):Nat->List Oper->List Nat
 |_,[]=>[]
 |i,o::os=>bif f i o then i::Zt f (i+1) os else Zt f (i+1) os
def S6(ops:List Oper)(anc:List Nat):Nat->Nat->List Nat->List Nat
 |0,_,out=>out.reverse
 |fuel+1,d,out=>
  match I1 (fun i o=>DZ o&& !tb d i&&sub (anc.getD i 0) d) 0 ops with
  |some i=>S6 ops anc fuel (d|||2^i) (i::out)
  |none=>
   match I1 (fun i o=>Cx o&& !tb d i) 0 ops with
   |some k=>
    let b:=Zt (fun i o=>Cr o&& !tb d i&&tb (anc.getD k 0) i) 0 ops
    bif b.isEmpty then S6 ops anc fuel (d|||2^k) (k::out)
    else S6 ops anc fuel (b.foldl (fun s i=>s|||2^i) d)<|b.reverse++out
   |none=>
    match I1 (fun i o=>Cr o&& !tb d i) 0 ops with
    |some i=>S6 ops anc fuel (d|||2^i) (i::out)
    |none=>out.reverse
def idx(l:List Nat)(i:Nat):Nat:=l.getD i 0
def wF(ord:List Nat)(n:Nat):List Nat:=(z6 n).map fun i=>ord.idxOf i
def QY(o:Oper):Option Tmp:=
 match o.guard,o.op with
 |none,.assign (.tmp t)=>some t
 |none,.move (.tmp t)=>some t
 |_,_=>none
def zU(ops:List Oper)(anc:List Nat)(i:Nat)(o:Oper):Option Nat:=
 match QY o with
 |some t=>
  match I1 (fun k x=>Cr x&&(x.dst==some t)&&tb (anc.getD i 0) k) 0 ops with
  |some k=>match I1 (fun h x=>Cx x&&tb (anc.getD h 0) k&&tb (anc.getD i 0) h) 0 ops with
   |none=>some k
   |some _=>none
  |none=>none
 |none=>none
def Ea(ops:Array Oper):LZ:=
 let anc:=pC ops.toList []
 let ord:=S6 ops.toList anc (3*ops.size+3) 0 []
 ⟨anc,ord,wF ord ops.size,ops.toList.zipIdx.map fun(o,i)=>zU ops.toList anc i o⟩
def LZ.s(pl:LZ)(i:Nat):Option Nat:=pl.sc.getD i none
def LZ.a(pl:LZ)(j i:Nat):Bool:=(idx pl.anc j).testBit i
def VY(ops:Array Oper)(f:Nat->Oper->Nat->Oper->Bool):Bool:=
 ops.toList.zipIdx.all fun(o,i)=>ops.toList.zipIdx.all fun(o',j)=>f i o j o'
def Hp(ops:Array Oper)(pl:LZ):Bool:=
 let n:=ops.size
 let A:=pl.a
 let pos:=idx pl.pos
 let ord:=idx pl.ord
 Region.noSelect ops&&
 ((z6 n).all fun q=>zh (ord q) n&&zo (pos<|ord q) q)&&
 ((z6 n).all fun i=>zh (pos i) n&&zo (ord<|pos i) i)&&
 (pl.anc.length==n)&&(pl.ord.length==n)&&
 (pl.sc.zipIdx.all fun(s,i)=>match s with
  |none=>true
  |some k=>match ops[i]?,ops[k]? with
   |some o,some ok=>match QY o with
    |some t=>Cr ok&&(ok.dst==some t)&&A i k
    |none=>false
   |_,_=>false)&&
 (ops.toList.zipIdx.all fun(o,j)=>zh (idx pl.anc j) (2^n)&&
  ((z6 n).all fun i=> !A j i||((o.after.toList.any fun e=>yc .any e&&(zo e.on i||A e.on i))&&zh (pos i) (pos j)))&&
  (o.after.toList.all fun e=> !yc .any e||(A j e.on&&zh e.on n)))&&
 (VY ops fun i o j o'=>
  (!(Cx o&&Cx o')||zo i j||A i j||A j i)&&
  (!(Cx o&&DZ o')||A j i||zh (pos j) (pos i))&&
  (!((Cr o||(pl.s i).isSome)&& !Cx o')|| !A j i||(match o.dst with|some t=> !((reads ops o').contains t)|none=>true)||(pl.s j==some i)||(ops.toList.zipIdx.any fun(x,k)=>Cx x&&A k i&&A j k))&&
  (!(Cx o&&Cr o')||A i j||zh (pos i) (pos j))&&
  (!(DZ o&&OX o&&Cr o')|| !zh (pos j) (pos i)||(ops.toList.zipIdx.any fun(x,k)=>Cx x&&zh (pos j) (pos k)&&zh (pos k) (pos i)))&&
  (zo i j||(match o.dst with
   |none=>true
   |some t=> !(o'.dst==some t)&&(!((reads ops o').contains t)||A j i||A i j))))
theorem I2{ops:Array Oper}{i:Nat}{o:Oper}(h:ops[i]?=some o):(o,i)∈ops.toList.zipIdx:=by
 grind
theorem eF{ops:Array Oper}{i:Nat}{o:Oper}(h:(o,i)∈ops.toList.zipIdx):ops[i]?=some o:=by
 grind
theorem Sn{o:Oper}{t:Tmp}(h:QY o=some t):(o.op=.assign (.tmp t)\/o.op=.move (.tmp t))/\o.guard=none:=by
 grind [QY]
theorem We{ops:Array Oper}{pl:LZ}(G:Hp ops pl=true):Stat ops pl.a (idx pl.ord) (idx pl.pos) pl.s:=by
 unfold Hp at G;simp only[ze]at G;obtain⟨⟨⟨⟨⟨⟨⟨h0,h1⟩,Q⟩,O⟩,_⟩,W⟩,y⟩,R⟩:=G;simp only[zj,yk,ze,zt,Bj,w5]at h1 Q;simp only[zj]at y;have l:∀(i j:Nat) (o o':Oper),ops[i]?=some o->ops[j]?=some o'->_:=fun i j o o' f d=>zj.1 (zj.1 R (o,i)<|I2 f) (o',j)<|I2 d
 simp only[ze,zm,zw,Bj,w5,FL,w9,Bool.and_eq_false_imp]at l;have g:∀(j i:Nat),pl.a j i=true->j<ops.size/\i<ops.size:=by
  intro j i h;have d:j<ops.size:=by
   rcases yq j ops.size with b|b
   ·exact b
   ·have hl:pl.anc.length=ops.size:=by simpa using O
    unfold LZ.a idx at h;rw[yd,List.getElem?_eq_none ae]at h;simp at h
  refine⟨d,?_⟩;have b:=y (ops[j],j) (I2<|by simp[d]);simp only[ze,zt]at b;rcases yq i ops.size with c|c
  ·exact c
  ·have q:=b.1.1;have N:idx pl.anc j<2^i:=Nat.lt_of_lt_of_le q (Nat.pow_le_pow_right ae c);unfold LZ.a at h;rw[Nat.testBit_lt_two_pow N]at h;cases h
 refine⟨h0,ae,ae,fun j i h=>?_,fun j o e d J hb=>?_,fun j i h=>?_,fun i j o o' f d z hv' D=>?_,fun i j o o' f d z K=>?_,fun i k h=>?_,fun j k o o' t d M A z u n h=>?_,fun i j o o' f d z A=>?_,
  fun i j o o' f d K B A X=>?_,fun i j o o' t f d D u=>?_⟩
 ·obtain⟨d,f⟩:=g j i h;have b:=y (ops[j],j) (I2<|by simp[d]);simp only[ze,zj,yk,zm,zw]at b;rcases b.1.2 i f with c|c
  ·rw[h]at c;cases c
  ·obtain⟨e,J,q⟩:=yg.1 c.1;simp only[ze,zm,Bj,w5]at q;exact⟨ops[j],e,by simp[d],by simpa using J,q.1,q.2⟩
 ·have b:=y (o,j)<|I2 d;simp only[ze,zj,zm,zw,zt]at b;rcases b.2 e (by simpa using J)with c|c
  ·rw[hb]at c;cases c
  omega
 ·obtain⟨d,f⟩:=g j i h;have b:=y (ops[j],j) (I2<|by simp[d]);simp only[ze,zj,yk,zm,zw,zt]at b;rcases b.1.2 i f with c|c
  ·rw[h]at c;cases c
  omega
 ·have:=(l i j o o' f d).1.1.1.1.1;simp_all
 ·have:=(l i j o o' f d).1.1.1.1.2;simp_all
 ·have n:(pl.s i,i)∈pl.sc.zipIdx:=by
   rw[List.mem_zipIdx_iff_getElem?];unfold LZ.s at h ⊢;rw[yd]at h ⊢;cases Y:pl.sc[i]? with
   |none=>rw[Y]at h;cases h
   |some x=>rfl
  have b:=zj.1 W _ n;simp only[h]at b;split at b
  case h_2=>cases b
  rename_i o ok ho I;split at b
  case h_2=>cases b
  rename_i t u;simp only[ze,wk]at b;obtain⟨U,L⟩:=Sn u;exact⟨o,ok,t,ho,I,U,L,b.1.1,b.1.2,b.2⟩
 ·have b:=(l j k o o' d M).1.1.1.2;have r:(Cr o||(pl.s j).isSome)=true:=by simpa using A
  rw[z,h,u]at b;have Z:(reads ops o').contains t=true:=by simpa using n
  simp only[zm]at r;simp only[Z,Bool.not_false,Bool.not_true,zz,or_false,Bool.true_eq_false]at b;rcases b with(b|b)|b
  ·exact wh r ae
  ·exact .inl (by simpa using b)
  ·obtain⟨⟨x,i⟩,E,c⟩:=yg.1 b;simp only[ze]at c;exact .inr ⟨i,x,eF E,c.1.1,c.1.2,c.2⟩
 ·have:=(l i j o o' f d).1.1.2;simp_all
 ·have b:=(l i j o o' f d).1.2;rw[K,B,A]at b;simp only[and_self,forall_const,Bool.true_eq_false,false_or]at b;rcases b with b|b
  ·omega
  ·obtain⟨⟨x,k⟩,n,c⟩:=yg.1 b;simp only[ze,w5]at c;exact⟨k,x,eF n,c.1.1,c.1.2,c.2⟩
 ·have b:=(l i j o o' f d).2;rcases b with b|b
  ·omega
  ·rw[u]at b;simp only[ze,zw,zm,beq_eq_false_iff_ne]at b;refine⟨b.1,fun n=>?_⟩;rcases b.2 with(c|c)|c
   ·have:(reads ops o').contains t=true:=by simpa using n
    rw[this]at c;cases c
   ·exact .inl c
   ·exact .inr c
theorem jV{ops:Array Oper}{pl:LZ}(b:Hp ops pl=true):pl.ord.length=ops.size:=by
 unfold Hp at b;grind
end Go.Det
