import Derived.Test.YtjbmodoofdpgcabGreatDoorX01
import Derived.Laws.IdiomStrings
import Derived.Lib.UnsafeStr
import Derived.Lib.Builder
import Derived.RangeFuncRecord
import Derived.LoopNIn
import Derived.OrdersIn
import Derived.RangeFuncLeaves
/- A part of a proof; no law is stated here. -/
noncomputable section
open Array renaming getElem?_eq_some_iff -> Za, getD_eq_getD_getElem? -> Zi, getElem?_toList -> Zr, getElem?_setIfInBounds_ne -> Zy
open Go.Result renaming andThen_ok -> Zb
open Bool renaming and_eq_true -> Zc, or_eq_true -> Zk, not_eq_true' -> Zs, false_eq_true -> Zv
open Go.Sem renaming run_bind -> Zd, run_pure -> Zn, run -> ZC
open Option.some renaming injEq -> Ze
open Nat renaming blt -> Zf, beq -> Zm, blt_eq -> Zq, ble -> Zx, ble_eq -> ZL, lt_or_ge -> ZN
open Option renaming map_eq_some_iff -> Zg, isSome_iff_exists -> ZD
open List renaming all_eq_true -> Zh, mem_singleton -> Zl, range -> Zw, getD_eq_getElem?_getD -> ZB, any_eq_true -> ZE, mem_range -> ZI, mem_cons -> ZK
open Go.Oper renaming semAt_eq -> Zj, uponIn_value -> Zp
open Go.Det.Ext renaming refl -> Zo
open Go.Deferred renaming ofValue -> Zt
open Go.Region renaming wanted -> Zu, binds -> ZA, ready -> ZF
open Go.Fence renaming wide -> Zz
open Go.Question renaming forced -> ZG
open Go.Op renaming operands -> ZH
open Prod.mk renaming injEq -> ZJ
open Go.Act renaming put -> ZM
namespace Go.Det
section
variable {T:AF}{P:Program}{p:Pl}{h:H}{w:World}
def C3(T:AF)(h:H)(t:TypeId)(x:V):Option (V×H):=
 match T.und t,x with
 |some (.map _ _),.nilm=>some (.ptr h.nx 0,h.push<|.miter none 0 [] 0)
 |some (.map _ _),.map b=>match h.get b with
  |some (.map _ c)=>some (.ptr h.nx 0,h.push<|.miter (some b) c [] c)
  |_=>none
 |_,_=>I7 T h t x
theorem LF(j:T.Ok P)(d:R p h w){t:TypeId}{x:V}{x':Value}(i:Aa p x x'){v:V}{h':H}(c:C3 T h t x=some (v,h')):
  ∃v' p' w',(Instr.range t x').run P w=.ok v' w'/\Aa p' v v'/\Ext p h w p' h' w':=by
 unfold C3 at c;split at c
 case h_1=>
  rename_i g;cases c;subst i;have f:=Ext.push (n:=0) d (o:=.miter none 0 [] 0) (x:=.mapIter none 0 #[] 0) rfl;refine⟨.pointer<|some ⟨w.heap.size,0,none⟩,_,_,?_,?_,f⟩
  ·unfold Instr.range;simp only[Zd,Ac j g,Zb,Zn,run_newObj]
  ·exact⟨w.heap.size,0,by rw[<-d.len];simp,rfl⟩
 case h_2=>
  rename_i b g;split at c
  case h_2=>cases c
  rename_i es e q;cases c;obtain⟨r,n,k,rfl⟩:=i;obtain⟨r',n',o,h1,h2,l,h3,h4⟩:=d.obj _ _ q;rw[k]at h1;cases h1;subst h3;have f:=Ext.push (n:=0) d (o:=.miter (some b) e [] e) (x:=.mapIter (some r) e #[] e) ⟨r,n,k,rfl⟩;refine⟨.pointer<|some ⟨w.heap.size,0,none⟩,_,_,?_,?_,f⟩
  ·unfold Instr.range;simp only[Zd,Ac j g,Zb,Zn,getObj,ZC,h2,run_newObj]
  ·exact⟨w.heap.size,0,by rw[<-d.len];simp,rfl⟩
 grind [Nb]
def IX(h:H)(d:V)(c:Bool):Option (List<|V×H):=
 match d,c with
 | .ptr b 0,false=>
  match h.get b with
  |some (.miter none _ _ _)=>some [(.tup [.bool false],h)]
  |some (.miter (some m) since seen last)=>
   match h.get m with
   |some (.map es f)=>
    bif es.all (fun e=>Zf e.2.2 since)&&Zx since last then
     match es.filter (fun e=> !seen.contains e.2.2)with
     |[]=>some [(.tup [.bool false],h)]
     |left=>some (left.map fun e=>(.tup [.bool true,e.1,e.2.1],h.put b<|.miter (some m) since (seen++[e.2.2]) f))
    else none
   |_=>none
  |_=>none
 |_,_=>none
theorem Bo.get{es:List (V×V×Nat)}{l:List MapEntry}(c:Bo p es l):∀ {i:Nat} {e:MapEntry},l[i]?=some e->∃k v,es[i]?=some (k,v,e.born)/\Aa p k e.key/\Aa p v e.val:=by
 induction c with
 |nil=>simp
 |@cons k v b es g l j f d _ n=>
  grind
theorem Bo.filter{es:List (V×V×Nat)}{l:List MapEntry}(f:Bo p es l)(q:Nat->Bool):Bo p (es.filter fun e=>q e.2.2) (l.filter fun e=>q e.born):=by
 induction f with
 |nil=>exact .nil
 |@cons k v b es j l i g c _ d=>
  simp only[List.filter_cons,c];cases q b with
  |false=>exact d
  |true=>exact .cons i g c d
theorem Bo.all{es:List (V×V×Nat)}{l:List MapEntry}(c:Bo p es l)(q:Nat->Bool):(es.all fun e=>q e.2.2)=l.all fun e=>q e.born:=by
 induction c with
 |nil=>rfl
 |@cons k v b es g l i f d _ j=>grind
theorem Bo.find{es:List (V×V×Nat)}{l:List MapEntry}(d:Bo p es l)(q:Nat->Bool){e:V×V×Nat}(g:es.find? (fun e=>q e.2.2)=some e):∃c,l.find? (fun e=>q e.born)=some c/\Aa p e.1 c.key/\Aa p e.2.1 c.val:=by
 induction d with
 |nil=>grind
 |@cons k v b es j l n i f _ o=>
  grind
theorem Pj(n:Nat)(b:0<n):∃i d,(choose<|.mapNext n).run P w=.ok i { w with drawn:=d }/\i<n/\w.drawn<=d:=by
 rw[run_choose];by_cases c:n<=1
 ·refine⟨0,w.drawn,?_,b,Nat.le_refl _⟩;simp[ZG,c]
 ·refine⟨w.tape w.drawn (.mapNext n) % n,w.drawn+1,?_,Nat.mod_lt _ b,Nat.le_succ _⟩;grind [ZG,Question.cut]
theorem NA(j:R p h w){O:V}{z:Value}{g:Bool}{t:TypeId}(U:Aa p O z){l:List (V×H)}(f:IX h O g=some l):
  ∃v h' v' p' w',(v,h')∈l/\(Instr.next z g t).run P w=.ok v' w'/\Aa p' v v'/\Ext p h w p' h' w':=by
 unfold IX at f;split at f
 case h_2=>cases f
 rename_i b;simp only[Aa]at U;obtain⟨r,n,J,rfl⟩:=U;split at f
 case h_3=>cases f
 case h_1=>
  rename_i since seen last B;cases f;obtain⟨r',n',x,s,D,E⟩:=j.obj _ _ B;rw[J]at s;cases s;simp only[Ey]at E;subst E;refine⟨_,_,.tuple #[.bool false],p,w,Zl.2 rfl,?_,by simp[Aa],Zo j⟩;unfold Instr.next;simp only[Zd,getObj,ZC,D,Zb];rfl
 case h_2=>
  rename_i m since seen last B;split at f
  case h_2=>cases f
  rename_i es G W;cases I:(es.all (fun e=>Zf e.2.2 since)&&Zx since last)with
  |false=>grind
  |true=>
   simp only[I,wb]at f;simp only[Zc,ZL]at I;obtain⟨c1,c2⟩:=I;obtain⟨r',n',x,s,D,E⟩:=j.obj _ _ B;rw[J]at s;cases s;obtain⟨rm,nm,hpm,rfl⟩:=E;obtain⟨r2,n2,x2,k1,k2,l2,k3,k4⟩:=j.obj _ _ W;rw[hpm]at k1;cases k1;subst k3;rw[k4.all fun b=>Zf b since]at c1;have Q:∀e∈l2.toList,e.born<since:=by
    intro e X;have:=Zh.1 c1 e X;simp_all
   have hno:(!seen.toArray.isEmpty&& !l2.isEmpty&&l2.all (·.born>=last))=false:=by
    cases hl:l2.toList with
    |nil=>
     simp_all
    |cons e0 M=>
     grind
   have q:(l2.filter fun e=> !seen.toArray.contains e.born).toList=l2.toList.filter fun e=> !seen.contains e.born:=by
    simp
   have c:=k4.filter fun b=> !seen.contains b
   have e1:((l2.filter fun e=> !seen.toArray.contains e.born).filter (·.born<since))=l2.filter fun e=> !seen.toArray.contains e.born:=by
    grind [Array.toList_inj,Array.toList_filter,List.filter_eq_self]
   have e2:((l2.filter fun e=> !seen.toArray.contains e.born).filter (·.born>=since))= #[]:=by
    apply Array.toList_inj.1;grind [List.filter_eq_nil_iff]
   unfold Instr.next;simp only[Zd,getObj,ZC,D,Zb,k2];rw[w9 ae];simp only[e1,e2,Array.append_empty];generalize hL:(l2.filter fun e=> !seen.toArray.contains e.born)=L at*;rw[<-q]at c;have N:=c.length;split at f
   case h_1=>
    cases f;have Z:L= #[]:=by
     grind
    refine⟨_,_,.tuple #[.bool false],p,w,Zl.2 rfl,?_,by simp[Aa],Zo j⟩;simp_all [ZG]
   case h_2=>
    have y:0<L.size:=by
     grind
    have o:L.isEmpty=false:=ae
    simp only[o,Zv,wi,Array.empty_append,Array.size_map];obtain⟨i,d,Y,K,g4⟩:=Pj (P:=P) (w:=w) L.size y;simp only[Zd,Y,Zb];have hi:L[i]?=some L[i]:=by simp[K]
    obtain⟨k,v,q1,q2,q3⟩:=c.get (i:=i) (e:=L[i]) (by simp[K]);simp only[Array.getElem?_map,hi,Option.map_some,Zd];have A:=Ext.drew j d;have u:=Ext.put A.rel B J (o':=.miter (some m) since (seen++[L[i].born]) G) (x':=.mapIter (some rm) since (seen.toArray.push L[i].born) G) ⟨rm,nm,hpm,by simp⟩
     (w':=⟨w.heap.setIfInBounds r<|.mapIter (some rm) since (seen.toArray.push L[i].born) G,w.tape,d,w.os,w.output⟩) rfl rfl rfl rfl
    refine⟨.tup [.bool true,k,v],_,.tuple #[.bool true,L[i].key,L[i].val],p,_,ae,?_,?_,A.trans u⟩
    ·simp[setObj,ZC,D]
    simp_all [Aa]
def Jr(h:H)(c:V):Option V:=
 match c with
 | .ptr b 0=>
  match h.get b with
  |some (.miter (some m) _ seen last)=>
   match h.get m with
   |some (.map es d)=>
    bif Zm d last then
     match seen.getLast? with
     |some s=>match es.find? (fun e=>Zm e.2.2 s)with
      |some e=>some<|.tup [e.1,e.2.1]
      |none=>none
     |none=>none
    else none
   |_=>none
  |_=>none
 |_=>none
theorem Nq(j:R p h w){i:V}{d:Value}(q:Aa p i d){v:V}(c:Jr h i=some v):∃v',(Instr.entry d).run P w=.ok v' w/\Aa p v v':=by
 unfold Jr at c;split at c
 case h_2=>cases c
 simp only[Aa]at q;split at c
 case h_2=>cases c
 rename_i m since seen last r;split at c
 case h_2=>cases c
 rename_i es n k;rw[Al]at c;by_cases f:n=last
 ·simp only[f,decide_true,wb]at c;split at c
  case h_2=>cases c
  rename_i s y;split at c
  case h_2=>cases c
  rename_i e o;cases c;obtain⟨z,n',x,u,t,l⟩:=j.obj _ _ r;simp only[Ey]at l;obtain⟨r2,n2,x2,k1,k2,l2,k3,k4⟩:=j.obj _ _ k;obtain⟨e',q1,q2,q3⟩:=k4.find (fun b=>Zm b s) o;refine⟨.tuple #[e'.key,e'.val],?_,by simp_all [Aa]⟩;unfold Instr.entry;have g:l2.find? (fun e=>e.born==s)=some e':=by
   rw[<-Array.find?_toList, <-q1];congr 1;funext e
   rw[Al];rfl
  simp_all [getObj,ZC]
 grind
theorem Bo.erase{es:List (V×V×Nat)}{l:List MapEntry}(d:Bo p es l)(i:Nat):Bo p (es.eraseIdx i) (l.eraseIdx i):=by
 induction d generalizing i with
 |nil=>simp;exact .nil
 |@cons k v b es n l f e c j g=>
  cases i with
  |zero=>grind
  |succ i=>simp;exact .cons f e c<|g i
def EL(T:AF)(h:H)(ts:Array TypeId)(args:List V):Option (V×H):=
 match ts[0]?,args with
 |some f,[.map b,k]=>
  match T.und f with
  |some (.map c _)=>
   match T.und c,h.get b with
   |some d,some (.map es e)=>
    bif DM T c d k then
     match EC T c k es with
     |some (some (i,_))=>some (.tup [],h.put b<|.map (es.eraseIdx i) e)
     |some none=>some (.tup [],h.put b<|.map es e)
     |none=>none
    else none
   |_,_=>none
  |_=>none
 |_,_=>none
theorem LM(q:T.Ok P)(z:R p h w){ts:Array TypeId}{t:TypeId}{args:List V}{args':Array Value}(W:Ab p args args'.toList){v:V}{h':H}(c:EL T h ts args=some (v,h')):
  ∃v' p' w',(Builtin.delete_ ts t args').run P w=.ok v' w'/\Aa p' v v'/\Ext p h w p' h' w':=by
 unfold EL at c;split at c
 case h_2=>cases c
 rename_i mt b k J;obtain⟨O,L,f,B,A⟩:=W.two;have y:args'[0]?=some O:=by rw[<-Zr,f];rfl
 have u:args'[1]?=some L:=by rw[<-Zr,f];rfl
 split at c
 case h_2=>cases c
 rename_i I e M;split at c
 case h_2=>cases c
 rename_i d es i g s;cases D:DM T I d k with
 |false=>grind
 |true=>
  simp only[D,wb]at c;rcases Fq (es:=es) z B (by simp only[entries,s])with⟨rfl,_⟩|⟨r,l,K,b',n,U,rfl,E,Q,G,o⟩
  ·simp[Aa]at B
  ·cases U;unfold Builtin.delete_;simp only[J,y,u,Zd,Ac q M,Zb,getObj,ZC,G,D3 q g A D];split at c
   case h_3=>cases c
   case h_1=>
    rename_i j v0 x;cases c;obtain⟨X,N,v1,rfl,k3,en,Z,k5⟩:=run_findKey (P:=P) (w:=w) q A g o x;refine⟨.tuple #[],p,{ w with heap:=w.heap.setIfInBounds r (.map (l.eraseIdxIfInBounds j) i) },?_,by simp[Aa],Ext.put z s E (o':=.map (es.eraseIdx j) i) ⟨_,rfl,?_⟩ rfl rfl rfl rfl⟩
    ·simp_all [setObj,ZC]
    ·have:=o.erase j;simp_all
   case h_2=>
    rename_i x;cases c;obtain⟨X,N,Y⟩:=run_findKey (P:=P) (w:=w) q A g o x;refine⟨.tuple #[],p,{ w with heap:=w.heap.setIfInBounds r (.map l i) },?_,by simp[Aa],Ext.put z s E (o':=.map es i) ⟨_,rfl,o⟩ rfl rfl rfl rfl⟩;simp_all [setObj,ZC]
def Cq(T:AF)(h:H)(ts:Array TypeId)(args:List V):Option (V×H):=
 match ts[0]?,args with
 |some t,[x]=>
  match T.und t,x with
  |some (.map _ _),.nilm=>some (.tup [],h)
  |some (.map _ _),.map b=>match h.get b with
   |some (.map _ c)=>some (.tup [],h.put b<|.map [] c)
   |_=>none
  |some (.slice _),.nils=>some (.tup [],h)
  |some (.slice _),.esl=>some (.tup [],h)
  |some (.slice _),.es0=>some (.tup [],h)
  |some (.slice e),.sl b off len _ _=>
   bif Zm len 0 then some (.tup [],h)
   else match T.inf e with
    |some i=>bif Zf 0 i.zero.length then
      (wr h b off<|Ca i.zero<|len*i.zero.length).map fun h'=>(.tup [],h')
     else none
    |none=>none
  |_,_=>none
 |_,_=>none
theorem Ni(g:T.Ok P)(j:R p h w){ts:Array TypeId}{t:TypeId}{args:List V}{args':Array Value}(M:Ab p args args'.toList){v:V}{h':H}(d:Cq T h ts args=some (v,h')):
  ∃v' p' w',(Builtin.clear_ ts t args').run P w=.ok v' w'/\Aa p' v v'/\Ext p h w p' h' w':=by
 unfold Cq at d;split at d
 case h_2=>cases d
 rename_i N x J;obtain⟨x',k,q⟩:=M.one;have A:args'[0]?=some x':=by rw[<-Zr,k];rfl
 unfold Builtin.clear_;simp only[J,A];split at d
 case h_7=>cases d
 case h_1=>
  rename_i f;cases d;subst q;exact⟨.tuple #[],p,w,by simp[Ac g f],by simp[Aa],Zo j⟩
 case h_2=>
  rename_i b f;split at d
  case h_2=>cases d
  rename_i es B D;cases d;obtain⟨r,n,u,rfl⟩:=q;obtain⟨r',n',o,y,h2,l,h3,h4⟩:=j.obj _ _ D;rw[u]at y;cases y;subst h3;refine⟨.tuple #[],p,{ w with heap:=w.heap.setIfInBounds r (.map #[] B) },?_,by simp[Aa],Ext.put j D u (o':=.map [] B) ⟨_,rfl,.nil⟩ rfl rfl rfl rfl⟩;simp[Zd,Ac g f,getObj,setObj,ZC,h2]
 case h_3=>
  rename_i e f;cases d;subst q;exact⟨.tuple #[],p,w,by simp[Ac g f],by simp[Aa],Zo j⟩
 case h_4=>
  rename_i e f;cases d;obtain⟨_,_,rfl⟩:=q;exact⟨.tuple #[],p,w,by simp[Ac g f],by simp[Aa],Zo j⟩
 case h_5=>
  rename_i e f;cases d;obtain⟨_,rfl⟩:=q;exact⟨.tuple #[],p,w,by simp[Ac g f],by simp[Aa],Zo j⟩
 case h_6=>
  rename_i e b off len cap o f;obtain⟨r,n,c,u,rfl,_⟩:=q;rw[Al]at d;by_cases h0:len=0
  ·simp only[h0,decide_true,wb,Ze,ZJ]at d;obtain⟨rfl,rfl⟩:=d;subst h0;exact⟨.tuple #[],p,w,by simp[Ac g f],by simp[Aa],Zo j⟩
  ·simp only[h0,decide_false,wc]at d;split at d
   case h_2=>cases d
   rename_i i L;cases G:Zf 0 i.zero.length with
   |false=>grind
   |true=>
    simp only[G,wb,Zg]at d;obtain⟨y,E,I⟩:=d;cases I;obtain⟨z,hzz,hzr⟩:=BL g L;have K:=(hzr p).length;have s:=Ea (hzr p) (by simp_all)<|len*i.zero.length;obtain⟨r',m,w',g1,g2,g3⟩:=IW (P:=P) j s E;rw[u]at g1;cases g1;refine⟨.tuple #[],p,w',?_,by simp[Aa],g3⟩;have:Builtin.zeroCells z.cells len=(Array.range<|len*i.zero.length).map (fun i=>z.cells[i % z.cells.size]!):=by
     grind [Builtin.zeroCells]
    simp only[Zd,Ac g f,Zb,hzz,this,g2,Zn]
def S2(T:AF)(ts:Array TypeId)(args:List V):Option V:=
 match ts[0]?,args with
 |some t,[x]=>
  match T.und t,x with
  |some (.slice _),.sl _ _ _ cap 0=>some<|i64 cap
  |some (.slice _),.nils=>some<|i64 0
  |_,_=>none
 |_,_=>none
theorem Rl(k:T.Ok P){ts:Array TypeId}{t:TypeId}{args:List V}{args':Array Value}(q:Ab p args args'.toList){v:V}(f:S2 T ts args=some v):
  ∃v',(Builtin.cap_ ts t args').run P w=.ok v' w/\Aa p v v':=by
 unfold S2 at f;split at f
 case h_2=>cases f
 rename_i y x o;obtain⟨x',d,g⟩:=q.one;have i:args'[0]?=some x':=by rw[<-Zr,d];rfl
 unfold Builtin.cap_;simp only[o,i];split at f
 case h_3=>cases f
 case h_1=>
  rename_i e b off len cap j;cases f;simp only[Aa]at g;obtain⟨r,n,c,z,rfl,A,u,l,s⟩:=g;have:=l trivial;subst this;exact⟨_,by simp[Zd,Ac k j];rfl,by rfl⟩
 case h_2=>
  rename_i e j;cases f;subst g;exact⟨_,by simp[Zd,Ac k j];rfl,by rfl⟩
def I6(T:AF)(h:H)(src dst:TypeId)(x:V):Option (V×H):=
 match T.und src,T.und dst,x with
 |some .string,some<|.slice e,.str s=>
  match T.und e with
  |some (.int .u8)=>some (.sl h.nx 0 s.length s.length 1,h.push<|.cells (s.map fun b=>.int .u8<|.ofNat b.toNat) e (0,0))
  |_=>none
 |_,_,_=>none
theorem NF(i:T.Ok P)(l:R p h w){src dst:TypeId}{x:V}{x':Value}(r:Aa p x x'){v:V}{h':H}(f:I6 T h src dst x=some (v,h')):
  ∃v' p' w',(convert src dst x').run P w=.ok v' w'/\Aa p' v v'/\Ext p h w p' h' w':=by
 unfold I6 at f;split at f
 case h_2=>cases f
 rename_i e s y u;split at f
 case h_2=>cases f
 rename_i q;cases f;subst r;have d:=run_bytes_of_string (P:=P) w src dst e (bytesOf s) (i.und _ _ y) (i.und _ _ u)<|i.und _ _ q;generalize z:grownCap w (bytesOf s).size 0 e=c at d;have j:s.length<=c:=by
  grind [AD,grownCap,Question.cut]
 have k:(bytesRow (bytesOf s) c).size=c:=by
  grind [bytesRow,bytesOf,AD]
 have g:=Ext.drew l<|w.drawn+1;have t:=Ext.push (n:=c) g.rel (o:=.cells (s.map fun b=>.int .u8<|.ofNat b.toNat) e (0,0)) (x:=.cells (bytesRow (bytesOf s) c) e ((bytesRow (bytesOf s) c).size,(bytesRow (bytesOf s) c).size+1)) (by
  refine⟨_,_,rfl,k,by grind,?_,a8⟩;refine Ab.Ug<|Ab.mk ?_ ?_
  ·grind
  ·grind [bytesRow,bytesOf,Aa])
 refine⟨_,_,_,d,?_,g.trans t⟩;refine⟨w.heap.size,c,c,by rw[<-l.len];simp,by rfl,Nat.le_refl _,j,a8,a8⟩
def BN(T:AF)(h:H)(s d:TypeId)(x:V):Option V:=
 match T.und s,T.und d,x with
 |some (.pointer _),some .unsafePointer,.nilp=>some .nilp
 |some .unsafePointer,some<|.pointer _,.nilp=>some .nilp
 |some (.pointer t),some .unsafePointer,.ptr b off=>
  match T.inf t,h.get b with
  |some i,some (.cells cs _ _)=>bif Zf 0 i.size&&Zf off cs.length then some (.ptr b off)else none
  |_,_=>none
 |some .unsafePointer,some<|.pointer u,.ptr b off=>
  match T.inf u,h.get b with
  |some i,some (.cells cs e _)=>bif Zf 0 i.size&&Zx i.size cs.length&&Zm e u&&Zm off 0 then some (.ptr b 0)else none
  |_,_=>none
 |_,_,_=>none
theorem KI(e:R p h w){b:Nat}{cs:List V}{t:TypeId}{fz:Nat×Nat}(d:h.get b=some (.cells cs t fz)):
  ∃r n,p[b]?=some (r,n)/\w.shape? r=some (t,n)/\cs.length<=n:=by
 obtain⟨r,n,x,j,g,c,fz',rfl,f,i,_⟩:=e.obj b _ d;grind [World.shape?]
theorem N5{u:TypeId}(c:P.cellsOf u≠0)(k:Nat)(d:1<=k):liesAt P P.depth u k 0 u 1=true:=by
 have b:P.depth=(2*(P.types.size+Made.depth)+1)+1:=rfl;rw[b];simp only[liesAt,Zk];rw[b];simp[rowAt,c,d,sameLayout]
theorem RL(f:T.Ok P)(D:R p h w){s d:TypeId}{x:V}{x':Value}(o:Aa p x x'){v:V}(c:BN T h s d x=some v):
  ∃v',(convert s d x').run P w=.ok v' w/\Aa p v v':=by
 unfold BN at c;split at c
 case h_5=>cases c
 case h_1=>
  rename_i k g;subst o;cases c;refine⟨.pointer none,?_,by rfl⟩;simp[convert,Ac f k,Ac f g,Conv.unsafePointer]
 case h_2=>
  rename_i k g;subst o;cases c;refine⟨.pointer none,?_,by rfl⟩;simp[convert,Ac f k,Ac f g,Conv.unsafePointer]
 case h_3=>
  rename_i t b off k g;split at c
  case h_2=>cases c
  rename_i i cs e fz y q;cases l:(Zf 0 i.size&&Zf off cs.length)with
  |false=>grind
  |true=>
   rw[l]at c;cases c;simp only[Zc,Zq]at l;obtain⟨j,z,B,E,_⟩:=f.inf t i y;obtain⟨r,n,k1,k2,k3⟩:=KI D q;obtain⟨r',n',q1,rfl⟩:=o;rw[k1]at q1;cases q1;refine⟨_,Lib.run_to_unsafe w ⟨r,off,none⟩ (f.und _ _ k) (f.und _ _ g) B a8 k2 ae,?_⟩;simp_all [Aa]
 case h_4=>
  rename_i u b off k g;split at c
  case h_2=>cases c
  rename_i i cs e fz y q;cases l:(Zf 0 i.size&&Zx i.size cs.length&&Zm e u&&Zm off 0)with
  |false=>grind
  |true=>
   rw[l]at c;cases c;simp only[Zc,Zq,ZL,Al,w5]at l;obtain⟨⟨⟨c1,I⟩,rfl⟩,rfl⟩:=l;obtain⟨j,z,B,E,_⟩:=f.inf e i y;obtain⟨r,n,k1,k2,k3⟩:=KI D q;obtain⟨r',n',q1,rfl⟩:=o;rw[k1]at q1;cases q1;have A:P.cellsOf e=i.size:=by grind [Program.cellsOf]
   have G:1<=n/P.cellsOf e:=by rw[A];exact Nat.div_pos a8 c1
   refine⟨_,Lib.run_from_unsafe w ⟨r,0,none⟩ (f.und _ _ k) (f.und _ _ g) B k2 (N5 a8 _ G),?_⟩;simp_all [Aa]
def GC(args:List V):Option V:=
 match args with
 |[.nils]=>some .nilp
 |[.sl b off _ cap _]=>bif Zf 0 cap then some (.ptr b off)else none
 |_=>none
theorem NV{ts:Array TypeId}{t:TypeId}{args:List V}{args':Array Value}(e:Ab p args args'.toList){v:V}(d:GC args=some v):
  ∃v',(Builtin.unsafeSliceData_ ts t args').run P w=.ok v' w/\Aa p v v':=by
 unfold GC at d;split at d
 case h_3=>cases d
 case h_1=>
  cases d;obtain⟨x,i,f⟩:=e.one;have:args'= #[x]:=ae;simp_all [Aa,Lib.run_unsafeSliceData_nil]
 case h_2=>
  rename_i b off len cap o;cases g:Zf 0 cap with
  |false=>grind
  |true=>
   rw[g]at d;cases d;rw[Zq]at g;obtain⟨x,i,f⟩:=e.one;have:args'= #[x]:=ae;subst this;obtain⟨r,n,c,g1,rfl,g2,g3,_⟩:=f;exact⟨_,Lib.run_unsafeSliceData_row w ts t _ len c a8,by simp_all [Aa]⟩
def JI:V->Option UInt8
 | .int .u8 (.ofNat n)=>bif Zf n 256 then some (UInt8.ofNat n)else none
 |_=>none
def Dh:List V->Option Y
 |[]=>some []
 |v::vs=>
  match JI v,Dh vs with
  |some b,some c=>some (b::c)
  |_,_=>none
theorem OU{c:V}{b:UInt8}(h:JI c=some b):c=.int .u8 (b.toNat:Int):=by
 unfold JI at h;split at h
 case h_2=>cases h
 rename_i n;cases d:Zf n 256 with
 |false=>grind
 |true=>
  rw[Zq]at d;have:(UInt8.ofNat n).toNat=n:=by simp;omega
  grind
theorem EU:∀ {cs:List V} {l:Y},Dh cs=some l->cs=l.map fun b=>V.int .u8 (b.toNat:Int)
 |[],l,d=>by cases d;rfl
 |c::cs,l,d=>by
  unfold Dh at d;split at d
  case h_2=>cases d
  rename_i b g f e;cases d;rw[OU f,EU e];rfl
def Ks(T:AF)(h:H)(ts:List TypeId)(args:List V):Option (V×H):=
 match ts,args with
 |[c,_],[.ptr b 0,.int .i64<|.ofNat n]=>
  match T.und c,h.get b with
  |some (.pointer e),some (.cells cs d fz)=>
   match T.inf e,Dh (cs.take n)with
   |some i,some l=>bif Zm i.size 1&&Zm e d&&Zf 0 n&&Zx n cs.length&&Zx n 9223372036854775807&&Zx fz.2 fz.1 then some (.str l,h.kill b)else none
   |_,_=>none
  |_,_=>none
 |_,_=>none
theorem Ext.gone{w':World}(d:R p h w){b r n:Nat}{o:O}{x':Obj}(j:h.get b=some o)(q:p[b]?=some (r,n))
  (u:w'.heap=w.heap.setIfInBounds r x') (A:w'.os=w.os) (x:w'.output=w.output) (B:w'.tape=w.tape) (Q:∀cs t fz,o=.cells cs t fz->¬Lk n fz) (D:w.drawn<=w'.drawn:=by exact Nat.le_refl _):Ext p h w p (h.kill b) w':=by
 refine⟨(by simp),⟨d.len,fun c l f=>?_,(d.kill b).inj⟩,by simp[u],fun s I N=>?_,fun s L=>?_,A,x,B,fun s I J=>?_,D⟩
 ·rw[H.Bp]at f;by_cases e:c=b
  ·grind
  ·rw[w9 e]at f;obtain⟨s,m,y,z,K,M⟩:=d.obj c l f;have i:r≠s:=fun g=>e<|d.inj c b l o s m n f j z<|g▸q
   grind
 ·grind [Im]
 ·grind [H.Bp,Im]
 ·obtain⟨c,m,cs,t,fz,E,k,G⟩:=J;by_cases e:c=b
  ·grind
  ·have i:r≠s:=fun g=>e<|d.inj c b _ o s m n E j k<|g▸q
   refine⟨by grind,.inl ⟨c,m,cs,t,fz,by simp_all,k,G⟩⟩
theorem KV{w:World}{r n:Nat}{c:Array Value}{e:TypeId}{fz:Nat×Nat}(b:w.heap[r]?=some (.cells c e fz))(h0:n≠0):
  ∃fz',(w.freeze ⟨r,0,none⟩ n).heap=w.heap.setIfInBounds r (.cells c e fz'):=by
 refine⟨if fz.1==fz.2 then(0,0+n)else(min fz.1 0,max fz.2<|0+n),?_⟩;simp_all [World.freeze,HW]
theorem P7(I:T.Ok P)(M:R p h w){ts:Array TypeId}{t:TypeId}{args:List V}{args':Array Value}(Y:Ab p args args'.toList){v:V}{h':H}(f:Ks T h ts.toList args=some (v,h')):
  ∃v' w',(Builtin.unsafeString_ ts t args').run P w=.ok v' w'/\Aa p v v'/\Ext p h w p h' w':=by
 unfold Ks at f;split at f
 case h_2=>cases f
 rename_i J K b n o;have o:ts= #[J,K]:=ae;subst o;split at f
 case h_2=>cases f
 rename_i e cs O fz Q G;split at f
 case h_2=>cases f
 rename_i i l U hl;cases L:(Zm i.size 1&&Zm e O&&Zf 0 n&&Zx n cs.length&&Zx n 9223372036854775807&&Zx fz.2 fz.1)with
 |false=>grind
 |true=>
  rw[L]at f;cases f;simp only[Zc,Zq,ZL,Al,w5]at L;obtain⟨x,y,A,u,N⟩:=Y.two;have:args'= #[x,y]:=ae;subst this;obtain⟨r,m,u,rfl⟩:=u;subst N;obtain⟨r',m',ob,k1,k2,c,fz',rfl,k4,k5,k6,k7⟩:=M.obj b _ G;rw[u]at k1;cases k1;obtain⟨j,z,j1,j2,_⟩:=I.inf e i U;have E:P.cellsOf e=1:=by grind [Program.cellsOf]
  have s:=EU hl;have k:l.length=n:=by
   have:=we List.length s;grind
  have D:w.shape? r=some (e,m):=by grind [World.shape?]
  have g:∀j x,l[j]?=some x->w.cell? ((⟨r,0,none⟩:Addr).add j)=some (.int .u8 x.toNat):=by
   intro j x hx;have W:cs[j]?=some (.int .u8 (x.toNat:Int)):=by
    have:=we (·[j]?) s;grind
   obtain⟨v,hv,Z⟩:=k6.get W rfl;grind [Aa,Addr.Fm,World.cell?]
  have q:=Lib.run_unsafeString_row w J K t e (I.und _ _ Q) E r m D l ae a8 a8 g;obtain⟨X,B⟩:=KV (n:=l.length) k2 a8;refine⟨.string<|bytesOf l,w.freeze ⟨r,0,none⟩ l.length,?_,by rfl,?_⟩
  ·rw[<-k];exact q
  ·have d:(w.freeze ⟨r,0,none⟩ l.length).os=w.os/\(w.freeze ⟨r,0,none⟩ l.length).output=w.output/\(w.freeze ⟨r,0,none⟩ l.length).tape=w.tape/\(w.freeze ⟨r,0,none⟩ l.length).drawn=w.drawn:=by
    unfold World.freeze;grind
   exact Ext.gone M G u B d.1 d.2.1 d.2.2.1 (by
    grind [Lk])<|Nat.le_of_eq d.2.2.2.symm
end
mutual
def cv:Value->Option V
 | .bool b=>some<|.bool b
 | .int k n=>some<|.int k n
 | .string s=>some<|.str s.data.toList
 | .pointer none=>some .nilp
 | .slice none 0 0=>some .nils
 | .map none=>some .nilm
 | .nilFunc=>some .nilf
 | .nilIface=>some .nili
 | .func f ⟨[]⟩ ⟨[]⟩=>some<|.fn f [] []
 | .agg ⟨cs⟩=>(RX cs).map .agg
 | .tuple ⟨cs⟩=>(RX cs).map .tup
 |_=>none
def RX:List Value->Option (List V)
 |[]=>some []
 |v::vs=>match cv v,RX vs with
  |some x,some b=>some (x::b)
  |_,_=>none
end
mutual
theorem L0(p:Pl):∀ {v:Value} {x:V},cv v=some x->Aa p x v
 | .bool b,x,h=>by grind [cv,Aa]
 | .int k n,x,h=>by grind [cv,Aa]
 | .string s,x,h=>by simp[cv]at h;subst h;rfl
 | .pointer none,x,h=>by grind [cv,Aa]
 | .pointer (some a),x,h=>by simp[cv]at h
 | .slice none 0 0,x,h=>by grind [cv,Aa]
 | .slice none 0 (_+1),x,h=>by simp[cv]at h
 | .slice none (_+1) _,x,h=>by simp[cv]at h
 | .slice (some a) _ _,x,h=>by simp[cv]at h
 | .map none,x,h=>by grind [cv,Aa]
 | .map (some a),x,h=>by simp[cv]at h
 | .nilFunc,x,h=>by grind [cv,Aa]
 | .nilIface,x,h=>by grind [cv,Aa]
 | .func f ⟨[]⟩ ⟨[]⟩,x,h=>by simp[cv]at h;subst h;simp[Aa]
 | .func f ⟨_::_⟩ _,x,h=>by simp[cv]at h
 | .func f ⟨[]⟩ ⟨_::_⟩,x,h=>by simp[cv]at h
 | .agg ⟨cs⟩,x,h=>by
  simp only[cv,Zg]at h;obtain⟨d,c,rfl⟩:=h;exact⟨_,rfl,JM p c⟩
 | .tuple ⟨cs⟩,x,h=>by
  simp only[cv,Zg]at h;obtain⟨d,c,rfl⟩:=h;exact⟨_,rfl,JM p c⟩
 | .float _ _,x,h=>by simp[cv]at h
 | .complex _ _ _,x,h=>by simp[cv]at h
 | .chan _,x,h=>by simp[cv]at h
 | .iface _ _,x,h=>by simp[cv]at h
theorem JM(p:Pl):∀ {vs:List Value} {b:List V},RX vs=some b->Ab p b vs
 |[],b,h=>by simp_all [RX]
 |v::vs,b,h=>by
  unfold RX at h;split at h
  case h_2=>cases h
  rename_i x c d e;cases h;exact(Ap ..).2 ⟨L0 p d,JM p e⟩
end
structure Fn where
 ntmps:Nat
 results:Array ResultVar
 body:Code
 cert:Bool
structure Ctx where
 T:AF
 ng:Nat
 fn:FuncId->Option Fn
 prim:FuncId->Option (List V->H->Option (V×H))
 spec:FuncId->Option (List V->H->Option (V×H))
 mg:Bool
def Gl(_:Ctx)(p:Pl):Prop:=Gp p
theorem Gl.ext{C:Ctx}{p p':Pl}{h h':H}{w w':World}(b:Gl C p)(e:Ext p h w p' h' w'):Gl C p':=by
 obtain⟨q,rfl⟩:=e.pre;exact Gp.app b q
def ev(_:Ctx)(fr:Fr):Operand->Option V
 | .tmp t=>some<|fr.get t
 | .const v=>cv v
 | .global g=>bif TT g CG then some (.ptr g 0)else none
 | .func f=>some<|.fn (.func f) [] []
theorem Ag{C:Ctx}{p:Pl}{fr:Fr}{a:Act}(d:Gl C p)(i:AS p fr a){x:Operand}{v:V}(b:ev C fr x=some v):Aa p v (a.eval x):=by
 cases x with
 |tmp t=>grind [ev,Act.eval,AS]
 |const v=>exact L0 p b
 |global g=>
  simp only[ev]at b;cases c:TT g CG with
  |true=>
   rw[c]at b;simp only[wb,Ze]at b;subst b;obtain⟨o,e⟩:=Mt c;exact⟨g,_,d _ e,rfl⟩
  |false=>grind
 |func f=>simp only[ev,Ze]at b;subst b;simp[Aa,Act.eval]
def JW(C:Ctx)(fr:Fr):List Operand->Option (List V)
 |[]=>some []
 |x::b=>match ev C fr x,JW C fr b with
  |some v,some vs=>some (v::vs)
  |_,_=>none
theorem Ee{C:Ctx}{p:Pl}{fr:Fr}{a:Act}(c:Gl C p)(d:AS p fr a):∀ {b:List Operand} {vs:List V},JW C fr b=some vs->Ab p vs (b.map a.eval)
 |[],vs,h=>by simp_all [JW]
 |x::b,vs,h=>by
  unfold JW at h;split at h
  case h_2=>cases h
  rename_i v g e f;cases h;exact(Ap ..).2 ⟨Ag c d e,Ee c d f⟩
def KZ(C:Ctx)(fr:Fr):Option Operand->Option (Option V)
 |none=>some none
 |some x=>(ev C fr x).map some
theorem GA{C:Ctx}{p:Pl}{fr:Fr}{a:Act}(c:Gl C p)(e:AS p fr a){x:Option Operand}{v:Option V}(b:KZ C fr x=some v):C0 p v (x.map a.eval):=by
 cases x with
 |none=>simp[KZ]at b;subst b;rfl
 |some x=>
  simp only[KZ,Zg]at b;obtain⟨u,d,rfl⟩:=b;exact⟨_,rfl,Ag c e d⟩
def Lq(C:Ctx)(fr:Fr):List (Nat×Operand)->Option (List<|Nat×V)
 |[]=>some []
 |(i,x)::b=>match ev C fr x,Lq C fr b with
  |some v,some vs=>some ((i,v)::vs)
  |_,_=>none
theorem Gv{C:Ctx}{p:Pl}{fr:Fr}{a:Act}(c:Gl C p)(d:AS p fr a):∀ {b:List (Nat×Operand)} {vs:List (Nat×V)},Lq C fr b=some vs->JO p vs (b.map fun(i,x)=>(i,a.eval x))
 |[],vs,h=>by simp[Lq]at h;subst h;exact .nil
 |(i,x)::b,vs,h=>by
  unfold Lq at h;split at h
  case h_2=>cases h
  rename_i v f g e;cases h;exact .cons (Ag c d g)<|Gv c d e
inductive OR where
 |val (v:V) (h:H)
 |skip (h:H)
 |enter (f:FuncId) (args:List V)
 |round (b:Nat) (l:LS) (fr:Fr)
 |alts (l:List (V×H))
def Fr.Nl(f:Fr)(t:Nat)(v:V):Fr:=bif Zf t f.n then⟨f.n,f.m.set t<|some v⟩else f
def CP:List Tmp->List V->Fr->Fr
 |t::ts,v::vs,f=>CP ts vs<|f.Nl t v
 |_,_,f=>f
theorem BP.Nl{p:Pl}{f:Fr}{tmps:Array Value}(c:BP p f tmps){v:V}{v':Value}(g:Aa p v v')(t:Nat):BP p (f.Nl t v) (tmps.setIfInBounds t v'):=by
 unfold Fr.Nl;simp only[Dn];by_cases b:t<f.n
 ·simp only[b,decide_true,wb];refine⟨by simp[c.1],fun s=>?_⟩;have d:t<tmps.size:=c.1▸b;by_cases e:s=t
  ·simp_all [Fr.get]
  ·have:=c.2 s;simp only[Fr.get,PM.Bd,w9 e]at this ⊢;rw[Zi,Zy a8, <-Zi];omega
 ·grind [BP]
theorem BP.CP{p:Pl}:∀ {ts:List Tmp} {vs:List V} {b:List Value},Ab p vs b->∀ {f:Fr} {tmps:Array Value},BP p f tmps->BP p (CP ts vs f) ((ts.zip b).foldl (fun tmps (t,a)=>tmps.setIfInBounds t a) tmps)
 |[],vs,b,_,f,tmps,c=>by simpa [Det.CP]using c
 |t::ts,[],b,d,f,tmps,c=>by simp_all [Det.CP]
 |t::ts,v::vs,b,d,f,tmps,c=>by
  obtain⟨u,i,rfl,g,e⟩:=d;exact BP.CP e<|c.Nl g t
def Av(h:H):Option V->Option OR
 |some v=>some<|.val v h
 |none=>none
def B9:Option (V×H)->Option OR
 |some (v,h)=>some<|.val v h
 |none=>none
def Pb:Option H->Option OR
 |some h=>some<|.skip h
 |none=>none
def BZ(C:Ctx)(h:H)(b:Builtin)(ts:Array TypeId)(args:List V):Option OR:=
 match b with
 | .len=>Av h<|Cp C.T h ts args
 | .append=>B9<|CD C.T h ts args
 | .copy=>B9<|Py C.T h ts args
 | .max=>Av h<|Cz Pa args
 | .min=>Av h<|Cz Ru args
 | .cap=>Av h<|S2 C.T ts args
 | .delete=>B9<|EL C.T h ts args
 | .clear=>B9<|Cq C.T h ts args
 | .unsafeSliceData=>Av h<|GC args
 | .unsafeString=>B9<|Ks C.T h ts.toList args
 |_=>none
def Dk(C:Ctx)(h:H)(f:V)(args:List V):Option OR:=
 match f with
 | .fn (.func g) first captured=>
  match C.prim g with
  |some q=>B9<|q (first++args++captured) h
  |none=>match C.fn g with
   |some _=>some<|.enter g<|first++args++captured
   |none=>none
 | .yld b=>match h.get b with
  |some (.loop l)=>bif Zm args.length l.ps.size then some (.round b l<|CP l.ps.toList args l.fr)else none
  |_=>none
 |_=>none
def Gy(C:Ctx)(h:H)(x:V)(name:String)(args:List V):Option OR:=
 match x with
 | .iface t v=>match C.T.mth t name with
  |some g=>Dk C h (.fn (.func g) [] []) (v::args)
  |none=>none
 |_=>none
def Mw:Operand->Bool
 | .const _=>true
 |_=>false
def QU(T:AF)(op:BinOp)(t:TypeId)(x y:Operand)(v u:V):Option V:=
 match op,v,u,T.und t with
 | .eql,.nili,.nili,some (.interface _)=>bif Mw x||Mw y then some (.bool true)else none
 | .neq,.nili,.nili,some (.interface _)=>bif Mw x||Mw y then some (.bool false)else none
 |_,_,_,_=>none
def Ew(T:AF)(op:BinOp)(t:TypeId)(x y:Operand)(v u:V):Option V:=
 match QU T op t x y v u with
 |some r=>some r
 |none=>EA T op t v u
def CI(C:Ctx)(fr:Fr)(h:H)(o:Oper):Option OR:=
 let ρ:=ev C fr
 match o.op with
 | .move x| .assign x=>Av h<|ρ x
 | .pick c a b=>match ρ c with
  |some (.bool t)=>Av h<|if t then ρ a else ρ b
  |_=>none
 | .alloc t=>B9<|CF C.T h t
 | .box t x=>B9<|(ρ x).map fun v=>NJ h t v
 | .build t e=>match Lq C fr e.toList with
  |some ps=>Av h<|EB C.T t ps
  |none=>none
 | .buildSlice t n e=>match Lq C fr e.toList with
  |some ps=>B9<|BX C.T h t n ps
  |none=>none
 | .load t x=>match ρ x with
  |some v=>Av h<|B6 C.T h t v
  |none=>none
 | .store t x y=>match ρ x,ρ y with
  |some v,some u=>Pb<|Db C.T h t v u
  |_,_=>none
 | .nilCheck x=>match ρ x with
  |some (.ptr b i)=>Av h<|some<|.ptr b i
  |some (.iface t v)=>Av h<|some<|.iface t v
  |_=>none
 | .binOp op t x y _=>match ρ x,ρ y with
  |some v,some u=>Av h<|Ew C.T op t x y v u
  |_,_=>none
 | .unOp op _ x=>match ρ x with
  |some v=>Av h<|Uf op v
  |none=>none
 | .convert s d x=>match ρ x with
  |some v=>Av h<|Cn C.T h s d v
  |none=>none
 | .makeInterface t x=>match ρ x,C.T.und t with
  |some v,some d=>match d with
   | .interface _=>none
   |_=>Av h<|some<|.iface t v
  |_,_=>none
 | .makeFunc f first captured=>match JW C fr first.toList,JW C fr captured.toList with
  |some a,some b=>Av h<|some<|.fn f a b
  |_,_=>none
 | .makeMap _ r=>match KZ C fr r with
  |some v=>B9<|Dz h v
  |none=>none
 | .makeSlice t l c=>match ρ l,ρ c with
  |some v,some u=>B9<|HF C.T h t v u
  |_,_=>none
 | .slice t x z q mx=>match ρ x,KZ C fr z,KZ C fr q,KZ C fr mx with
  |some v,some l,some r,some m=>Av h<|Bu C.T t v l r m
  |_,_,_,_=>none
 | .fieldAddr t x f=>match ρ x with
  |some v=>Av h<|EG C.T t v f
  |none=>none
 | .field t x f=>match ρ x with
  |some v=>Av h<|Ez C.T t v f
  |none=>none
 | .indexAddr t x i=>match ρ x,ρ i with
  |some v,some u=>Av h<|B7 C.T t v u
  |_,_=>none
 | .index t x i=>match ρ x,ρ i with
  |some v,some u=>Av h<|DY C.T t v u
  |_,_=>none
 | .lookup t x i ok=>match ρ x,ρ i with
  |some v,some u=>Av h<|BU C.T h t v u ok
  |_,_=>none
 | .mapUpdate t m k x| .insert t m k x=>match ρ m,ρ k,ρ x with
  |some a,some b,some c=>Pb<|Dc C.T h t a b c
  |_,_,_=>none
 | .range t x=>match ρ x with
  |some v=>B9<|C3 C.T h t v
  |none=>none
 | .next x j=>match ρ x with
  |some v=>bif j then B9 (Gb h v j)else(IX h v j).map .alts
  |none=>none
 | .entry x=>match ρ x with
  |some v=>Av h<|Jr h v
  |none=>none
 | .extract x i=>match ρ x with
  |some v=>Av h<|CV v i
  |none=>none
 | .call c=>match c.callee,JW C fr c.args.toList with
  | .builtin b,some args=>BZ C h b c.argTypes args
  | .value f,some args=>match ρ f with
   |some g=>Dk C h g args
   |none=>none
  | .invoke x A,some args=>match ρ x with
   |some v=>Gy C h v A args
   |none=>none
  |_,_=>none
 |_=>none
abbrev Cv:=Ctx->Fr->H->Option OR
def Sy(b:Operand):Cv:=fun C fr h=>Av h<|ev C fr b
def O3(b:Operand):Cv:=fun C fr h=>Av h<|ev C fr b
def S8(b:Operand)(a1:Operand)(a2:Operand):Cv:=fun C fr h=>match ev C fr b with|some (.bool t)=>Av h (if t then ev C fr a1 else ev C fr a2)|_=>none
def RE(b:TypeId):Cv:=fun C _fr h=>B9<|CF C.T h b
def Tv(b:TypeId)(a1:Operand):Cv:=fun C fr h=>B9<|(ev C fr a1).map fun v=>NJ h b v
def RI(b:TypeId)(a1:Array (Nat×Operand)):Cv:=fun C fr h=>match Lq C fr a1.toList with|some ps=>Av h (EB C.T b ps)|none=>none
def Jw(b:TypeId)(a1:Nat)(a2:Array (Nat×Operand)):Cv:=fun C fr h=>match Lq C fr a2.toList with|some ps=>B9 (BX C.T h b a1 ps)|none=>none
def Pz(d:TypeId)(a1:Operand)(a2:Operand)(a3:Operand):Cv:=fun C fr h=>match ev C fr a1,ev C fr a2,ev C fr a3 with|some a,some b,some c=>Pb (Dc C.T h d a b c)|_,_,_=>none
def Sr(b:TypeId)(a1:Operand):Cv:=fun C fr h=>match ev C fr a1 with|some v=>Av h (B6 C.T h b v)|none=>none
def Rv(b:TypeId)(a1:Operand)(a2:Operand):Cv:=fun C fr h=>match ev C fr a1,ev C fr a2 with|some v,some u=>Pb (Db C.T h b v u)|_,_=>none
def Q7(_a0:Nat):Cv:=fun _ _ _=>none
def Rh(_a0:Nat):Cv:=fun _ _ _=>none
def Me(c:Operand):Cv:=fun C fr h=>match ev C fr c with|some (.ptr b i)=>Av h (some<|.ptr b i)|some (.iface t v)=>Av h (some<|.iface t v)|_=>none
def QV(b:BinOp)(a1:TypeId)(a2:Operand)(a3:Operand)(_a4:TypeId):Cv:=fun C fr h=>match ev C fr a2,ev C fr a3 with|some v,some u=>Av h (Ew C.T b a1 a2 a3 v u)|_,_=>none
def SD(b:UnOp)(_a1:TypeId)(a2:Operand):Cv:=fun C fr h=>match ev C fr a2 with|some v=>Av h (Uf b v)|none=>none
def N1(b:TypeId)(a1:TypeId)(a2:Operand):Cv:=fun C fr h=>match ev C fr a2 with|some v=>Av h (Cn C.T h b a1 v)|none=>none
def Dr(_a0:TypeId)(_a1:Operand):Cv:=fun _ _ _=>none
def Ge(b:TypeId)(a1:Operand):Cv:=fun C fr h=>match ev C fr a1,C.T.und b with|some v,some d=>(match d with| .interface _=>none|_=>Av h<|some<|.iface b v)|_,_=>none
def Ly(c:Go.Fn)(a1:Array Operand)(a2:Array Operand):Cv:=fun C fr h=>match JW C fr a1.toList,JW C fr a2.toList with|some a,some b=>Av h (some<|.fn c a b)|_,_=>none
def N3(_a0:TypeId)(a1:Option Operand):Cv:=fun C fr h=>match KZ C fr a1 with|some v=>B9 (Dz h v)|none=>none
def Li(_a0:TypeId)(_a1:Operand):Cv:=fun _ _ _=>none
def Kd(b:TypeId)(a1:Operand)(a2:Operand):Cv:=fun C fr h=>match ev C fr a1,ev C fr a2 with|some v,some u=>B9 (HF C.T h b v u)|_,_=>none
def Q5(b:TypeId)(a1:Operand)(a2:Option Operand)(a3:Option Operand)(a4:Option Operand):Cv:=fun C fr h=>match ev C fr a1,KZ C fr a2,KZ C fr a3,KZ C fr a4 with|some v,some l,some r,some m=>Av h (Bu C.T b v l r m)|_,_,_,_=>none
def Ko(b:TypeId)(a1:Operand)(a2:Nat):Cv:=fun C fr h=>match ev C fr a1 with|some v=>Av h (EG C.T b v a2)|none=>none
def Q1(b:TypeId)(a1:Operand)(a2:Nat):Cv:=fun C fr h=>match ev C fr a1 with|some v=>Av h (Ez C.T b v a2)|none=>none
def Kk(b:TypeId)(a1:Operand)(a2:Operand):Cv:=fun C fr h=>match ev C fr a1,ev C fr a2 with|some v,some u=>Av h (B7 C.T b v u)|_,_=>none
def Q3(b:TypeId)(a1:Operand)(a2:Operand):Cv:=fun C fr h=>match ev C fr a1,ev C fr a2 with|some v,some u=>Av h (DY C.T b v u)|_,_=>none
def Po(b:TypeId)(a1:Operand)(a2:Operand)(a3:Bool):Cv:=fun C fr h=>match ev C fr a1,ev C fr a2 with|some v,some u=>Av h (BU C.T h b v u a3)|_,_=>none
def KK(d:TypeId)(a1:Operand)(a2:Operand)(a3:Operand):Cv:=fun C fr h=>match ev C fr a1,ev C fr a2,ev C fr a3 with|some a,some b,some c=>Pb (Dc C.T h d a b c)|_,_,_=>none
def LI(_a0:TypeId)(_a1:Operand)(_a2:Operand):Cv:=fun _ _ _=>none
def I5(_a0:TypeId)(_a1:Operand)(_a2:Operand)(_a3:Operand):Cv:=fun _ _ _=>none
def QY(b:TypeId)(a1:Operand):Cv:=fun C fr h=>match ev C fr a1 with|some v=>B9 (C3 C.T h b v)|none=>none
def S7(b:Operand)(a1:Bool):Cv:=fun C fr h=>match ev C fr b with|some v=>bif a1 then B9 (Gb h v a1)else(IX h v a1).map .alts|none=>none
def QM(b:Operand):Cv:=fun C fr h=>match ev C fr b with|some v=>Av h (Jr h v)|none=>none
def JB(_a0:Operand)(_a1:TypeId)(_a2:TypeId)(_a3:Bool):Cv:=fun _ _ _=>none
def NL(b:Operand)(a1:Nat):Cv:=fun C fr h=>match ev C fr b with|some v=>Av h (CV v a1)|none=>none
def SE(c:Call):Cv:=fun C fr h=>match c.callee,JW C fr c.args.toList with| .builtin b,some args=>BZ C h b c.argTypes args| .value f,some args=>(match ev C fr f with|some g=>Dk C h g args|none=>none)| .invoke x d,some args=>(match ev C fr x with|some v=>Gy C h v d args|none=>none)|_,_=>none
def UH(_a0:Call):Cv:=fun _ _ _=>none
def QL(_a0:Call):Cv:=fun _ _ _=>none
def Ry(_a0:Operand):Cv:=fun _ _ _=>none
def SG(_a0:Operand)(_a1:Operand):Cv:=fun _ _ _=>none
def Sz(_a0:TypeId)(_a1:Operand)(_a2:Bool):Cv:=fun _ _ _=>none
def Pu(_a0:Array SelectCase)(_a1:Bool):Cv:=fun _ _ _=>none
def U3(o:Op):Cv:=@Op.casesOn (fun _=>Cv) o Sy O3 S8 RE Tv RI Jw Pz Sr Rv Q7 Rh Me QV SD N1 Dr Ge Ly N3 Li Kd Q5 Ko Q1 Kk Q3 Po KK LI I5 QY S7 QM JB NL SE UH QL Ry SG Sz Pu
def CM(C:Ctx)(fr:Fr)(h:H)(o:Oper):Option OR:=U3 o.op C fr h
theorem A3(C:Ctx)(fr:Fr)(h:H)(o:Oper):CM C fr h o=CI C fr h o:=by
 unfold CM CI;cases o.op<;>rfl
def Du(C:Ctx)(fr:Fr)(h:H)(o:Oper):Option OR:=
 match CM C fr h o with
 |some r=>some r
 |none=>match o.op with
  | .convert s d x=>match ev C fr x with
   |some v=>match BN C.T h s d v with
    |some u=>some<|.val u h
    |none=>B9<|I6 C.T h s d v
   |none=>none
  |_=>none
structure Ctx.Ok(C:Ctx)(P:Program):Prop where
 T:C.T.Ok P
 fn : ∀ f i, C.fn f = some i -> ∃ fn, P.funcs[f]? = some fn /\ fn.name ≠ "runtime.NumGoroutine" /\ fn.body = some i.body /\ fn.ntmps = i.ntmps /\ fn.results = i.results
 prim:∀f q,C.prim f=some q->∀(p:Pl) (h:H) (w:World) (args:List V) (args':Array Value) v h',R p h w->Gl C p->Ab p args args'.toList->q args h=some (v,h')->
  ∃v' p' w',(callFunc f args').run P w=.ok (.value v') w'/\Aa p' v v'/\Ext p h w p' h' w'
 spec:∀f q,C.spec f=some q->∀(p:Pl) (h:H) (w:World) (args:List V) (args':Array Value) v h',R p h w->Gl C p->Ab p args args'.toList->q args h=some (v,h')->
  Calls P f args' w fun e w'=>∃v' p',e=.returned v'/\Aa p' v v'/\Ext p h w p' h' w'
def Ie(p:Pl)(h:H)(w:World):OR->Result Next->Prop
 | .val v h',r=>∃v' p' w',r=.ok (.value v') w'/\Aa p' v v'/\Ext p h w p' h' w'
 | .skip h',r=>∃p' w',r=.ok .skip w'/\Ext p h w p' h' w'
 | .enter f args,r=>∃args',r=.ok (.enter f args') w/\Ab p args args'.toList
 | .round b l fr,r=>∃k n f tmps,p[b]?=some (k,n)/\h.get b=some (.loop l)/\r=.ok (.round k f tmps l.asg l.body) w/\BP p fr tmps
 | .alts l,r=>∃v h' v' p' w',(v,h')∈l/\r=.ok (.value v') w'/\Aa p' v v'/\Ext p h w p' h' w'
section
variable {C:Ctx}{P:Program}{p:Pl}{h:H}{w:World}{fr:Fr}{a:Act}
theorem AA{s:Sem Value}{v:Option V}{r:OR}(e:R p h w)(b:Av h v=some r)(d:∀x,v=some x->∃v',s.run P w=.ok v' w/\Aa p x v'):Ie p h w r ((do pure (.value<|<-s):Sem Next).run P w):=by
 cases v with
 |none=>simp[Av]at b
 |some x=>
  simp only[Av,Ze]at b;subst b;obtain⟨v',c,f⟩:=d x rfl;exact⟨v',p,w,by simp[c],f,Zo e⟩
theorem Bg{s:Sem Value}{v:Option (V×H)}{r:OR}(b:B9 v=some r)(c:∀x h',v=some (x,h')->∃v' p' w',s.run P w=.ok v' w'/\Aa p' x v'/\Ext p h w p' h' w'):Ie p h w r ((do pure (.value<|<-s):Sem Next).run P w):=by
 match v,b,c with
 |some (x,h'),b,c=>
  simp only[B9,Ze]at b;subst b;obtain⟨v',p',w',e,f,d⟩:=c x h' rfl;exact⟨v',p',w',by simp[e],f,d⟩
 |none,b,_=>simp[B9]at b
theorem MC{s:Sem Unit}{v:Option H}{r:OR}(b:Pb v=some r)(d:∀h',v=some h'->∃w',s.run P w=.ok () w'/\Ext p h w p h' w'):Ie p h w r ((do s;pure .skip:Sem Next).run P w):=by
 cases v with
 |none=>simp[Pb]at b
 |some h'=>
  simp only[Pb,Ze]at b;subst b;obtain⟨w',c,e⟩:=d h' rfl;exact⟨p,w',by simp[c],e⟩
theorem FL(D:C.Ok P)(I:R p h w)(J:Gl C p){f:V}{G:Value}{args:List V}{args':Array Value}(E:Aa p f G)(z:Ab p args args'.toList){r:OR}(b:Dk C h f args=some r):
  Ie p h w r ((do let d<-Zt G args';invoke d.target d.args:Sem Next).run P w):=by
 unfold Dk at b;split at b
 case h_3=>cases b
 case h_2=>
  split at b
  case h_2=>cases b
  rename_i l A;rw[Al]at b;by_cases U:args.length=l.ps.size
  ·simp only[U,decide_true,wb,Ze]at b;subst b;obtain⟨k,n,Q,rfl⟩:=E;obtain⟨k',n',o,u,s,f0,tmps,r,m,j,M,rfl⟩:=I.obj _ _ A;have W:=z.length;simp only[Zt,Zd,Zn,Zb,invoke];have e:((l.ps.zip args').foldl (fun tmps (t,a)=>tmps.setIfInBounds t a) tmps)=(l.ps.toList.zip args'.toList).foldl (fun tmps (t,a)=>tmps.setIfInBounds t a) tmps:=by
    grind [Array.toList_zip]
   have B:=BP.CP (ts:=l.ps.toList) z j;refine⟨k,n,f0,_,Q,A,?_,B⟩;simp_all [run_yield]
  grind
 rename_i g first captured
 obtain⟨x,y,rfl,N,K⟩:=E;have c:Ab p (first++args++captured) (x++args'++y).toList:=by
  simpa using(N.append z).append K
 simp only[Zt,Zd,Zn,Zb,invoke];split at b
 case h_1=>
  rename_i q O;match hqr:q (first++args++captured) h,b with
  |some (v,h'),b=>
   simp only[B9,Ze]at b;subst b;obtain⟨v',p',w',u,s,j⟩:=D.prim g q O p h w _ _ v h' I J c hqr;exact⟨v',p',w',u,s,j⟩
  |none,b=>simp[B9]at b
 case h_2=>
  split at b
  case h_2=>cases b
  rename_i i L;cases b;obtain⟨fn,u,s,j,M,B⟩:=D.fn g i L;refine⟨_,?_,c⟩;simp_all [callFunc]
theorem J9(l:C.Ok P)(z:R p h w)(o:Gl C p){x:V}{x':Value}{name:String}{args:List V}{args':Array Value}(u:Aa p x x')(D:Ab p args args'.toList){r:OR}(c:Gy C h x name args=some r):
  Ie p h w r ((invoke (.fn (.method name) #[])<|#[x']++args').run P w):=by
 unfold Gy at c;split at c
 case h_2=>cases c
 rename_i t v;split at c
 case h_2=>cases c
 rename_i g q;obtain⟨y,rfl,B⟩:=u;obtain⟨j,m,d,h1,h2,h3,h4,h5,h6⟩:=l.T.mth t name g q;have key:(invoke (.fn (.method name) #[])<|#[.iface t y]++args').run P w=((do let d<-Zt (.func (.func g) #[] #[]) (#[y]++args');invoke d.target d.args:Sem Next).run P w):=by
  have n:(underlying t).run P w=.ok d w:=by simp_all [underlying]
  have A:(typeInfo t).run P w=.ok j w:=by unfold typeInfo;simp[h1]
  have b:∀k,(method (k+1) t y name).run P w=.ok (g,y) w:=by
   simp_all [method,follow,receiverAt,Place.get]
  have i:=b<|P.types.size+99;have e:P.types.size+Made.depth=P.types.size+99+1:=rfl;have h0:(#[Value.iface t y]++args')[0]?=some (.iface t y):=by
   grind
  have s:(#[Value.iface t y]++args').extract 1 (#[Value.iface t y]++args').size=args':=by
   simp
  simp only[invoke,Zt,h0,s];simp[callMethod,e,i]
 rw[key];exact FL l z o (f:=.fn (.func g) [] []) (by simp[Aa]) (by simp_all) c
theorem Kg(g:C.Ok P)(e:R p h w){b:Builtin}{ts:Array TypeId}{t:TypeId}{cs:Array Bool}{args:List V}{args':Array Value}(f:Ab p args args'.toList){r:OR}(d:BZ C h b ts args=some r):
  Ie p h w r ((builtin b ts t cs args').run P w):=by
 unfold BZ at d;split at d
 case h_1=>exact AA e d fun x c=>Q9 g.T e f c
 case h_2=>exact Bg d fun x h' c=>Lv g.T e f c
 case h_3=>exact Bg d fun x h' c=>Pv g.T e f c
 case h_4=>exact AA e d fun x c=>Rg f c
 case h_5=>exact AA e d fun x c=>RJ f c
 case h_6=>exact AA e d fun x c=>Rl g.T f c
 case h_7=>exact Bg d fun x h' c=>LM g.T e f c
 case h_8=>exact Bg d fun x h' c=>Ni g.T e f c
 case h_9=>exact AA e d fun x c=>NV f c
 case h_10=>
  refine Bg d fun x h' c=>?_
  obtain⟨v',w',j,i,k⟩:=P7 (t:=t) g.T e f c;grind
 grind
theorem Ps{T:AF}(k:T.Ok P){op:BinOp}{t:TypeId}{x y:Operand}{v u:V}{v' j:Value}(f:Aa p v v')(n:Aa p u j){z:V}(i:Ew T op t x y v u=some z):
  ∃o,(do eqGuard op t x y v' j;binOp op t v' j:Sem Value).run P w=.ok o w/\Aa p z o:=by
 unfold Ew at i;split at i
 case h_2=>
  simp only[Zd,NO k f n i,Zb];exact QF k f n i
 case h_1=>
  rename_i r q;have D:∀ {b:Bool},(bif Mw x||Mw y then some (V.bool b)else none)=some z->z=.bool b/\((∃c,x=.const c)\/∃c,y=.const c):=by
   intro b g;cases d:(Mw x||Mw y)with
   |false=>grind
   |true=>
    simp only[d,wb,Ze]at g;refine⟨g.symm,?_⟩;simp only[Zk]at d;rcases d with d|d
    ·left;cases x<;>first|exact⟨_,rfl⟩|cases d
    ·right;cases y<;>first|exact⟨_,rfl⟩|cases d
  have B:∀op,(op=.eql\/op=.neq)->((∃c,x=.const c)\/∃c,y=.const c)->(eqGuard op t x y .nilIface .nilIface).run P w=.ok () w:=by
   intro op s d;rcases s with rfl|rfl<;>unfold eqGuard<;>rcases d with⟨c,rfl⟩|⟨c,rfl⟩<;>simp
  have A:∀ {l},T.und t=some (.interface l)->(Op.equal t .nilIface .nilIface).run P w=.ok true w:=by
   intro l e;unfold Op.equal Op.maxDepth Op.equalIn;rw[Zd,Ac k e];rfl
  unfold QU at q;split at q
  case h_1=>
   have g:=(Gn (t:=t) (y':=.nilIface) f rfl).1;simp_all [Aa]
  case h_2=>
   have g:=(Gn (t:=t) (y':=.nilIface) f rfl).2;simp_all [Aa]
  grind
theorem PI(G:C.Ok P)(D:R p h w)(q:Gl C p)(A:AS p fr a){o:Oper}{r:OR}(e:CM C fr h o=some r):Ie p h w r ((execOp a.eval o).run P w):=by
 rw[A3]at e;unfold CI at e;unfold execOp;cases ho:o.op<;>simp only[ho]at e ⊢<;>try (cases e;done)
 case move x|assign x=>
  cases j:ev C fr x with
  |none=>simp[j,Av]at e
  |some v=>simp[j,Av]at e;subst e;exact⟨_,p,w,rfl,Ag q A j,Zo D⟩
 case pick c x y=>
  split at e
  case h_2=>cases e
  rename_i t hc;have Q:=Ag q A hc;simp only[Aa]at Q;simp only[Zd,Q,asBool,Zn,Zb];cases t
  ·cases j:ev C fr y with
   |none=>simp[j,Av]at e
   |some v=>simp[j,Av]at e;subst e;exact⟨_,p,w,by simp,Ag q A j,Zo D⟩
  ·cases j:ev C fr x with
   |none=>simp[j,Av]at e
   |some v=>simp[j,Av]at e;subst e;exact⟨_,p,w,by simp,Ag q A j,Zo D⟩
 case alloc t=>exact Bg e fun x h' j=>Nk G.T D j
 case box t x=>
  refine Bg e fun v h' j=>?_
  rw[Zg]at j;obtain⟨u,J,O⟩:=j;have:=Qy (P:=P) (t:=t) D<|Ag q A J;grind
 case build t L=>
  split at e
  case h_2=>cases e
  rename_i ps M;refine AA D e fun x j=>Od G.T ?_ j
  have:=Gv q A M;simp_all
 case buildSlice t n L=>
  split at e
  case h_2=>cases e
  rename_i ps M;refine Bg e fun x h' j=>Lx G.T D ?_ j
  have:=Gv q A M;simp_all
 case load t x=>
  split at e
  case h_2=>cases e
  rename_i v B;exact AA D e fun x j=>KM G.T D (Ag q A B) j
 case store t x y=>
  split at e
  case h_2=>cases e
  rename_i v u B J;exact MC e fun h' j=>Nn G.T D (Ag q A B) (Ag q A J) j
 case nilCheck x=>
  split at e
  case h_3=>cases e
  case h_1=>
   rename_i b i B;have j:=Ag q A B;have K:=j;simp only[Aa]at K;obtain⟨r',n,hp,O⟩:=K;simp only[Av,Ze]at e;subst e;rw[O];exact⟨_,p,w,rfl,O▸j,Zo D⟩
  case h_2=>
   rename_i t v B;have j:=Ag q A B;have K:=j;simp only[Aa]at K;obtain⟨y,O,_⟩:=K;simp only[Av,Ze]at e;subst e;rw[O];exact⟨_,p,w,rfl,O▸j,Zo D⟩
 case binOp op t x y t2=>
  split at e
  case h_2=>cases e
  rename_i v u B J;refine AA D e fun z N=>?_
  exact Ps G.T (Ag q A B) (Ag q A J) N
 case unOp op t x=>
  split at e
  case h_2=>cases e
  rename_i v B;exact AA D e fun x j=>SS (Ag q A B) j
 case convert s d x=>
  split at e
  case h_2=>cases e
  rename_i v B;exact AA D e fun x j=>Qh G.T D (Ag q A B) j
 case makeInterface t x=>
  split at e
  case h_2=>cases e
  rename_i v d B X;split at e
  case h_1=>cases e
  case h_2=>
   refine AA D e fun z N=>?_
   cases N;refine⟨.iface t<|a.eval x,?_,by exact⟨_,rfl,Ag q A B⟩⟩;unfold Instr.makeInterface;simp only[Zd,Ac G.T X,Zb];rfl
 case makeFunc f first captured=>
  split at e
  case h_2=>cases e
  rename_i x y j hy;refine AA D e fun z N=>?_
  cases N;exact⟨_,rfl,by exact⟨_,_,rfl,by simpa using Ee q A j,by simpa using Ee q A hy⟩⟩
 case makeMap t x=>
  split at e
  case h_2=>cases e
  rename_i v B;exact Bg e fun x h' j=>J2 D (GA q A B) j
 case makeSlice t l c=>
  split at e
  case h_2=>cases e
  rename_i v u B J;exact Bg e fun x h' j=>Oz G.T D (Ag q A B) (Ag q A J) j
 case slice t x lo hi mx=>
  split at e
  case h_2=>cases e
  rename_i v l r' m B W U Z;exact AA D e fun x j=>NK G.T (Ag q A B) (GA q A W) (GA q A U) (GA q A Z) j
 case fieldAddr t x f=>
  split at e
  case h_2=>cases e
  rename_i v B;exact AA D e fun x j=>NZ G.T (Ag q A B) j
 case field t x f=>
  split at e
  case h_2=>cases e
  rename_i v B;exact AA D e fun x j=>Nr G.T (Ag q A B) j
 case indexAddr t x i=>
  split at e
  case h_2=>cases e
  rename_i v u B J;exact AA D e fun x j=>Ns G.T (Ag q A B) (Ag q A J) j
 case index t x i=>
  split at e
  case h_2=>cases e
  rename_i v u B J;exact AA D e fun x j=>N7 G.T (Ag q A B) (Ag q A J) j
 case lookup t x i ok=>
  split at e
  case h_2=>cases e
  rename_i v u B J;exact AA D e fun x j=>LC G.T D (Ag q A B) (Ag q A J) j
 case mapUpdate t m k x|insert t m k x=>
  split at e
  case h_2=>cases e
  rename_i v u z B J N;exact MC e fun h' j=>Lf G.T D (Ag q A B) (Ag q A J) (Ag q A N) j
 case range t x=>
  split at e
  case h_2=>cases e
  rename_i v B;exact Bg e fun x h' j=>LF G.T D (Ag q A B) j
 case next x b=>
  split at e
  case h_2=>cases e
  rename_i v B;cases b with
  |true=>exact Bg e fun x h' j=>O7 D (Ag q A B) j
  |false=>
   simp only[wc,Zg]at e;obtain⟨l,W,rfl⟩:=e;obtain⟨v,h',v',p',w',g1,g2,g3,g4⟩:=NA (P:=P) (t:=o.type) D (Ag q A B) W;grind [Zd,Zb,Zn,Ie]
 case entry x=>
  split at e
  case h_2=>cases e
  rename_i v B;exact AA D e fun x j=>Nq D (Ag q A B) j
 case extract x i=>
  split at e
  case h_2=>cases e
  rename_i v B;exact AA D e fun x j=>KT (Ag q A B) j
 case call c=>
  split at e
  case h_4=>cases e
  case h_1=>
   rename_i b args I E;have:=Ee q A E;unfold resolve;simp only[I,Zd,Zn,Zb,invoke];exact Kg G D (by simp_all) e
  case h_2=>
   rename_i f args I E;split at e
   case h_2=>cases e
   rename_i g Y;have:=Ee q A E;unfold resolve;simp only[I];exact FL G D q (Ag q A Y) (by simp_all) e
  case h_3=>
   rename_i x nm args I E;split at e
   case h_2=>cases e
   rename_i v B;have:=Ee q A E;unfold resolve;simp only[I,Zd,Zn,Zb];exact J9 G D q (Ag q A B) (by simp_all) e
theorem E5(j:C.Ok P)(e:R p h w)(f:Gl C p)(i:AS p fr a){o:Oper}{r:OR}(b:Du C fr h o=some r):Ie p h w r ((execOp a.eval o).run P w):=by
 unfold Du at b;split at b
 case h_1=>
  grind [PI]
 case h_2=>
  split at b
  case h_2=>cases b
  rename_i s d x k;split at b
  case h_2=>cases b
  rename_i v g;unfold execOp;simp only[k];split at b
  case h_1=>
   rename_i u l;exact AA (v:=some u) e b fun x c=>by cases c;exact RL j.T e (Ag f i g) l
  exact Bg b fun x h' c=>NF j.T e (Ag f i g) c
end
def Ai(fr:Fr)(ops:Array Oper)(o:Oper):Bool:=
 match o.guard with
 |none=>true
 |some (j,c)=>
  match (ops[j]?).bind (·.dst)with
  |some t=>bif Zf t fr.n then(match fr.get t with| .bool b=>b==c|_=>false)else false
  |none=>false
inductive Cl where
 |fn (f:FuncId) (args:List V)
 |rnd (b:Nat) (l:LS) (fr:Fr)
abbrev Bi:=Cl->H->Option (List<|V×H)
def bl{α c:Type}:List α->(α->Option (List c))->Option (List c)
 |[],_=>some []
 |a::d,f=>match f a with
  |none=>none
  |some x=>match d with
   |[]=>some x
   |b::e=>match bl (b::e) f with
    |some y=>some<|x++y
    |none=>none
theorem DB{α g:Type}{f:α->Option (List g)}:∀ {l:List α} {r:List g},bl l f=some r->∀a∈l,∃x,f a=some x/\∀b∈x,b∈r
 |[],r,_,a,e=>by cases e
 |[c],r,h,a,e=>by
  grind [bl]
 |c::d::k,r,h,a,e=>by
  unfold bl at h;split at h
  ·cases h
  simp only at h;split at h
  case h_2=>cases h
  rename_i y i;rcases ZK.1 e with rfl|e
  ·grind
  ·obtain⟨z,n,j⟩:=DB i a e;grind
def Dd(fr:Fr)(d:Option Nat):List (V×H)->Option (List<|Fr×H)
 |[]=>some []
 |(v,h)::l=>match fr.put d v with
  |some f=>match Dd fr d l with
   |some r=>some ((f,h)::r)
   |none=>none
  |none=>none
theorem G3{fr:Fr}{d:Option Nat}:∀ {l:List (V×H)} {r:List (Fr×H)},Dd fr d l=some r->∀v h,(v,h)∈l->∃f,fr.put d v=some f/\(f,h)∈r
 |[],r,_,v,h,hm=>by cases hm
 |(u,k)::l,r,b,v,h,hm=>by
  unfold Dd at b;split at b
  case h_2=>cases b
  split at b
  case h_2=>cases b
  rename_i n c;rcases ZK.1 hm with e|hm
  ·grind
  ·obtain⟨g,j,i⟩:=G3 c v h hm;grind
def CC(C:Ctx)(call:Bi)(ops:Array Oper)(o:Oper)(fr:Fr)(h:H):Option (List<|Fr×H):=
 bif Ai fr ops o then
  match Du C fr h o with
  |some (.val v h')=>match fr.put o.dst v with
   |some fr'=>some [(fr',h')]
   |none=>none
  |some (.skip h')=>match fr.put o.dst (.tup [])with
   |some fr'=>some [(fr',h')]
   |none=>none
  |some (.enter f args)=>match call (.fn f args) h with
   |some l=>Dd fr o.dst l
   |none=>none
  |some (.round b ls f)=>match call (.rnd b ls f) h with
   |some l=>Dd fr o.dst l
   |none=>none
  |some (.alts l)=>Dd fr o.dst l
  |none=>none
 else match fr.put o.dst (.tup [])with
  |some fr'=>some [(fr',h)]
  |none=>none
def Jy(C:Ctx)(call:Bi)(ops:Array Oper):List Oper->Fr->H->Option (List<|Fr×H)
 |[],fr,h=>some [(fr,h)]
 |o::b,fr,h=>match CC C call ops o fr h with
  |some l=>bl l fun x=>Jy C call ops b x.1 x.2
  |none=>none
def FW(ro:Option Nat):Fence:={ Zz with round:=ro }
theorem Lz{ro:Option Nat}{n:Nat}{P:Program}{f:FuncId}{args:Array Value}{w:World}{R:Ending->World->Prop}:CallsIn (FW ro) n P f args w R↔Calls P f args w R:=by
 have:CallsIn (FW ro) n P f args w R↔CallsIn Zz n P f args w R:=Iff.rfl;grind [callsIn_wide]
theorem Tb{ro:Option Nat}{n:Nat}{P:Program}{k:Nat}{f:FuncId}{tmps:Array Value}{asg body:Code}{w:World}{R:Ending->World->Prop}(h:RoundIn Zz 0 P k f tmps asg body w R):RoundIn (FW ro) n P k f tmps asg body w R:=
 ⟨trivial,fun c cs _=>h.2 c cs<|room_wide _⟩
inductive DX where
 |normal
 |exit (id:Nat)
 |ret
def DX.JC:DX->Exit
 | .normal=>.normal
 | .exit id=>.exit id
 | .ret=>.ret
section
variable {C:Ctx}{P:Program}{p:Pl}{h:H}{w:World}{fr:Fr}{a:Act}
theorem AS.put(f:AS p fr a){d:Option Nat}{v:V}{v':Value}(i:Aa p v v'){fr':Fr}(c:fr.put d v=some fr'):AS p fr' (a.put d v'):=by
 unfold Fr.put at c;cases d with
 |none=>cases c;exact f
 |some t=>
  simp only[Dn]at c;by_cases b:t<fr.n
  ·simp only[b,decide_true,wb,Ze]at c;subst c;refine⟨by simp[ZM,f.1],fun s=>?_⟩;have g:t<a.tmps.size:=f.1▸b;by_cases e:s=t
   ·simp_all [Fr.get,ZM]
   ·have:=f.2 s;simp only[Fr.get,PM.Bd,w9 e,ZM]at this ⊢;rw[Zi,Zy a8, <-Zi];omega
  grind
theorem AS.mono(b:AS p fr a){p':Pl}(c:∃q,p'=p++q):AS p' fr a:=by
 obtain⟨q,rfl⟩:=c;exact⟨b.1,fun t=>(b.2 t).mono q⟩
theorem AS.ext(b:AS p fr a){p':Pl}{h':H}{w':World}(e:Ext p h w p' h' w'):AS p' fr a:=b.mono e.pre
theorem Q0{p:Pl}{v:V}{b:Bool}(c:Aa p v (.bool b)):v=.bool b:=by
 cases v<;>simp only[Aa]at c<;>first|(cases c;rfl)|(simp at c;done)|(done)|(done)|(done)|(done)|(done)
theorem IA(k:AS p fr a)(ops:Array Oper)(o:Oper):Zu o (yielded ops a.tmps)=Ai fr ops o:=by
 unfold Zu Ai;cases q:o.guard with
 |none=>rfl
 |some r=>
  obtain⟨j,d⟩:=r;simp only;unfold yielded;cases s:(ops[j]?).bind (·.dst)with
  |none=>simp
  |some t=>
   simp only[Option.bind_some,Dn];by_cases c:t<fr.n
   ·have g:t<a.tmps.size:=k.1▸c;have i:=k.2 t;simp only[c,decide_true,wb];have e:a.tmps[t]?=some (a.tmps.getD t undef):=by simp[g]
    rw[e];cases f:a.tmps.getD t undef with
    |bool b=>
     rw[f]at i;have:=Q0 i;grind
    |_=>
     rw[f]at i;cases l:fr.get t with
     |bool b=>rw[l]at i;simp[Aa]at i
     |_=>cases d<;>rfl
   ·have:a.tmps[t]?=none:=Array.getElem?_eq_none<|Nat.le_of_not_lt<|k.1▸c;grind
def CL(p:Pl)(h:H)(w:World)(l:List (V×H))(e:Ending)(w':World):Prop:=
 ∃v h' v' p',(v,h')∈l/\e=.returned v'/\Aa p' v v'/\Ext p h w p' h' w'
structure Bi.Ok(C:Ctx)(P:Program)(call:Bi):Prop where
 fn:∀f args h l,call (.fn f args) h=some l->∀(p:Pl) (w:World) (args':Array Value),R p h w->Gl C p->Ab p args args'.toList->Calls P f args' w (CL p h w l)
 rnd:∀b ls fr h l,call (.rnd b ls fr) h=some l->∀(p:Pl) (w:World) (k n:Nat) (f:FuncId) (tmps:Array Value),R p h w->Gl C p->h.get b=some (.loop ls)->p[b]?=some (k,n)->BP p fr tmps->
  RoundIn Zz 0 P k f tmps ls.asg ls.body w (CL p h w l)
theorem CT{o:Oper}{r:OR}(b:CM C fr h o=some r):∀c,o.op≠ .defer c:=by
 grind [A3,CI]
theorem Ct{o:Oper}{r:OR}(b:Du C fr h o=some r):∀c,o.op≠ .defer c:=by
 grind [Du,CT]
theorem Jz{p':Pl}{l:List (V×H)}{r:List (Fr×H)}{d:Option Nat}(k:Dd fr d l=some r)(i:AS p fr a){K:Act->World->Prop}
  (g:∀x∈r,∀p' b w',AS p' x.1 b->Ext p h w p' x.2 w'->b.defers=a.defers->K b w') {v:V} {h':H} {v':Value} {w':World} (e:(v,h')∈l) (o:Aa p' v v') (c:Ext p h w p' h' w'):K (a.put d v') w':=by
 obtain⟨f,n,j⟩:=G3 k v h' e;exact g _ j p' _ w' ((i.ext c).put o n) c (by cases d<;>rfl)
theorem Nx(E:C.Ok P){call:Bi}(q:call.Ok C P)(t:R p h w)(u:Gl C p)(j:AS p fr a){ops:Array Oper}{i:Nat}{o:Oper}(W:ops[i]?=some o){l:List (Fr×H)}
  (d:CC C call ops o fr h=some l) {ro:Option Nat} {n:Nat} {Q:Exit->Act->World->Prop} {K:Act->World->Prop}
  (A:∀x∈l,∀p' N w',AS p' x.1 N->Ext p h w p' x.2 w'->N.defers=a.defers->K N w'):wpOpIn (FW ro) n P ops Q i K a w:=by
 have z:∀v,(a.put o.dst v).defers=a.defers:=by intro v;cases o.dst<;>rfl
 unfold CC at d;unfold wpOpIn;simp only[W];rw[IA j];cases O:Ai fr ops o with
 |false=>
  simp only[O,wc]at d;refine⟨fun _ _=>trivial,?_⟩;split at d
  case h_2=>cases d
  rename_i D G;cases d;exact A _ (Zl.2 rfl) p _ w (j.put (by simp[Aa,undef]) G) (Zo t)<|z _
 |true=>
  simp only[O,wb]at d;refine⟨fun _ _=>trivial,?_⟩;split at d
  case h_6=>cases d
  case h_1=>
   rename_i v X c;split at d
   case h_2=>cases d
   rename_i D G;cases d;obtain⟨v',p',w',r,y,s⟩:=E5 E t u j c;rw[Zj _ _ _<|Ct c,r,Zp];exact A _ (Zl.2 rfl) p' _ w' ((j.ext s).put y G) s<|z _
  case h_2=>
   rename_i X c;split at d
   case h_2=>cases d
   rename_i D G;cases d;obtain⟨p',w',r,s⟩:=E5 E t u j c;rw[Zj _ _ _<|Ct c,r,Oper.uponIn_skip];exact A _ (Zl.2 rfl) p' _ w' ((j.ext s).put (by simp[Aa,undef]) G) s<|z _
  case h_3=>
   rename_i f args c;split at d
   case h_2=>cases d
   rename_i I L;obtain⟨args',r,y⟩:=E5 E t u j c;rw[Zj _ _ _<|Ct c,r,Oper.uponIn_enter];refine⟨(by grind [FW,Zz]),Lz.2<|(q.fn f args h I L p w args' t u y).mono ?_⟩;rintro e w' ⟨v,h',v',p',B,rfl,M,J⟩;exact Jz d j A B M J
  case h_4=>
   rename_i b ls f c;split at d
   case h_2=>cases d
   rename_i I L;obtain⟨k,m,g,tmps,r,y,s,U⟩:=E5 E t u j c;rw[Zj _ _ _<|Ct c,s,Oper.uponIn_round];refine⟨(by grind [FW,Zz]),(Tb<|q.rnd b ls f h I L p w k m g tmps t u y r U).mono ?_⟩;rintro e w' ⟨v,h',v',p',B,rfl,M,J⟩;exact Jz d j A B M J
  case h_5=>
   rename_i I c;obtain⟨v,h',v',p',w',B,r,y,s⟩:=E5 E t u j c;rw[Zj _ _ _<|Ct c,r,Zp];exact Jz d j A B y s
theorem KP(z:C.Ok P){call:Bi}(b:call.Ok C P){ops:Array Oper}{ro:Option Nat}{n:Nat}{Q:Exit->Act->World->Prop}:
  ∀(l:List Oper) (k:Nat),(∀j,l[j]?=ops[k+j]?)->∀ {p:Pl} {h:H} {w:World} {fr:Fr} {a:Act},R p h w->Gl C p->AS p fr a->∀ {L:List (Fr×H)},Jy C call ops l fr h=some L->
  (∀x∈L,∀p' s w',AS p' x.1 s->Ext p h w p' x.2 w'->s.defers=a.defers->Q .normal s w')->wpOpsIn (FW ro) n P ops Q (List.range' k l.length) a w
 |[],k,_,p,h,w,fr,a,t,e,q,L,d,f=>by
  cases d;exact f _ (Zl.2 rfl) p a w q (Zo t) rfl
 |o::l,k,A,p,h,w,fr,a,t,e,q,L,d,f=>by
  unfold Jy at d;split at d
  case h_2=>cases d
  rename_i W N;refine Nx z b t e q (by simpa using(A 0).symm) N (K:=wpOpsIn (FW ro) n P ops Q<|List.range' (k+1) l.length) fun x J O a1 U g c B=>?_
  obtain⟨L1,I,D⟩:=DB d x J;exact KP z b l (k+1) (fun j=>by have:=A<|j+1;grind) c.rel (e.ext c) g I
   fun y E M a2 G i r u=>f y (D y E) M a2 G i (c.trans r) ae
theorem Mn(j:C.Ok P){call:Bi}(b:call.Ok C P){ops:Array Oper}{ro:Option Nat}{n:Nat}{Q:Exit->Act->World->Prop}(f:R p h w)(d:Gl C p)(i:AS p fr a){L:List (Fr×H)}
  (g:Jy C call ops ops.toList fr h=some L) {id:Nat}
  (e:∀x∈L,∀p' c w',AS p' x.1 c->Ext p h w p' x.2 w'->c.defers=a.defers->Q .normal c w'):(Code.region id ops false).wpIn (FW ro) n P Q a w:=by
 refine wpIn_region ?_;have:=KP (Q:=Q) (ro:=ro) (n:=n) j b ops.toList 0 (by simp) f d i g e;grind [List.range_eq_range']
end
theorem Fp{C:Ctx}{fr fr':Fr}:∀ {b:List Operand},(∀x∈b,ev C fr x=ev C fr' x)->JW C fr b=JW C fr' b
 |[],_=>rfl
 |x::b,h=>by
  unfold JW;rw[h x (by simp),Fp<|fun y c=>h y<|by simp[c]]
theorem Ef{C:Ctx}{fr fr':Fr}:∀ {b:List (Nat×Operand)},(∀x∈b,ev C fr x.2=ev C fr' x.2)->Lq C fr b=Lq C fr' b
 |[],_=>rfl
 |(i,x)::b,h=>by
  unfold Lq;rw[h (i,x) (by simp),Ef<|fun y c=>h y<|by simp[c]]
theorem ID{C:Ctx}{fr fr':Fr}{x:Option Operand}(h:∀y,x=some y->ev C fr y=ev C fr' y):KZ C fr x=KZ C fr' x:=by
 cases x with
 |none=>rfl
 |some y=>simp[KZ,h y rfl]
theorem N8{C:Ctx}{fr fr':Fr}{h:H}{o:Oper}(d:∀x∈o.op.operands,ev C fr x=ev C fr' x):CM C fr h o=CM C fr' h o:=by
 obtain⟨dst,op,b,pos,after,guard⟩:=o;cases op<;>simp only[ZH]at d<;>simp only[A3,CI]
 case build t ps=>grind [Ef]
 case buildSlice t n ps=>grind [Ef]
 case makeFunc f first captured=>grind [Fp]
 case makeMap t r=>grind [ID]
 case slice t x e g mx=>
  grind [ID]
 case call c=>
  grind [Fp,Call.operands]
 all_goals (first|rfl|(simp_all;done))
def reads(ops:Array Oper)(o:Oper):List Tmp:=o.looksAt ops
theorem Re{C:Ctx}{fr fr':Fr}{x:Operand}(h:∀t,x=.tmp t->fr.get t=fr'.get t):ev C fr x=ev C fr' x:=by
 cases x with
 |tmp t=>simp only[ev,h t rfl]
 |_=>rfl
theorem mem_reads{ops:Array Oper}{o:Oper}{t:Tmp}(h:Operand.tmp t∈o.op.operands):t∈reads ops o:=
 List.mem_append_left _ (List.mem_filterMap.2 ⟨.tmp t,by grind,rfl⟩)
theorem I1{fr fr':Fr}{ops:Array Oper}{o:Oper}(c:fr.n=fr'.n)(h:∀t∈reads ops o,fr.get t=fr'.get t):Ai fr ops o=Ai fr' ops o:=by
 unfold Ai;cases e:o.guard with
 |none=>rfl
 |some d=>
  obtain⟨j,b⟩:=d;simp only;cases f:(ops[j]?).bind (·.dst)with
  |none=>rfl
  |some t=>
   simp only[c];rw[h t<|List.mem_append_right _ ae]
def It(l:List Tmp)(fr:Fr):Fr:=⟨fr.n,l.foldr (fun t m=>m.set t<|some<|fr.get t) .leaf⟩
def H3(l:List Tmp)(a:Act):Act:={ a with tmps:=Array.ofFn (n:=a.tmps.size) fun t=>if l.contains t.1 then a.tmps.getD t undef else undef }
theorem FO(l:List Tmp)(fr:Fr)(t:Tmp):(It l fr).get t=if t∈l then fr.get t else .tup []:=by
 unfold It Fr.get;induction l with
 |nil=>simp
 |cons x l b=>
  simp only[List.foldr_cons,PM.Bd,ZK];grind
theorem Iv(l:List Tmp)(a:Act)(t:Tmp):(H3 l a).tmps.getD t undef=if t∈l then a.tmps.getD t undef else undef:=by
 unfold H3;by_cases h:t<a.tmps.size
 ·simp[h]
 simp_all
section
variable {C:Ctx}{P:Program}{p:Pl}{h:H}{w:World}{fr:Fr}{a:Act}
structure Tp(p:Pl)(fr:Fr)(a:Act)(l:List Tmp):Prop where
 n:fr.n=a.tmps.size
 get:∀t∈l,Aa p (fr.get t) (a.tmps.getD t undef)
theorem Tp.GP{l:List Tmp}(c:Tp p fr a l):AS p (It l fr) (H3 l a):=by
 refine⟨by simp[It,H3,c.n],fun t=>?_⟩;rw[FO,Iv];by_cases b:t∈l
 ·simp only[b,wg];exact c.get t b
 simp_all [Aa,undef]
theorem Fy{ops:Array Oper}{o:Oper}{x:Operand}(b:x∈o.op.operands):(H3 (reads ops o) a).eval x=a.eval x:=by
 cases x with
 |tmp t=>
  have:=Iv (reads ops o) a t;rw[wa<|mem_reads b]at this;exact this
 |_=>rfl
theorem Jn{ops:Array Oper}{o:Oper}{x:Operand}(b:x∈o.op.operands):ev C (It (reads ops o) fr) x=ev C fr x:=by
 refine Re fun t c=>?_
 simp_all [FO,mem_reads]
theorem Ek(e:C.Ok P)(f:R p h w)(c:Gl C p){ops:Array Oper}{o:Oper}(d:Tp p fr a (reads ops o))(j:∀cs b,o.op≠ .select cs b){r:OR}(g:CM C fr h o=some r):
  Ie p h w r ((execOp a.eval o).run P w):=by
 have i:=PI e f c d.GP (o:=o) (r:=r) (by grind [N8,Jn]);grind [execOp_congr,Fy]
theorem Io{ops:Array Oper}{o:Oper}(e:Tp p fr a (reads ops o)):Zu o (yielded ops a.tmps)=Ai fr ops o:=by
 have c:=IA e.GP ops o;rw[I1 (fr:=It (reads ops o) fr) (fr':=fr) (ops:=ops) (o:=o) rfl (by simp_all [FO])]at c;rw[<-c];unfold Zu;cases g:o.guard with
 |none=>rfl
 |some f=>
  obtain⟨j,b⟩:=f;simp only;unfold yielded;cases i:(ops[j]?).bind (·.dst)with
  |none=>rfl
  |some t=>
   have k:t∈reads ops o:=List.mem_append_right _ ae;by_cases d:t<a.tmps.size
   ·simp_all [H3]
   simp_all [H3]
end
def BO(o:Oper):Bool:=
 match o.op with
 | .move _| .assign _| .pick .. | .build .. | .load .. | .nilCheck _| .binOp .. | .unOp .. | .convert .. | .makeInterface .. | .makeFunc .. | .slice .. | .fieldAddr .. | .field .. | .indexAddr .. | .index .. | .lookup .. | .extract .. =>true
 | .call { callee:=.builtin .len,.. }| .call { callee:=.builtin .max,.. }| .call { callee:=.builtin .min,.. }| .call { callee:=.builtin .unsafeSliceData,.. }=>true
 |_=>false
def H9(o:Oper):Bool:=
 match o.op with
 | .load .. | .convert .. | .lookup .. =>true
 | .call { callee:=.builtin .len,.. }=>true
 |_=>false
def AZ(o:Oper):Bool:=
 match o.op with
 | .alloc _| .box .. | .buildSlice .. =>true
 |_=>false
theorem CA{h:H}{v:Option V}{r:OR}(b:Av h v=some r):∃x,v=some x/\r=.val x h:=by
 cases v with
 |none=>cases b
 |some x=>cases b;simp
theorem rd_val{C:Ctx}{fr:Fr}{h:H}{o:Oper}(e:BO o=true){r:OR}(d:CM C fr h o=some r):∃v,r=.val v h:=by
 obtain⟨dst,op,g,pos,after,guard⟩:=o;cases op<;>simp only[BO]at e<;>simp only[A3,CI]at d<;>try (cases e;done)
 case call c=>
  obtain⟨callee,args,ts⟩:=c;cases callee with
  |builtin b=>
   cases i:JW C fr args.toList with
   |none=>grind
   |some j=>
    simp only[i]at d;cases b<;>first|(cases e;done)|(obtain⟨x,_,rfl⟩:=CA d;simp)
  |value f=>cases e
  |invoke=>cases e
 all_goals
  repeat' split at d
  all_goals first
   |(cases d;done)
   |(obtain⟨x,_,rfl⟩:=CA d;exact⟨x,rfl⟩)
theorem Ot{C:Ctx}{fr:Fr}{h:H}{o:Oper}(g:BO o=true)(k:H9 o=false){v:V}(d:CM C fr h o=some (.val v h))(h':H):CM C fr h' o=some (.val v h'):=by
 have key:∀ {x:Option V},Av h x=some (.val v h)->Av h' x=some (.val v h'):=by
  intro x j;obtain⟨y,rfl,e⟩:=CA j;cases e;rfl
 obtain⟨dst,op,i,pos,after,guard⟩:=o;cases op<;>simp only[BO]at g<;>simp only[H9]at k<;>simp only[A3,CI]at d ⊢<;>try (first|(done)|(done))
 case call c=>
  obtain⟨callee,args,ts⟩:=c;cases callee with
  |builtin b=>
   cases l:JW C fr args.toList with
   |none=>grind
   |some n=>
    grind [BZ]
  |value f=>cases g
  |invoke=>cases g
 all_goals
  repeat' split at d
  all_goals first
   |(done)
   |exact key d
   |grind
section
variable {C:Ctx}{P:Program}{p:Pl}{h:H}{w:World}{fr:Fr}{a:Act}
def Ld(T:AF)(t:TypeId)(len:Nat)(b:List (Nat×V)):Option (List V×TypeId):=
 match T.und t with
 |some (.slice e)=>match T.inf e with
  |some i=>
   bif Zx (len*i.size) 16777216&&Zf 0 (i.zero.length)&&Zm i.zero.length i.size then
    (DG (fun k=>some (k*i.size,i.size)) (Ca i.zero<|len*i.size) b).map fun cs=>(cs,e)
   else none
  |none=>none
 |_=>none
def Qu(C:Ctx)(fr:Fr)(o:Oper):Option (O×(Nat->V)):=
 match o.op with
 | .alloc t=>match C.T.inf t with
  |some i=>some (.cells i.zero t (0,0),fun b=>.ptr b 0)
  |none=>none
 | .box t x=>match ev C fr x with
  |some v=>some (.cells v.cells t (0,0),fun b=>.ptr b 0)
  |none=>none
 | .buildSlice t n c=>match Lq C fr c.toList with
  |some ps=>match Ld C.T t n ps with
   |some (cs,e)=>some (.cells cs e (0,0),fun b=>.sl b 0 n n 0)
   |none=>none
  |none=>none
 |_=>none
theorem S5(A:C.Ok P)(E:Gl C p){ops:Array Oper}{o:Oper}(I:Tp p fr a (reads ops o)){ob:O}{f:Nat->V}(l:Qu C fr o=some (ob,f)):
  ∃x n v',(execOp a.eval o).run P w=.ok (.value v') { w with heap:=w.heap.push x }/\Ey p n ob x/\∀(q:Pl) b,q[b]?=some (w.heap.size,n)->Aa q (f b) v':=by
 have K:=I.GP;have d:∀(t:TypeId) (cs:List V) (c:Array Value),Ab p cs c.toList->Ey p c.size (.cells cs t (0,0)) (.cells c t):=by
  intro t cs c y;refine⟨c,(0,0),rfl,rfl,by have:=y.length;grind,?_,a8⟩;have:=y.length;rw[List.take_of_length_le a8];exact y.Ug
 unfold Qu at l;split at l
 case h_4=>cases l
 case h_1=>
  rename_i t D;split at l
  case h_2=>cases l
  rename_i i B;cases l;obtain⟨z,L,s⟩:=BL A.T B;refine⟨.cells z.cells t,_,.pointer<|some ⟨w.heap.size,0,none⟩,?_,d _ _ _<|s p,(by simp_all [Aa])⟩;simp_all [execOp,Instr.alloc,newVar,AW]
 case h_2=>
  rename_i t x D;split at l
  case h_2=>cases l
  rename_i v Q;cases l;have y:Aa p v (a.eval x):=by
   have:=Ag (C:=C) E K (x:=x) (v:=v) (by grind [Jn,ZH]);grind [Fy,ZH]
  refine⟨.cells (a.eval x).cells t,_,.pointer<|some ⟨w.heap.size,0,none⟩,?_,d _ _ _ y.cells,(by simp_all [Aa])⟩;simp_all [execOp,Instr.box,newVar,AW]
 case h_3=>
  rename_i t len r D;split at l
  case h_2=>cases l
  rename_i ps G;split at l
  case h_2=>cases l
  rename_i cs e j;cases l;have N:JO p ps (r.map fun(i,x)=>(i,a.eval x)).toList:=by
   grind [Gv,Ef,Jn,ZH,Array.toList_map,List.map_congr_left,Fy]
  unfold Ld at j;split at j
  case h_2=>cases j
  rename_i M J;split at j
  case h_2=>cases j
  rename_i i B;cases g:(Zx (len*i.size) 16777216&&Zf 0 (i.zero.length)&&Zm i.zero.length i.size)with
  |false=>grind
  |true=>
   simp only[g,wb,Zg,ZJ]at j;obtain⟨cs',u,rfl,rfl⟩:=j;simp only[Zc,ZL,Zq,Al,w5]at g;obtain⟨⟨c1,c2⟩,c3⟩:=g;obtain⟨z,L,s⟩:=BL A.T B;obtain⟨oo,h1,h2⟩:=ES (p:=p) (place:=fun k=>some (k*i.size,i.size)) N (Ea (s p) c2<|len*i.size) u;refine⟨.cells oo M,_,.slice (some ⟨w.heap.size,0,none⟩) len len,?_,d _ _ _ h2,(by simp_all [Aa])⟩;unfold execOp;simp only[D];unfold Instr.buildSlice;simp only[Zd,Ac A.T J,Zb,Ao A.T B];by_cases h0:len*i.size=0
   ·grind [Zd,Zn,Zb,AW]
   simp_all [AW]
theorem Ext.O4{z p:Pl}{l h:H}{i w:World}(j:Ext z l i p h w){r n:Nat}{o:O}{x:Obj}(Z:w.heap[r]?=some x)(X:Ey p n o x)(hi:¬Im p h r)(W:i.heap.size<=r):
  Ext z l i (p++[(r,n)]) (h.push o) w:=by
 have G:=j.rel;have A:(p++[(r,n)])[h.nx]?=some (r,n):=by rw[<-G.len];simp
 have g:∀b,b<h.nx->(p++[(r,n)])[b]?=p[b]?:=ae;have d:∀c f,(h.push o).get c=some f->(c=h.nx/\f=o)\/(c<h.nx/\h.get c=some f):=by
  intro c f u;rw[H.AT]at u;by_cases e:c=h.nx
  ·grind
  ·rw[w9 e]at u;exact .inr ⟨G.lt u,u⟩
 refine⟨?_,⟨by simp[G.len],fun c f u=>?_,fun c L f I s m m' u K D U=>?_⟩,j.size,j.same,fun s Q=>?_,j.os,j.out,j.tape,fun s Q hl=>?_,j.dr⟩
 ·obtain⟨q,rfl⟩:=j.pre;simp
 ·rcases d c f u with⟨rfl,rfl⟩|⟨E,J⟩
  ·exact⟨r,n,x,A,Z,X.mono _⟩
  ·obtain⟨s,m,y,B,k,R⟩:=G.obj c f J;exact⟨s,m,y,by grind,k,R.mono _⟩
 ·rcases d c f u with⟨rfl,rfl⟩|⟨E,J⟩<;>rcases d L I K with⟨rfl,rfl⟩|⟨M,N⟩
  ·rfl
  ·grind [Im]
  ·grind [Im]
  ·rw[g c E]at D;rw[g L M]at U;exact G.inj c L f I s m m' J N D U
 ·obtain⟨c,f,m,B,k⟩:=Q;rcases d c f B with⟨rfl,rfl⟩|⟨E,J⟩
  ·grind
  ·rw[g c E]at k;exact j.im s ⟨c,f,m,J,k⟩
 ·obtain⟨E,D⟩:=j.lock s Q hl;refine⟨E,?_⟩;rcases D with⟨c,m,cs,t,fz,B,k,R⟩|D
  ·have Y:=G.lt B;exact .inl ⟨c,m,cs,t,fz,by rw[H.AT,w9 a8];exact B,by grind,R⟩
  ·refine .inr ?_;rintro⟨c,f,m,B,k⟩;rcases d c f B with⟨rfl,rfl⟩|⟨M,N⟩
   ·grind
   ·rw[g c M]at k;exact D ⟨c,f,m,N,k⟩
theorem Ext.aside{f p:Pl}{d h:H}{e w:World}(c:Ext f d e p h w)(x:Obj):Ext f d e p h { w with heap:=w.heap.push x }:=by
 have i:=c.rel;refine⟨c.pre,⟨i.len,fun b o k=>?_,i.inj⟩,by have:=c.size;grind,fun r g q=>?_,c.im,c.os,c.out,c.tape,fun r g s=>?_,c.dr⟩
 ·obtain⟨r,n,y,j,l,t⟩:=i.obj b o k;grind
 ·have j:=c.same r g q;grind
 ·obtain⟨j,l⟩:=c.lock r g s;grind
end
def B2(C:Ctx)(call:Bi)(fr:Fr)(h:H)(o:Oper):Option (V×H):=
 match CM C fr h o with
 |some (.val v h')=>some (v,h')
 |some (.skip h')=>some (.tup [],h')
 |some (.enter f args)=>match call (.fn f args) h with
  |some [x]=>some x
  |_=>none
 |_=>none
def A1(o:Oper):Bool:= !BO o&& !AZ o
structure Stat(ops:Array Oper)(anc:Nat->Nat->Bool)(ord pos:Nat->Nat)(sc:Nat->Option Nat):Prop where
 sel:Region.noSelect ops=true
 ordp:∀q,q<ops.size->ord q<ops.size/\pos (ord q)=q
 posp:∀i,i<ops.size->pos i<ops.size/\ord (pos i)=i
 edge:∀j i,anc j i=true->∃(o:Oper) (e:Edge),ops[j]?=some o/\e∈o.after/\ZA .any e=true/\(e.on=i\/anc e.on i=true)
 dir:∀(j:Nat) (o:Oper) (e:Edge),ops[j]?=some o->e∈o.after->ZA .any e=true->anc j e.on=true/\e.on<ops.size
 apos:∀j i,anc j i=true->pos i<pos j
 s1:∀(i j:Nat) (o o':Oper),ops[i]?=some o->ops[j]?=some o'->A1 o=true->A1 o'=true->i≠j->anc i j=true\/anc j i=true
 s2:∀(i j:Nat) (o o':Oper),ops[i]?=some o->ops[j]?=some o'->A1 o=true->BO o'=true->anc j i=true\/pos j<pos i
 q1:∀(i k:Nat),sc i=some k->∃(o ok:Oper) (t:Tmp),ops[i]?=some o/\ops[k]?=some ok/\(o.op=.assign (.tmp t)\/o.op=.move (.tmp t))/\o.guard=none/\AZ ok=true/\ok.dst=some t/\anc i k=true
 s3:∀(j k:Nat) (o o':Oper) (t:Tmp),ops[j]?=some o->ops[k]?=some o'->(AZ o=true\/(sc j).isSome=true)->A1 o'=false->o.dst=some t->t∈reads ops o'->anc k j=true->
  sc k=some j\/∃(i:Nat) (oi:Oper),ops[i]?=some oi/\A1 oi=true/\anc i j=true/\anc k i=true
 s4:∀(i j:Nat) (o o':Oper),ops[i]?=some o->ops[j]?=some o'->A1 o=true->AZ o'=true->anc i j=true\/pos i<pos j
 s5:∀(i j:Nat) (o o':Oper),ops[i]?=some o->ops[j]?=some o'->BO o=true->H9 o=true->AZ o'=true->pos j<pos i->∃(k:Nat) (ok:Oper),ops[k]?=some ok/\A1 ok=true/\pos j<pos k/\pos k<pos i
 s6:∀(i j:Nat) (o o':Oper) (t:Tmp),ops[i]?=some o->ops[j]?=some o'->i≠j->o.dst=some t->o'.dst≠some t/\(t∈reads ops o'->anc j i=true\/anc i j=true)
structure Canon(C:Ctx)(call:Bi)(ops:Array Oper)(anc:Nat->Nat->Bool)(ord pos:Nat->Nat)(fr0:Fr)(h0:H)(v:Nat->V)(Hh:Nat->H)(F:Nat->Fr):Prop where
 h0:Hh 0=h0
 f0:F 0=fr0
 fn:∀q,q<=ops.size->(F q).n=fr0.n
 fget:∀q,q<ops.size->∀(o:Oper),ops[ord q]?=some o->∀t,(F (q+1)).get t=if o.dst=some t then v (ord q)else(F q).get t
 dst:∀(i:Nat) (o:Oper) (t:Tmp),ops[i]?=some o->o.dst=some t->t<fr0.n
 step:∀(i:Nat) (o:Oper),ops[i]?=some o->
  (Ai (F (pos i)) ops o=false/\v i=.tup []/\Hh (pos i+1)=Hh (pos i))\/
  (Ai (F (pos i)) ops o=true/\
   ((BO o=true/\CM C (F (pos i)) (Hh (pos i)) o=some (.val (v i) (Hh (pos i)))/\Hh (pos i+1)=Hh (pos i))\/
    (AZ o=true/\∃ob f,Qu C (F (pos i)) o=some (ob,f)/\v i=f (Hh (pos i)).nx/\Hh (pos i+1)=(Hh (pos i)).push ob)\/
    (A1 o=true/\B2 C call (F (pos i)) (Hh (pos i)) o=some (v i,Hh (pos i+1)))))
 stable:∀(i j:Nat) (o oj:Oper),ops[i]?=some o->ops[j]?=some oj->A1 o=true->BO oj=true->H9 oj=true->Ai (F (pos j)) ops oj=true->pos j<pos i->anc i j=false->
  CM C (F (pos j)) (Hh (pos i+1)) oj=some (.val (v j) (Hh (pos i+1)))
theorem kinds(o:Oper):BO o=true\/AZ o=true\/A1 o=true:=by
 grind [A1]
theorem D5{o:Oper}(h:BO o=true):AZ o=false:=by
 grind [BO,AZ]
theorem Jf{o:Oper}(h:A1 o=true):BO o=false/\AZ o=false:=by
 grind [A1]
section
variable {C:Ctx}{P:Program}{call:Bi}{ops:Array Oper}{anc:Nat->Nat->Bool}{ord pos:Nat->Nat}{sc:Nat->Option Nat}{fr0:Fr}{h0:H}{v:Nat->V}{Hh:Nat->H}{F:Nat->Fr}
theorem Fw(st:Stat ops anc ord pos sc)(j:Canon C call ops anc ord pos fr0 h0 v Hh F){k:Nat}{o:Oper}{t:Tmp}(c:ops[k]?=some o)(g:o.dst=some t):
  ∀q,q<=ops.size->pos k<q->(F q).get t=v k
 |0,_,h=>by omega
 |q+1,r,h=>by
  have b:q<ops.size:=a8
  obtain⟨i,n⟩:=st.ordp q b;rw[j.fget q b (ops[ord q]) (by simp[i]) t];have f:=(Za.1 c).1;by_cases e:pos k=q
  ·have l:ord q=k:=by rw[<-e];exact(st.posp k f).2
   grind
  ·have d:ord q≠k:=ae;have:=(st.s6 k (ord q) o (ops[ord q]) t c (by simp[i]) (Ne.symm d) g).1;rw[w9 this];exact Fw st j c g q a8 a8
theorem Fz(st:Stat ops anc ord pos sc)(c:Canon C call ops anc ord pos fr0 h0 v Hh F){t:Tmp}:
  ∀q,q<=ops.size->(∀k o,ops[k]?=some o->o.dst=some t->¬pos k<q)->(F q).get t=fr0.get t
 |0,_,_=>by rw[c.f0]
 |q+1,f,h=>by
  have b:q<ops.size:=a8
  obtain⟨d,e⟩:=st.ordp q b;rw[c.fget q b (ops[ord q]) (by simp[d]) t,w9]
  ·exact Fz st c q a8 ae
  grind
theorem SY(st:Stat ops anc ord pos sc)(d:Canon C call ops anc ord pos fr0 h0 v Hh F){i k:Nat}(h:sc i=some k):v i=v k:=by
 obtain⟨o,ok,t,c,e,s,l,r,j,f⟩:=st.q1 i k h;have b:=(Za.1 c).1;have n:=Fw st d e j (pos i) (Nat.le_of_lt (st.posp i b).1)<|st.apos i k f;have q:Ai (F<|pos i) ops o=true:=by unfold Ai;rw[l]
 have g:BO o=true:=by grind [BO]
 rcases d.step i o c with⟨u,_⟩|⟨_,⟨_,u,_⟩|⟨u,_⟩|⟨u,_⟩⟩
 ·grind
 ·grind [A3,CI,ev,Av]
 ·grind [D5]
 grind [Jf]
structure Inv(C:Ctx)(ops:Array Oper)(pos:Nat->Nat)(sc:Nat->Option Nat)(fr0:Fr)(v:Nat->V)(Hh:Nat->H)(F:Nat->Fr)(p0:Pl)(h0:H)(w0:World)(df:List Deferred)
  (S:Nat->Prop) (m:Nat) (fl:Nat->Nat) (p:Pl) (a:Act) (w:World):Prop where
 ext:Ext p0 h0 w0 p (Hh m) w
 gl:Gl C p
 mn:m<=ops.size
 mh:∀(k:Nat) (o:Oper),ops[k]?=some o->A1 o=true->(S k↔pos k<m)
 ma:∀(k:Nat) (o:Oper),ops[k]?=some o->AZ o=true->pos k<m->S k
 sz:a.tmps.size=fr0.n
 df:a.defers=df
 slot:∀t,(∀(i:Nat) (o:Oper),S i->ops[i]?=some o->o.dst≠some t)->Aa p (fr0.get t) (a.tmps.getD t undef)
 slotw:∀(i:Nat) (o:Oper) (t:Tmp),S i->ops[i]?=some o->o.dst=some t->((AZ o=true\/(sc i).isSome=true)->Ai (F (pos i)) ops o=true->pos i<m)->Aa p (v i) (a.tmps.getD t undef)
 flt:∀(i:Nat) (o:Oper),S i->ops[i]?=some o->AZ o=true->Ai (F (pos i)) ops o=true->m<=pos i->
  ∃n x ob f v',Qu C (F (pos i)) o=some (ob,f)/\w.heap[fl i]?=some x/\w0.heap.size<=fl i/\¬Im p (Hh m) (fl i)/\Ey p n ob x/\
   (∀(q:Pl) b,q[b]?=some (fl i,n)->Aa q (f b) v')/\(∀t,o.dst=some t->a.tmps.getD t undef=v')
 inj:∀(i j:Nat) (o o':Oper),S i->S j->ops[i]?=some o->ops[j]?=some o'->AZ o=true->AZ o'=true->Ai (F (pos i)) ops o=true->Ai (F (pos j)) ops o'=true->
  m<=pos i->m<=pos j->fl i=fl j->i=j
structure FG(ops:Array Oper)(pos:Nat->Nat)(sc:Nat->Option Nat)(S:Nat->Prop)(m:Nat)(a:Act):Prop where
 eq:∀(i k:Nat) (o ok:Oper) (t tk:Tmp),S i->ops[i]?=some o->sc i=some k->ops[k]?=some ok->o.dst=some t->ok.dst=some tk->m<=pos i->a.tmps.getD t undef=a.tmps.getD tk undef/\S k
theorem Inv.UD(st:Stat ops anc ord pos sc)(cn:Canon C call ops anc ord pos fr0 h0 v Hh F){p0:Pl}{w0:World}{df:List Deferred}{S:Nat->Prop}{fl:Nat->Nat}{a:Act}{w:World}:
  ∀(d m:Nat) {p:Pl},Inv C ops pos sc fr0 v Hh F p0 h0 w0 df S m fl p a w->FG ops pos sc S m a->m+d<=ops.size->
  (∀q,m<=q->q<m+d->∀(o:Oper),ops[ord q]?=some o->A1 o=false/\(AZ o=true->S (ord q)))->
  ∃p',Inv C ops pos sc fr0 v Hh F p0 h0 w0 df S (m+d) fl p' a w
 |0,m,p,g,_,_,_=>⟨p,g⟩
 |d+1,m,p,g,Q,hn,hq=>by
  have hm:m<ops.size:=a8
  obtain⟨g1,Y⟩:=st.ordp m hm;obtain⟨o0,hj⟩:∃o0,ops[ord m]?=some o0:=(by simp_all);obtain⟨q1,q2⟩:=hq m a8 a8 _ hj;have one:∃p',Inv C ops pos sc fr0 v Hh F p0 h0 w0 df S (m+1) fl p' a w:=by
   have L:∀(k:Nat) (o:Oper),ops[k]?=some o->A1 o=true->(S k↔pos k<m+1):=by
    intro k o u hv;rw[g.mh k o u hv];constructor
    ·omega
    ·intro h;by_cases e:pos k=m
     ·have z:=(Za.1 u).1;have K:ord m=k:=by rw[<-e];exact(st.posp k z).2
      grind
     ·omega
   have O:∀(k:Nat) (o:Oper),ops[k]?=some o->AZ o=true->pos k<m+1->S k:=by
    intro k o u M hlt;by_cases e:pos k=m
    ·have z:=(Za.1 u).1;have K:ord m=k:=by rw[<-e];exact(st.posp k z).2
     grind
    ·exact g.ma k o u M a8
   have same:Hh (m+1)=Hh m->(AZ o0=true->Ai (F<|pos<|ord m) ops o0=false)->(Ai (F<|pos<|ord m) ops o0=false->v (ord m)=.tup [])->
     Inv C ops pos sc fr0 v Hh F p0 h0 w0 df S (m+1) fl p a w:=by
    intro hh M _;refine⟨by rw[hh];exact g.ext,g.gl,by omega,L,O,g.sz,g.df,g.slot,fun i o t l c J hc=>?_,fun i o l c s r D=>?_,fun i j o o' l B c I s E r y D R he=>?_⟩
    ·by_cases Z:(sc i).isSome=true/\pos i=m
     ·obtain⟨k,u⟩:=ZD.1 Z.1;obtain⟨o2,ok,tk,h1,h2,h3,h4,h5,h6,h7⟩:=st.q1 i k u;obtain⟨e1,K⟩:=Q.eq i k o ok t tk l c u h2 J h6 a8;rw[SY st cn u,e1];have:=st.apos _ _ h7;exact g.slotw k ok tk K h2 h6 a8
     ·refine g.slotw i o t l c J fun s r=>?_
      have h1:=hc s r;by_cases e:pos i=m
      ·have A:=(Za.1 c).1;have K:ord m=i:=by rw[<-e];exact(st.posp i A).2
       grind
      ·omega
    ·obtain⟨n,x,ob,f,v',X,k2,k3,k4,k5⟩:=g.flt i o l c s r a8;exact⟨n,x,ob,f,v',X,k2,k3,by grind,k5⟩
    ·exact g.inj i j o o' l B c I s E r y a8 a8 he
   rcases cn.step (ord m) _ hj with⟨u1,G,U⟩|⟨u1,⟨G,U,u4⟩|⟨G,ob,f,U,u4,u5⟩|⟨G,U⟩⟩
   ·grind
   ·grind [D5]
   ·
    obtain⟨n,x,N,f',v',X,k2,k3,k4,k5,k6,k7⟩:=g.flt (ord m) _ (q2 G) hj G u1 a8;rw[U]at X;cases X;rw[Y]at u4 u5;have hx:=g.ext.O4 k2 k5 k4 k3;rw[<-u5]at hx;have hnew:(p++[(fl<|ord m,n)])[(Hh m).nx]?=some (fl<|ord m,n):=by rw[<-g.ext.rel.len];simp
    refine⟨p++[(fl<|ord m,n)],hx,?_,by omega,L,O,g.sz,g.df,fun t J=>(g.slot t J).mono _,fun i o t l c J hc=>?_,fun i o l c s r D=>?_,fun i j o o' l B c I s E r y D R he=>?_⟩
    ·exact Gp.app g.gl _
    ·by_cases e:i=ord m
     ·grind
     ·refine(g.slotw i o t l c J fun s r=>?_).mono _;have h1:=hc s r;have A:=(Za.1 c).1;have:pos i≠m:=fun K=>e (by rw[<-K];exact(st.posp i A).2.symm)
      omega
    ·obtain⟨n',x',N,f',v'',l1,l2,l3,l4,l5,l6,l7⟩:=g.flt i o l c s r a8;refine⟨n',x',N,f',v'',l1,l2,l3,?_,l5.mono _,l6,l7⟩;rintro⟨b,ob2,n2,W,m2⟩;rw[u5,H.AT]at W;by_cases e:b=(Hh m).nx
     ·have:fl (ord m)=fl i:=ae;have:=g.inj (ord m) i _ o (q2 G) l hj c G s u1 r a8 a8 this;grind
     ·rw[w9 e]at W;have hb:=g.ext.rel.lt W;rw[List.getElem?_append_left ae]at m2;exact l4 ⟨b,ob2,n2,W,m2⟩
    ·exact g.inj i j o o' l B c I s E r y a8 a8 he
   grind
  obtain⟨p',c⟩:=one;obtain⟨p'',hi''⟩:=Inv.UD st cn d (m+1) c ⟨fun i k o ok t tk g1 Y g3 g4 g5 g6 g7=>Q.eq i k o ok t tk g1 Y g3 g4 g5 g6 a8⟩ a8 ae;grind
end
section
variable {C:Ctx}{P:Program}{call:Bi}{ops:Array Oper}{anc:Nat->Nat->Bool}{ord pos:Nat->Nat}{sc:Nat->Option Nat}{fr0:Fr}{h0:H}{v:Nat->V}{Hh:Nat->H}{F:Nat->Fr}
 {p0:Pl} {w0:World} {df:List Deferred} {S:Nat->Prop} {m:Nat} {fl:Nat->Nat} {p:Pl} {a:Act} {w:World}
structure Iw(anc:Nat->Nat->Bool)(S:Nat->Prop)(i:Nat):Prop where
 fresh:¬S i
 all:∀k,anc i k=true->S k
def Down(anc:Nat->Nat->Bool)(S:Nat->Prop):Prop:=∀i k,S i->anc i k=true->S k
theorem operands(st:Stat ops anc ord pos sc)(n:Canon C call ops anc ord pos fr0 h0 v Hh F)(q:Inv C ops pos sc fr0 v Hh F p0 h0 w0 df S m fl p a w)(G:Down anc S){i:Nat}{o:Oper}(y:ops[i]?=some o)(u:Iw anc S i)
  (I:∀(k:Nat) (ok:Oper) (t:Tmp),ops[k]?=some ok->(AZ ok=true\/(sc k).isSome=true)->ok.dst=some t->t∈reads ops o->anc i k=true->pos k<m):Tp p (F<|pos i) a (reads ops o):=by
 have s:=(Za.1 y).1;have E:=(st.posp i s).1;refine⟨by rw[n.fn _ a8,q.sz],fun t D=>?_⟩;by_cases A:∃(k:Nat) (ok:Oper),k≠i/\ops[k]?=some ok/\ok.dst=some t
 ·obtain⟨k,ok,x,r,c⟩:=A;rcases(st.s6 k i ok o t r y x c).2 D with l|l
  ·have g:=u.all k l;rw[Fw st n r c (pos i) a8<|st.apos i k l];exact q.slotw k ok t g r c ae
  ·have g:¬S k:=fun h=>u.fresh<|G k i h l
   have d:∀(j:Nat) (oj:Oper),ops[j]?=some oj->oj.dst=some t->j=k:=by
    intro j oj f b;by_cases e:j=k
    ·exact e
    ·exact wd b (st.s6 k j ok oj t r f a8 c).1
   rw[Fz st n (pos i) a8 fun j oj f b B=>by
    have:=d j oj f b;subst this;have:=st.apos _ _ l;omega]
   refine q.slot t fun j oj z f b=>?_
   grind
 ·have d:∀(j:Nat) (oj:Oper),ops[j]?=some oj->oj.dst=some t->j=i:=by
   grind
  rw[Fz st n (pos i) a8 ae];refine q.slot t fun j oj z f b=>?_
  have:=d j oj f b;subst this;exact u.fresh z
def Rest(ops:Array Oper)(pos:Nat->Nat)(S:Nat->Prop)(m:Nat):Prop:=m=0\/∃(k:Nat) (o:Oper),ops[k]?=some o/\A1 o=true/\S k/\m=pos k+1
theorem Hz(st:Stat ops anc ord pos sc)(s:Down anc S)(t:Inv C ops pos sc fr0 v Hh F p0 h0 w0 df S m fl p a w)(b:Rest ops pos S m){k:Nat}{o:Oper}(r:ops[k]?=some o)(u:¬S k):
  m<=pos k\/∃(i:Nat) (oi:Oper),ops[i]?=some oi/\A1 oi=true/\S i/\m=pos i+1/\pos k<pos i/\anc i k=false:=by
 by_cases n:m<=pos k
 ·omega
 ·right;rcases b with rfl|⟨i,oi,g,q,j,l⟩
  ·omega
  ·refine⟨i,oi,g,q,j,l,?_,?_⟩
   ·have d:k≠i:=ae;have f:=(Za.1 r).1;have c:=(Za.1 g).1;have:pos k≠pos i:=fun e=>d (by rw[<-(st.posp k f).2,e,(st.posp i c).2])
    omega
   grind [Down]
theorem GY(st:Stat ops anc ord pos sc)(n:Inv C ops pos sc fr0 v Hh F p0 h0 w0 df S m fl p a w){i:Nat}{o:Oper}(j:ops[i]?=some o)(l:Iw anc S i)(g:AZ o=false){k:Nat}{ok:Oper}(e:ops[k]?=some ok)
  (d:A1 ok=true) (q:m<=pos k) (r:pos k<pos i):False:=by
 have c:¬S k:=fun h=>by have:=(n.mh k ok e d).1 h;omega
 have f:k≠i:=ae;rcases kinds o with h|h|h
 ·rcases st.s2 k i ok o e j d h with b|b
  ·exact c<|l.all k b
  ·omega
 ·grind
 ·rcases st.s1 k i ok o e j d h f with b|b
  ·have:=st.apos _ _ b;omega
  ·exact c<|l.all k b
theorem K5(st:Stat ops anc ord pos sc)(r:Canon C call ops anc ord pos fr0 h0 v Hh F)(A:Down anc S)(D:Inv C ops pos sc fr0 v Hh F p0 h0 w0 df S m fl p a w)(b:Rest ops pos S m){i:Nat}{o:Oper}(f:ops[i]?=some o)
  (J:Iw anc S i) (g:BO o=true) (l:Ai (F<|pos i) ops o=true) (n:CM C (F<|pos i) (Hh<|pos i) o=some (.val (v i)<|Hh<|pos i)):CM C (F<|pos i) (Hh m) o=some (.val (v i)<|Hh m):=by
 have q:=D5 g;cases c:H9 o with
 |false=>grind [Ot]
 |true=>
  rcases Hz st A D b f J.fresh with z|⟨k,ok,B,x,O,G,y,E⟩
  ·have j:=(Za.1 f).1;have I:=(st.posp i j).1;have key:∀d,m+d<=pos i->Hh (m+d)=Hh m:=by
    intro d;induction d with
    |zero=>simp
    |succ d R=>
     intro t;obtain⟨M,K⟩:=st.ordp (m+d) a8;obtain⟨e,hq⟩:∃e,ops[ord<|m+d]?=some e:=ae;rcases r.step _ e hq with⟨_,_,u⟩|⟨_,⟨_,_,u⟩|⟨s,_⟩|⟨s,_⟩⟩
     ·grind
     ·grind
     ·obtain⟨k,ok,Q,L,U,N⟩:=st.s5 i _ o e f hq g c s a8;grind [GY]
     grind [GY]
   have:=key (pos i-m) a8;grind
  ·rw[G];exact r.stable k i ok o B f x g c l y E
theorem BJ{a:Act}{d:Option Tmp}{x:Value}{t:Tmp}(h:d≠some t):(a.put d x).tmps.getD t undef=a.tmps.getD t undef:=by
 cases d with
 |none=>rfl
 |some s=>
  simp_all [ZM]
theorem Ce{a:Act}{x:Value}{t:Tmp}(h:t<a.tmps.size):(a.put (some t) x).tmps.getD t undef=x:=by
 simp[ZM,h]
theorem GX{a:Act}{d:Option Tmp}{x:Value}:(a.put d x).tmps.size=a.tmps.size:=by cases d<;>simp[ZM]
theorem Hy{a:Act}{d:Option Tmp}{x:Value}:(a.put d x).defers=a.defers:=by cases d<;>rfl
theorem FG.put(st:Stat ops anc ord pos sc){S:Nat->Prop}{m q:Nat}{a:Act}(z:FG ops pos sc S m a){i:Nat}{o:Oper}(d:ops[i]?=some o)(f:¬S i)(E:Iw anc S i){x:Value}(J:m<=q)
  (A:∀(k:Nat) (ok:Oper) (t tk:Tmp),sc i=some k->ops[k]?=some ok->o.dst=some t->ok.dst=some tk->q<=pos i->(a.put o.dst x).tmps.getD t undef=a.tmps.getD tk undef):
  FG ops pos sc (fun k=>S k\/k=i) q (a.put o.dst x):=by
 refine⟨fun j k oj ok t tk y b n c r g D=>?_⟩;obtain⟨o1,K,U,q1,W,M,X,Q,L,u⟩:=st.q1 j k n;by_cases e:j=i
 ·subst e;rw[d]at b;cases b;have G:S k:=E.all k u;refine⟨?_,.inl G⟩;rw[A k ok t tk n c r g D];have s:k≠j:=ae;have:o.dst≠some tk:=(st.s6 k j ok o tk c d s g).1;rw[BJ this]
 ·have B:=y.resolve_right e;obtain⟨R,N⟩:=z.eq j k oj ok t tk B b n c r g a8;have l:k≠i:=ae;have O:o.dst≠some t:=(st.s6 j i oj o t b d e r).1;have I:o.dst≠some tk:=(st.s6 k i ok o tk c d l g).1;grind [BJ]
theorem Inv.quiet(st:Stat ops anc ord pos sc)(Y:Canon C call ops anc ord pos fr0 h0 v Hh F)(c:Inv C ops pos sc fr0 v Hh F p0 h0 w0 df S m fl p a w){i:Nat}{o:Oper}(z:ops[i]?=some o)(q:¬S i)(I:A1 o=false)
  (hna:AZ o=true->Ai (F<|pos i) ops o=false) {x:Value} (hx:((sc i).isSome=true->Ai (F<|pos i) ops o=true->pos i<m)->Aa p (v i) x):Inv C ops pos sc fr0 v Hh F p0 h0 w0 df (fun k=>S k\/k=i) m fl p (a.put o.dst x) w:=by
 have G:∀(k:Nat) (ok:Oper) (t:Tmp),k≠i->ops[k]?=some ok->ok.dst=some t->o.dst≠some t:=fun k ok t E b g=>(st.s6 k i ok o t b z E g).1
 refine⟨c.ext,c.gl,c.mn,fun k ok b R=>?_,fun k ok b A u=>.inl<|c.ma k ok b A u,by rw[GX,c.sz],by rw[Hy,c.df],fun t g=>?_,fun k ok t J b g O=>?_,fun k ok J b D s d=>?_,
  fun k j ok oj J Z b U D B s r d l K=>?_⟩
 ·rw[<-c.mh k ok b R];grind
 ·have Q:o.dst≠some t:=ae;rw[BJ Q];exact c.slot t ae
 ·by_cases e:k=i
  ·subst e;rw[z]at b;cases b;rw[g,Ce<|by rw[c.sz];exact Y.dst k o t z g];grind
  ·rw[BJ ae];exact c.slotw k ok t ae b g O
 ·obtain⟨n,y,ob,f,v',W,L,X,M,k5,N,k7⟩:=c.flt k ok ae b D s d;exact⟨n,y,ob,f,v',W,L,X,M,k5,N,(by grind [BJ])⟩
 ·exact c.inj k j ok oj ae ae b U D B s r d l K
theorem Inv.made(st:Stat ops anc ord pos sc)(c:Inv C ops pos sc fr0 v Hh F p0 h0 w0 df S m fl p a w){i:Nat}{o:Oper}(I:ops[i]?=some o)(s:AZ o=true)(hwd:Ai (F<|pos i) ops o=true)(g:m<=pos i)
  (cn:Canon C call ops anc ord pos fr0 h0 v Hh F) {ob:O} {f:Nat->V} (z:Qu C (F<|pos i) o=some (ob,f)) {x:Obj} {n:Nat} {v':Value} (hx:Ey p n ob x) (Q:∀(q:Pl) b,q[b]?=some (w.heap.size,n)->Aa q (f b) v'):
  Inv C ops pos sc fr0 v Hh F p0 h0 w0 df (fun k=>S k\/k=i) m (fun k=>if k=i then w.heap.size else fl k) p (a.put o.dst v') { w with heap:=w.heap.push x }:=by
 have U:∀(k:Nat) (ok:Oper) (t:Tmp),k≠i->ops[k]?=some ok->ok.dst=some t->o.dst≠some t:=fun k ok t L d r=>(st.s6 k i ok o t d I L r).1
 have W:A1 o=false:=by simp[A1,s]
 refine⟨c.ext.aside x,c.gl,c.mn,fun k ok d Q=>?_,fun k ok d s E=>.inl<|c.ma k ok d s E,by rw[GX,c.sz],by rw[Hy,c.df],fun t r=>?_,fun k ok t X d r Z=>?_,fun k ok X d D B g=>?_,
  fun k j ok oj X hS' d R D A B u g l M=>?_⟩
 ·rw[<-c.mh k ok d Q];grind
 ·have h1:o.dst≠some t:=ae;rw[BJ h1];exact c.slot t ae
 ·by_cases e:k=i
  ·grind
  ·rw[BJ ae];exact c.slotw k ok t ae d r Z
 ·by_cases e:k=i
  ·subst e;rw[I]at d;cases d;refine⟨n,x,ob,f,v',z,by simp,by simpa using c.ext.size,fun G=>?_,hx,by grind,fun t r=>?_⟩
   ·have:=c.ext.rel.MK G;grind
   ·rw[r,Ce<|by rw[c.sz];exact cn.dst k o t I r]
  ·obtain⟨n',y,K,f',J,k1,N,k3,k4,k5,k6,k7⟩:=c.flt k ok ae d D B g;refine⟨n',y,K,f',J,k1,?_,by grind,by grind,k5,by grind,(by grind [BJ])⟩;grind
 ·by_cases e:k=i<;>by_cases Y:j=i
  ·omega
  ·obtain⟨_,_,_,_,_,_,N,_⟩:=c.flt j oj ae R A u l;grind
  ·obtain⟨_,_,_,_,_,_,N,_⟩:=c.flt k ok ae d D B g;grind
  ·simp only[e,wi,Y]at M;exact c.inj k j ok oj ae ae d R D A B u g l M
theorem Inv.wrote(st:Stat ops anc ord pos sc)(cn:Canon C call ops anc ord pos fr0 h0 v Hh F){i:Nat}{o:Oper}(c:Inv C ops pos sc fr0 v Hh F p0 h0 w0 df S (pos i) fl p a w)(s:ops[i]?=some o)(_:A1 o=true)(u:¬S i)
  {p':Pl} {w':World} {x:Value} (d:Ext p (Hh<|pos i) w p' (Hh<|pos i+1) w') (hx:Aa p' (v i) x):
  Inv C ops pos sc fr0 v Hh F p0 h0 w0 df (fun k=>S k\/k=i) (pos i+1) fl p' (a.put o.dst x) w':=by
 have Q:∀(k:Nat) (ok:Oper) (t:Tmp),k≠i->ops[k]?=some ok->ok.dst=some t->o.dst≠some t:=fun k ok t L b g=>(st.s6 k i ok o t b s L g).1
 have r:=(Za.1 s).1;have Y:∀ {k:Nat} {ok:Oper},ops[k]?=some ok->pos k=pos i->k=i:=fun {k ok} b e=>by
  have I:=(Za.1 b).1;rw[<-(st.posp k I).2,e,(st.posp i r).2]
 refine⟨c.ext.trans d,c.gl.ext d,(st.posp i r).1,fun k ok b O=>?_,fun k ok b D l=>?_,by rw[GX,c.sz],by rw[Hy,c.df],fun t g=>?_,fun k ok t R b g hc=>?_,fun k ok R b K A E=>?_,
  fun k j ok oj R hS' b Z K G A z E U J=>?_⟩
 ·constructor
  ·rintro(h|rfl)
   ·have:=(c.mh k ok b O).1 h;omega
   ·omega
  ·intro h;by_cases e:pos k=pos i
   ·grind
   ·exact .inl ((c.mh k ok b O).2 a8)
 ·by_cases e:pos k=pos i
  ·grind
  ·exact .inl (c.ma k ok b D a8)
 ·have N:o.dst≠some t:=ae;rw[BJ N];exact d.O0 (c.slot t ae)
 ·by_cases e:k=i
  ·subst e;rw[s]at b;cases b;rw[g,Ce<|by rw[c.sz];exact cn.dst k o t s g];exact hx
  ·rw[BJ ae];refine d.O0 (c.slotw k ok t ae b g fun N h2=>?_);grind
 ·obtain⟨n,y,ob,f,v',k1,M,k3,W,k5,X,k7⟩:=c.flt k ok ae b K A a8;have l:=(Za.1 M).1;obtain⟨q,rfl⟩:=d.pre;refine⟨n,y,ob,f,v',k1,by rw[d.same _ l W];exact M,k3,fun B=>?_,k5.mono _,X,(by grind [BJ])⟩;rcases d.im _ B with h|h
  ·grind
  ·omega
 ·exact c.inj k j ok oj ae ae b Z K G A z a8 a8 J
theorem Inv.along(b:Inv C ops pos sc fr0 v Hh F p0 h0 w0 df S m fl p a w){p':Pl}{w':World}(c:Ext p (Hh m) w p' (Hh m) w'):Inv C ops pos sc fr0 v Hh F p0 h0 w0 df S m fl p' a w':=by
 refine⟨b.ext.trans c,b.gl.ext c,b.mn,b.mh,b.ma,b.sz,b.df,fun t u=>c.O0<|b.slot t u,fun i o t J x r s=>c.O0<|b.slotw i o t J x r s,fun k ok z L I l g=>?_,b.inj⟩;obtain⟨n,y,ob,f,v',A,j,E,B,K,G,D⟩:=b.flt k ok z L I l g;have d:=(Za.1 j).1;obtain⟨q,rfl⟩:=c.pre;refine⟨n,y,ob,f,v',A,by rw[c.same _ d B];exact j,E,fun e=>?_,K.mono _,G,D⟩;rcases c.im _ e with h|h
 ·grind
 ·omega
theorem PX{o:Oper}(h:AZ o=true):∀c,o.op≠ .defer c:=by
 grind [AZ]
theorem up(hC:C.Ok P)(Y:call.Ok C P)(st:Stat ops anc ord pos sc)(D:Canon C call ops anc ord pos fr0 h0 v Hh F)(G:Inv C ops pos sc fr0 v Hh F p0 h0 w0 df S m fl p a w)(R:FG ops pos sc S m a)(hd:Down anc S)(J:Rest ops pos S m)
  {i:Nat} {o:Oper} (d:ops[i]?=some o) (y:Iw anc S i) {Q:Exit->Act->World->Prop} {K:Act->World->Prop}
  (W:∀m' fl' p' a' w',Inv C ops pos sc fr0 v Hh F p0 h0 w0 df (fun k=>S k\/k=i) m' fl' p' a' w'->FG ops pos sc (fun k=>S k\/k=i) m' a'->Rest ops pos (fun k=>S k\/k=i) m'->K a' w') {ro:Option Nat} {nn:Nat}:wpOpIn (FW ro) nn P ops Q i K a w:=by
 have hin:=(Za.1 d).1;have I:∀cs b,o.op≠ .select cs b:=fun cs b=>Region.noSelect_spec st.sel i o cs b d
 have g:Rest ops pos (fun k=>S k\/k=i) m:=by
  grind [Rest]
 unfold wpOpIn;simp only[d];cases r:A1 o with
 |false=>
  by_cases hcp:(sc i).isSome=true/\m<=pos i
  ·
   obtain⟨k,hk⟩:=ZD.1 hcp.1;obtain⟨o2,ok,t,q1,q2,q3,q4,q5,q6,q7⟩:=st.q1 i k hk;rw[d]at q1;cases q1;have hw:Zu o (yielded ops a.tmps)=true:=by grind [Zu]
   simp only[hw,wg];refine⟨fun _ _=>trivial,?_⟩;have hrun:(execOp a.eval o).run P w=.ok (.value<|a.tmps.getD t undef) w:=by
    unfold execOp;rcases q3 with q3|q3<;>simp[q3,Act.eval]
   rw[Zj _ _ _ ae,hrun,Zp];have hnal:AZ o=false:=by grind [AZ]
   refine W m fl p _ w (G.quiet st D d y.fresh r ae<|by grind [Ai]) (R.put st d y.fresh y a8 fun k' ok' t' tk h1 h2 h3 h4 _=>?_) g;rw[hk]at h1;cases h1;rw[q2]at h2;cases h2;rw[q6]at h4;cases h4;rw[h3,Ce<|by rw[G.sz];exact D.dst i o t' d h3]
  have hcp':∀k,sc i=some k->pos i<m:=ae;have hfl:∀(k:Nat) (ok:Oper) (t:Tmp),ops[k]?=some ok->(AZ ok=true\/(sc k).isSome=true)->ok.dst=some t->t∈reads ops o->anc i k=true->pos k<m:=by
   intro k ok t hk O hkt ht E;rcases st.s3 k i ok o t hk d O r hkt ht E with h|⟨j,oj,j1,j2,j3,j4⟩
   ·have:=hcp' k h;have:=st.apos _ _ E;omega
   ·have:=(G.mh j oj j1 j2).1<|y.all j j4;have:=st.apos _ _ j3;omega
  have z:∀x,FG ops pos sc (fun k=>S k\/k=i) m (a.put o.dst x):=fun x=>R.put st d y.fresh y a8 ae
  have A:=operands st D G hd d y hfl;rw[Io A];rcases D.step i o d with⟨N,L,s⟩|⟨N,u⟩
  ·simp only[N,Zv,wi];refine⟨fun _ _=>trivial,?_⟩;exact W m fl p _ w (G.quiet st D d y.fresh r (fun _=>N)<|by simp_all [Aa,undef]) (z _) g
  ·simp only[N,wg];refine⟨fun _ _=>trivial,?_⟩;rcases u with⟨L,s,u4⟩|⟨L,ob,f,s,u4,u5⟩|⟨L,s⟩
   ·have X:=K5 st D hd G J d y L N s;obtain⟨v',p',w',M,U,Z⟩:=Ek hC G.ext.rel G.gl A I X;rw[Zj _ _ _<|CT X,M,Zp];have hi2:=G.along Z;exact W m fl p' _ w' (hi2.quiet st D d y.fresh r (by grind [D5]) fun _=>U) (z _) g
   ·have hle:m<=pos i:=by
     rcases Hz st hd G J d y.fresh with h|⟨k,ok,h1,h2,h3,h4,h5,h6⟩
     ·exact h
     ·rcases st.s4 k i ok o h1 d h2 L with h7|h7
      ·grind
      ·omega
    obtain⟨x,n,v',M,U,Z⟩:=S5 (P:=P) hC G.gl A s;rw[Zj _ _ _<|PX L,M,Zp];exact W m _ p _ _ (G.made st d L N hle D s U Z) (z _) g
   grind
 |true=>
  obtain⟨hnr,hnal⟩:=Jf r;have hle:m<=pos i:=by
   rcases ZN (pos i) m with h|h
   ·exact wd ((G.mh i o d r).2 h) y.fresh
   omega
  have hpn:=(st.posp i hin).1;obtain⟨p1,c⟩:=Inv.UD st D (pos i-m) m G R a8 (fun q h1 h2 oq hq=>by
   obtain⟨M,U⟩:=st.ordp q a8;refine⟨?_,fun O=>?_⟩
   ·grind [GY]
   ·rcases st.s4 i (ord q) o oq d hq r O with h3|h3
    ·exact y.all _ h3
    omega)
  rw[show m+(pos i-m)=pos i from by omega]at c;have A:=operands st D c hd d y fun k ok t hk O _ _ E=>st.apos _ _ E
  have z:∀x,FG ops pos sc (fun k=>S k\/k=i) (pos i+1) (a.put o.dst x):=fun x=>R.put st d y.fresh y a8 a8
  rw[Io A];have l:Rest ops pos (fun k=>S k\/k=i) (pos i+1):=.inr ae;rcases D.step i o d with⟨N,L,s⟩|⟨N,u⟩
  ·simp only[N,Zv,wi];refine⟨fun _ _=>trivial,?_⟩;have he:Ext p1 (Hh<|pos i) w p1 (Hh<|pos i+1) w:=by rw[s];exact Zo c.ext.rel
   exact W _ _ _ _ _ (c.wrote st D d r y.fresh he<|by simp_all [Aa,undef]) (z _) l
  ·simp only[N,wg];refine⟨fun _ _=>trivial,?_⟩;rcases u with⟨L,s,u4⟩|⟨L,ob,f,s,u4,u5⟩|⟨L,s⟩
   ·grind
   ·grind
   ·unfold B2 at s;split at s
    case h_4=>cases s
    case h_1=>
     rename_i vv hh B;obtain⟨rfl,rfl⟩:=s;obtain⟨v',p',w',M,U,Z⟩:=Ek hC c.ext.rel c.gl A I B;rw[Zj _ _ _<|CT B,M,Zp];exact W _ _ _ _ _ (c.wrote st D d r y.fresh Z U) (z _) l
    case h_2=>
     rename_i hh B;simp only[Ze,ZJ]at s;obtain⟨u4,rfl⟩:=s;obtain⟨p',w',M,Z⟩:=Ek hC c.ext.rel c.gl A I B;rw[Zj _ _ _<|CT B,M,Oper.uponIn_skip];exact W _ _ _ _ _ (c.wrote st D d r y.fresh Z<|by rw[<-u4];simp[Aa,undef]) (z _) l
    case h_3=>
     rename_i f args B;obtain⟨args',M,U⟩:=Ek hC c.ext.rel c.gl A I B;rw[Zj _ _ _<|CT B,M,Oper.uponIn_enter];split at s
     case h_2=>cases s
     rename_i x1 x2 hcl;cases s;refine⟨(by grind [FW,Zz]),Lz.2<|(Y.fn f args _ _ hcl p1 w args' c.ext.rel c.gl U).mono ?_⟩;rintro e w' ⟨v',h',x',p',hm,rfl,k1,k2⟩;rw[Zl]at hm;cases hm;exact W _ _ _ _ _ (c.wrote st D d r y.fresh k2 k1) (z _) l
theorem Inv.congr{b:Nat->Prop}(h:∀k,S k↔b k)(c:Inv C ops pos sc fr0 v Hh F p0 h0 w0 df S m fl p a w):Inv C ops pos sc fr0 v Hh F p0 h0 w0 df b m fl p a w:=by
 have e:S=b:=ae;grind
theorem FG.congr{b:Nat->Prop}(h:∀k,S k↔b k)(c:FG ops pos sc S m a):FG ops pos sc b m a:=by
 have e:S=b:=ae;grind
def Ls(l:Array Bool)(k:Nat):Prop:=l.getD k false=true
theorem KR{l:Array Bool}(n:Nat)(c:l.size=n){i:Nat}(d:i<n)(b:l.getD i true=false):
  ((Zw n).filter fun k=> !(l.setIfInBounds i true).getD k true).length<((Zw n).filter fun k=> !l.getD k true).length:=by
 have sub:∀k,(!(l.setIfInBounds i true).getD k true)=true->(!l.getD k true)=true:=by
  intro k g;by_cases e:i=k
  ·grind
  simp_all
 have key:∀(L:List Nat),(L.filter fun k=> !(l.setIfInBounds i true).getD k true).length<=(L.filter fun k=> !l.getD k true).length/\(i∈L->(L.filter fun k=> !(l.setIfInBounds i true).getD k true).length<(L.filter fun k=> !l.getD k true).length):=by
  intro L;induction L with
  |nil=>simp
  |cons x L f=>
   simp only[List.filter_cons];constructor
   ·grind
   ·by_cases e:i=x
    ·subst e;rw[w9 (by simp),wa<|by simp[b]];grind
    grind
 grind
theorem Qi(hC:C.Ok P)(s:call.Ok C P)(st:Stat ops anc ord pos sc)(E:Canon C call ops anc ord pos fr0 h0 v Hh F){Q:Exit->Act->World->Prop}
  (hQ:∀p' J w',AS p' (F ops.size) J->Ext p0 h0 w0 p' (Hh ops.size) w'->J.defers=df->Q .normal J w') {ro:Option Nat} {nn:Nat}:
  ∀(b:Nat) (l:Array Bool),l.size=ops.size->((Zw ops.size).filter fun k=> !l.getD k true).length<=b->∀ {m:Nat} {fl:Nat->Nat} {p:Pl} {a:Act} {w:World},
   Inv C ops pos sc fr0 v Hh F p0 h0 w0 df (Ls l) m fl p a w->FG ops pos sc (Ls l) m a->Down anc (Ls l)->Rest ops pos (Ls l) m->wpAnyIn (FW ro) nn P .any ops Q b l a w:=by
 have fin:∀(l:Array Bool),l.size=ops.size->ZF .any ops l=[]->∀ {m:Nat} {fl:Nat->Nat} {p:Pl} {a:Act} {w:World},
   Inv C ops pos sc fr0 v Hh F p0 h0 w0 df (Ls l) m fl p a w->FG ops pos sc (Ls l) m a->Q .normal a w:=by
  intro l U D m fl p a w x n;have all:∀q,q<=ops.size->∀k,k<ops.size->pos k<q->Ls l k:=by
   intro q;induction q with
   |zero=>omega
   |succ q N=>
    intro hq k d hlt;by_cases e:pos k=q
    ·apply Classical.byContradiction;intro hns;have X:k∈ZF .any ops l:=by
      rw[mem_ready];refine⟨?_,ops[k],by simp[d],fun W M hb=>?_⟩
      ·grind [Ls]
      ·obtain⟨L,y⟩:=st.dir k _ W (by simp[d]) M hb;have h3:=st.apos _ _ L;exact N a8 W.on y a8
     grind
    grind
  have r:∀k,k<ops.size->Ls l k:=fun k d=>all ops.size a8 k d (st.posp k d).1
  obtain⟨p',c⟩:=Inv.UD st E (ops.size-m) m x n (by have:=x.mn;omega) (fun q L y o ho=>by
   obtain⟨R,Z⟩:=st.ordp q a8;refine⟨?_,ae⟩;cases hv:A1 o with
   |false=>rfl
   |true=>have:=(x.mh _ o ho hv).1<|r _ R;omega)
  rw[show m+(ops.size-m)=ops.size from by have:=x.mn;omega]at c;refine hQ p' a w ⟨by rw[E.fn _ a8,c.sz],fun t=>?_⟩ c.ext c.df;by_cases hw:∃(k:Nat) (ok:Oper),ops[k]?=some ok/\ok.dst=some t
  ·obtain⟨k,ok,d,B⟩:=hw;have u:=(Za.1 d).1;rw[Fw st E d B _ a8 (st.posp k u).1];exact c.slotw k ok t (r k u) d B fun _ _=>(st.posp k u).1
  ·rw[Fz st E _ a8 ae];exact c.slot t ae
 intro b;induction b with
 |zero=>
  intro l U z m fl p a w x n K g;have D:ZF .any ops l=[]:=by
   simp_all [ZF,Zw]
  exact⟨D,ae⟩
 |succ b N=>
  intro l U z m fl p a w x n K g;refine⟨ae,fun i Y=>?_⟩;obtain⟨L,o,y,h3⟩:=mem_ready.1 Y;have hin:=(Za.1 y).1;have f:Iw anc (Ls l) i:=by
   refine⟨fun hs=>?_,fun k d=>?_⟩
   ·grind [Ls]
   ·obtain⟨o',e,R,Z,g3,g4⟩:=st.edge i k d;grind [Ls,Down]
  refine up hC s st E x n K g y f fun m' fl' p' J w' c A G=>?_
  have O:∀k,(Ls l k\/k=i)↔Ls (l.setIfInBounds i true) k:=by
   intro k;unfold Ls;by_cases e:k=i
   ·simp_all
   ·rw[getD_set_ne false a8];simp[e]
  refine N (l.setIfInBounds i true) ae ?_ (c.congr O) (A.congr O) ?_ (by simp_all)
  ·grind [KR]
  ·intro j k I d;rw[<-O]at I ⊢;rcases I with I|rfl
   ·exact .inl<|K j k I d
   ·exact .inl<|f.all k d
theorem Qn(q:C.Ok P)(b:call.Ok C P)(j:P.follows .mixedOrders=true)(st:Stat ops anc ord pos sc)(e:Canon C call ops anc ord pos fr0 h0 v Hh F){Q:Exit->Act->World->Prop}(s:R p h0 w)(g:Gl C p)(d:AS p fr0 a)
  {id:Nat} (l:∀p' c w',AS p' (F ops.size) c->Ext p h0 w p' (Hh ops.size) w'->c.defers=a.defers->Q .normal c w') {ro:Option Nat} {n:Nat}:(Code.region id ops true).wpIn (FW ro) n P Q a w:=by
 refine wpIn_region_any j ?_;have o:=Ext.drew s<|w.drawn+1;have r:∀k,¬Ls (Array.replicate ops.size false) k:=by
  intro k f;unfold Ls at f;rw[Zi]at f;grind
 refine Qi (p0:=p) (h0:=h0) (w0:=w) (df:=a.defers) q b st e l ops.size _ (by simp) ae (m:=0) (fl:=fun _=>0) (p:=p)
  ⟨by rw[e.h0];exact o,g,Nat.zero_le _,ae,a8,d.1.symm,rfl,fun t _=>d.2 t,ae,ae,ae⟩
  ⟨ae⟩ (fun i k h=>ae) (.inl rfl)
end
structure Gi where
 anc:List Nat
 ord:List Nat
 pos:List Nat
 sc:List (Option Nat)
def Uc(acc:List Nat)(o:Oper):Nat:=
 o.after.toList.foldl (fun s e=>bif ZA .any e then s|||(2^e.on|||acc.getD e.on 0)else s) 0
def R4:List Oper->List Nat->List Nat
 |[],b=>b
 |o::os,b=>R4 os<|b++[Uc b o]
def tb(m i:Nat):Bool:=m.testBit i
def sub(a d:Nat):Bool:=Zm (a&&&d) a
def DZ(f:Nat->Oper->Bool):Nat->List Oper->Option Nat
 |_,[]=>none
 |i,o::os=>bif f i o then some i else DZ f (i+1) os
def Qt(f:Nat->Oper->Bool):Nat->List Oper->List Nat
 |_,[]=>[]
 |i,o::os=>bif f i o then i::Qt f (i+1) os else Qt f (i+1) os
def Kl(ops:List Oper)(anc:List Nat):Nat->Nat->List Nat->List Nat
 |0,_,out=>out.reverse
 |fuel+1,d,out=>
  match DZ (fun i o=>BO o&& !tb d i&&sub (anc.getD i 0) d) 0 ops with
  |some i=>Kl ops anc fuel (d|||2^i) (i::out)
  |none=>
   match DZ (fun i o=>A1 o&& !tb d i) 0 ops with
   |some k=>
    let b:=Qt (fun i o=>AZ o&& !tb d i&&tb (anc.getD k 0) i) 0 ops
    bif b.isEmpty then Kl ops anc fuel (d|||2^k) (k::out)
    else Kl ops anc fuel (b.foldl (fun s i=>s|||2^i) d)<|b.reverse++out
   |none=>
    match DZ (fun i o=>AZ o&& !tb d i) 0 ops with
    |some i=>Kl ops anc fuel (d|||2^i) (i::out)
    |none=>out.reverse
def idx(l:List Nat)(i:Nat):Nat:=l.getD i 0
def TR(ord:List Nat)(n:Nat):List Nat:=(Zw n).map fun i=>ord.idxOf i
def I9(o:Oper):Option Tmp:=
 match o.guard,o.op with
 |none,.assign (.tmp t)=>some t
 |none,.move (.tmp t)=>some t
 |_,_=>none
def Ur(ops:List Oper)(anc:List Nat)(i:Nat)(o:Oper):Option Nat:=
 match I9 o with
 |some t=>
  match DZ (fun k x=>AZ x&&(x.dst==some t)&&tb (anc.getD i 0) k) 0 ops with
  |some k=>match DZ (fun h x=>A1 x&&tb (anc.getD h 0) k&&tb (anc.getD i 0) h) 0 ops with
   |none=>some k
   |some _=>none
  |none=>none
 |none=>none
def BS(ops:Array Oper):Gi:=
 let anc:=R4 ops.toList []
 let ord:=Kl ops.toList anc (3*ops.size+3) 0 []
 ⟨anc,ord,TR ord ops.size,ops.toList.zipIdx.map fun(o,i)=>Ur ops.toList anc i o⟩
def Gi.s(pl:Gi)(i:Nat):Option Nat:=pl.sc.getD i none
def Gi.a(pl:Gi)(j i:Nat):Bool:=(idx pl.anc j).testBit i
def Mz(ops:Array Oper)(f:Nat->Oper->Nat->Oper->Bool):Bool:=
 ops.toList.zipIdx.all fun(o,i)=>ops.toList.zipIdx.all fun(o',j)=>f i o j o'
def Di(ops:Array Oper)(pl:Gi):Bool:=
 let n:=ops.size
 let A:=pl.a
 let pos:=idx pl.pos
 let ord:=idx pl.ord
 Region.noSelect ops&&
 ((Zw n).all fun q=>Zf (ord q) n&&Zm (pos<|ord q) q)&&
 ((Zw n).all fun i=>Zf (pos i) n&&Zm (ord<|pos i) i)&&
 (pl.anc.length==n)&&(pl.ord.length==n)&&
 (pl.sc.zipIdx.all fun(s,i)=>match s with
  |none=>true
  |some k=>match ops[i]?,ops[k]? with
   |some o,some ok=>match I9 o with
    |some t=>AZ ok&&(ok.dst==some t)&&A i k
    |none=>false
   |_,_=>false)&&
 (ops.toList.zipIdx.all fun(o,j)=>Zf (idx pl.anc j) (2^n)&&
  ((Zw n).all fun i=> !A j i||((o.after.toList.any fun e=>ZA .any e&&(Zm e.on i||A e.on i))&&Zf (pos i) (pos j)))&&
  (o.after.toList.all fun e=> !ZA .any e||(A j e.on&&Zf e.on n)))&&
 (Mz ops fun i o j o'=>
  (!(A1 o&&A1 o')||Zm i j||A i j||A j i)&&
  (!(A1 o&&BO o')||A j i||Zf (pos j) (pos i))&&
  (!((AZ o||(pl.s i).isSome)&& !A1 o')|| !A j i||(match o.dst with|some t=> !((reads ops o').contains t)|none=>true)||(pl.s j==some i)||(ops.toList.zipIdx.any fun(x,k)=>A1 x&&A k i&&A j k))&&
  (!(A1 o&&AZ o')||A i j||Zf (pos i) (pos j))&&
  (!(BO o&&H9 o&&AZ o')|| !Zf (pos j) (pos i)||(ops.toList.zipIdx.any fun(x,k)=>A1 x&&Zf (pos j) (pos k)&&Zf (pos k) (pos i)))&&
  (Zm i j||(match o.dst with
   |none=>true
   |some t=> !(o'.dst==some t)&&(!((reads ops o').contains t)||A j i||A i j))))
theorem Em{ops:Array Oper}{i:Nat}{o:Oper}(h:ops[i]?=some o):(o,i)∈ops.toList.zipIdx:=by
 grind
theorem PF{ops:Array Oper}{i:Nat}{o:Oper}(h:(o,i)∈ops.toList.zipIdx):ops[i]?=some o:=by
 grind
theorem Km{o:Oper}{t:Tmp}(h:I9 o=some t):(o.op=.assign (.tmp t)\/o.op=.move (.tmp t))/\o.guard=none:=by
 grind [I9]
theorem MN{ops:Array Oper}{pl:Gi}(I:Di ops pl=true):Stat ops pl.a (idx pl.ord) (idx pl.pos) pl.s:=by
 unfold Di at I;simp only[Zc]at I;obtain⟨⟨⟨⟨⟨⟨⟨h0,Y⟩,R⟩,Z⟩,_⟩,hq⟩,y⟩,U⟩:=I;simp only[Zh,ZI,Zc,Zq,Al,w5]at Y R;simp only[Zh]at y;have n:∀(i j:Nat) (o o':Oper),ops[i]?=some o->ops[j]?=some o'->_:=fun i j o o' f d=>Zh.1 (Zh.1 U (o,i)<|Em f) (o',j)<|Em d
 simp only[Zc,Zk,Zs,Al,w5,Dn,decide_eq_false_iff_not,Bool.and_eq_false_imp]at n;have g:∀(j i:Nat),pl.a j i=true->j<ops.size/\i<ops.size:=by
  intro j i h;have d:j<ops.size:=by
   rcases ZN j ops.size with b|b
   ·exact b
   ·have hl:pl.anc.length=ops.size:=by simpa using Z
    unfold Gi.a idx at h;rw[ZB,List.getElem?_eq_none a8]at h;simp at h
  refine⟨d,?_⟩;have b:=y (ops[j],j) (Em<|by simp[d]);simp only[Zc,Zq]at b;rcases ZN i ops.size with c|c
  ·exact c
  ·have q:=b.1.1;have h9:idx pl.anc j<2^i:=Nat.lt_of_lt_of_le q (Nat.pow_le_pow_right a8 c);unfold Gi.a at h;rw[Nat.testBit_lt_two_pow h9]at h;cases h
 refine⟨h0,a8,a8,fun j i h=>?_,fun j o e d B O=>?_,fun j i h=>?_,fun i j o o' f d z hv' J=>?_,fun i j o o' f d z K=>?_,fun i k h=>?_,fun j k o o' t d hk A z r l h=>?_,fun i j o o' f d z A=>?_,
  fun i j o o' f d K G A N=>?_,fun i j o o' t f d J r=>?_⟩
 ·obtain⟨d,f⟩:=g j i h;have b:=y (ops[j],j) (Em<|by simp[d]);simp only[Zc,Zh,ZI,Zk,Zs]at b;rcases b.1.2 i f with c|c
  ·rw[h]at c;cases c
  ·obtain⟨e,B,q⟩:=ZE.1 c.1;simp only[Zc,Zk,Al,w5]at q;exact⟨ops[j],e,by simp[d],by simpa using B,q.1,q.2⟩
 ·have b:=y (o,j)<|Em d;simp only[Zc,Zh,Zk,Zs,Zq]at b;rcases b.2 e (by simpa using B)with c|c
  ·rw[O]at c;cases c
  omega
 ·obtain⟨d,f⟩:=g j i h;have b:=y (ops[j],j) (Em<|by simp[d]);simp only[Zc,Zh,ZI,Zk,Zs,Zq]at b;rcases b.1.2 i f with c|c
  ·rw[h]at c;cases c
  omega
 ·have:=(n i j o o' f d).1.1.1.1.1;simp_all
 ·have:=(n i j o o' f d).1.1.1.1.2;simp_all
 ·have l:(pl.s i,i)∈pl.sc.zipIdx:=by
   rw[List.mem_zipIdx_iff_getElem?];unfold Gi.s at h ⊢;rw[ZB]at h ⊢;cases L:pl.sc[i]? with
   |none=>rw[L]at h;cases h
   |some x=>rfl
  have b:=Zh.1 hq _ l;simp only[h]at b;split at b
  case h_2=>cases b
  rename_i o ok Q D;split at b
  case h_2=>cases b
  rename_i t r;simp only[Zc,beq_iff_eq]at b;obtain⟨W,M⟩:=Km r;exact⟨o,ok,t,Q,D,W,M,b.1.1,b.1.2,b.2⟩
 ·have b:=(n j k o o' d hk).1.1.1.2;have u:(AZ o||(pl.s j).isSome)=true:=by simpa using A
  rw[z,h,r]at b;have X:(reads ops o').contains t=true:=by simpa using l
  simp only[Zk]at u;simp only[X,Bool.not_false,Bool.not_true,Zv,or_false,Bool.true_eq_false]at b;rcases b with(b|b)|b
  ·exact wd u a8
  ·exact .inl (by simpa using b)
  ·obtain⟨⟨x,i⟩,E,c⟩:=ZE.1 b;simp only[Zc]at c;exact .inr ⟨i,x,PF E,c.1.1,c.1.2,c.2⟩
 ·have:=(n i j o o' f d).1.1.2;simp_all
 ·have b:=(n i j o o' f d).1.2;rw[K,G,A]at b;simp only[and_self,forall_const,Bool.true_eq_false,false_or]at b;rcases b with b|b
  ·omega
  ·obtain⟨⟨x,k⟩,l,c⟩:=ZE.1 b;simp only[Zc,w5]at c;exact⟨k,x,PF l,c.1.1,c.1.2,c.2⟩
 ·have b:=(n i j o o' f d).2;rcases b with b|b
  ·omega
  ·rw[r]at b;simp only[Zc,Zs,Zk,beq_eq_false_iff_ne]at b;refine⟨b.1,fun l=>?_⟩;rcases b.2 with(c|c)|c
   ·have:(reads ops o').contains t=true:=by simpa using l
    rw[this]at c;cases c
   ·exact .inl c
   ·exact .inr c
theorem Ri{ops:Array Oper}{pl:Gi}(b:Di ops pl=true):pl.ord.length=ops.size:=by
 unfold Di at b;grind
end Go.Det
