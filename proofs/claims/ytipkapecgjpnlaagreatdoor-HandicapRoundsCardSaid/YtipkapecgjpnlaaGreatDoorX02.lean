import Derived.Test.YtipkapecgjpnlaaGreatDoorX01
import Derived.Laws.IdiomStrings
import Derived.Lib.UnsafeStr
import Derived.Lib.Builder
import Derived.RangeFuncRecord
import Derived.LoopNIn
import Derived.OrdersIn
import Derived.RangeFuncLeaves
/- A part of a proof; no law is stated here. -/
noncomputable section
open Array renaming getElem?_eq_some_iff -> Za, getD_eq_getD_getElem? -> Zi, getElem?_toList -> Zr, getElem?_setIfInBounds_ne -> Zy
open Go.Result renaming andThen_ok -> Zb
open Bool renaming and_eq_true -> Zc, or_eq_true -> Zk, not_eq_true' -> Zs, false_eq_true -> Zv
open Go.Sem renaming run_bind -> Zd, run_pure -> Zn, run -> ZC
open Option.some renaming injEq -> Ze
open Nat renaming blt -> Zf, beq -> Zm, blt_eq -> Zq, ble -> Zx, ble_eq -> ZL, lt_or_ge -> ZN
open Option renaming map_eq_some_iff -> Zg, isSome_iff_exists -> ZD
open List renaming all_eq_true -> Zh, mem_singleton -> Zl, range -> Zw, getD_eq_getElem?_getD -> ZB, any_eq_true -> ZE, mem_range -> ZI, mem_cons -> ZK
open Go.Oper renaming semAt_eq -> Zj, uponIn_value -> Zp
open Go.Det.Ext renaming refl -> Zo
open Go.Deferred renaming ofValue -> Zt
open Go.Region renaming wanted -> Zu, binds -> ZA, ready -> ZF
open Go.Fence renaming wide -> Zz
open Go.Question renaming forced -> ZG
open Go.Op renaming operands -> ZH
open Prod.mk renaming injEq -> ZJ
open Go.Act renaming put -> ZM
namespace Go.Det
section
variable {T:AP}{P:Program}{p:Pl}{h:H}{w:World}
def DW(T:AP)(h:H)(t:TypeId)(x:V):Option (V×H):=
 match T.und t,x with
 |some (.map _ _),.nilm=>some (.ptr h.nx 0,h.push<|.miter none 0 [] 0)
 |some (.map _ _),.map b=>match h.get b with
  |some (.map _ c)=>some (.ptr h.nx 0,h.push<|.miter (some b) c [] c)
  |_=>none
 |_,_=>J8 T h t x
theorem MO(i:T.Ok P)(d:R p h w){t:TypeId}{x:V}{x':Value}(j:Aa p x x'){v:V}{h':H}(c:DW T h t x=some (v,h')):
  ∃v' p' w',(Instr.range t x').run P w=.ok v' w'/\Aa p' v v'/\Ext p h w p' h' w':=by
 unfold DW at c;split at c
 case h_1=>
  rename_i f;cases c;subst j;have he:=Ext.push (n:=0) d (o:=.miter none 0 [] 0) (x:=.mapIter none 0 #[] 0) rfl;refine⟨.pointer<|some ⟨w.heap.size,0,none⟩,_,_,?_,?_,he⟩
  ·unfold Instr.range;simp only[Zd,Ad i f,Zb,Zn,run_newObj]
  ·exact⟨w.heap.size,0,by rw[<-d.len];simp,rfl⟩
 case h_2=>
  rename_i b f;split at c
  case h_2=>cases c
  rename_i es e k;cases c;obtain⟨r,n,g,rfl⟩:=j;obtain⟨r',n',o,h1,h2,l,h3,h4⟩:=d.obj _ _ k;rw[g]at h1;cases h1;subst h3;have he:=Ext.push (n:=0) d (o:=.miter (some b) e [] e) (x:=.mapIter (some r) e #[] e) ⟨r,n,g,rfl⟩;refine⟨.pointer<|some ⟨w.heap.size,0,none⟩,_,_,?_,?_,he⟩
  ·unfold Instr.range;simp only[Zd,Ad i f,Zb,Zn,getObj,ZC,h2,run_newObj]
  ·exact⟨w.heap.size,0,by rw[<-d.len];simp,rfl⟩
 grind [P2]
def Ks(h:H)(d:V)(c:Bool):Option (List<|V×H):=
 match d,c with
 | .ptr b 0,false=>
  match h.get b with
  |some (.miter none _ _ _)=>some [(.tup [.bool false],h)]
  |some (.miter (some m) since seen last)=>
   match h.get m with
   |some (.map es f)=>
    bif es.all (fun e=>Zf e.2.2 since)&&Zx since last then
     match es.filter (fun e=> !seen.contains e.2.2)with
     |[]=>some [(.tup [.bool false],h)]
     |left=>some (left.map fun e=>(.tup [.bool true,e.1,e.2.1],h.put b<|.miter (some m) since (seen++[e.2.2]) f))
    else none
   |_=>none
  |_=>none
 |_,_=>none
theorem BE.get{es:List (V×V×Nat)}{l:List MapEntry}(he:BE p es l):∀ {i:Nat} {e:MapEntry},l[i]?=some e->∃k v,es[i]?=some (k,v,e.born)/\Aa p k e.key/\Aa p v e.val:=by
 induction he with
 |nil=>simp
 |@cons k v b es f l d g j _ c=>
  grind
theorem BE.filter{es:List (V×V×Nat)}{l:List MapEntry}(he:BE p es l)(q:Nat->Bool):BE p (es.filter fun e=>q e.2.2) (l.filter fun e=>q e.born):=by
 induction he with
 |nil=>exact .nil
 |@cons k v b es i l f g d _ c=>
  simp only[List.filter_cons,d];cases q b with
  |false=>exact c
  |true=>exact .cons f g d c
theorem BE.all{es:List (V×V×Nat)}{l:List MapEntry}(he:BE p es l)(q:Nat->Bool):(es.all fun e=>q e.2.2)=l.all fun e=>q e.born:=by
 induction he with
 |nil=>rfl
 |@cons k v b es f l d g i _ c=>grind
theorem BE.find{es:List (V×V×Nat)}{l:List MapEntry}(he:BE p es l)(q:Nat->Bool){e:V×V×Nat}(j:es.find? (fun e=>q e.2.2)=some e):∃c,l.find? (fun e=>q e.born)=some c/\Aa p e.1 c.key/\Aa p e.2.1 c.val:=by
 induction he with
 |nil=>grind
 |@cons k v b es g l f i n _ d=>
  grind
theorem SG(n:Nat)(b:0<n):∃i d,(choose<|.mapNext n).run P w=.ok i { w with drawn:=d }/\i<n/\w.drawn<=d:=by
 rw[run_choose];by_cases c:n<=1
 ·refine⟨0,w.drawn,?_,b,Nat.le_refl _⟩;simp[ZG,c]
 ·refine⟨w.tape w.drawn (.mapNext n) % n,w.drawn+1,?_,Nat.mod_lt _ b,Nat.le_succ _⟩;grind [ZG,Question.cut]
theorem PW(j:R p h w){K:V}{u:Value}{g:Bool}{t:TypeId}(U:Aa p K u){l:List (V×H)}(f:Ks h K g=some l):
  ∃v h' v' p' w',(v,h')∈l/\(Instr.next u g t).run P w=.ok v' w'/\Aa p' v v'/\Ext p h w p' h' w':=by
 unfold Ks at f;split at f
 case h_2=>cases f
 rename_i b;simp only[Aa]at U;obtain⟨r,n,G,rfl⟩:=U;split at f
 case h_3=>cases f
 case h_1=>
  rename_i since seen last B;cases f;obtain⟨r',n',x,s,D,E⟩:=j.obj _ _ B;rw[G]at s;cases s;simp only[Ff]at E;subst E;refine⟨_,_,.tuple #[.bool false],p,w,Zl.2 rfl,?_,by simp[Aa],Zo j⟩;unfold Instr.next;simp only[Zd,getObj,ZC,D,Zb];rfl
 case h_2=>
  rename_i m since seen last B;split at f
  case h_2=>cases f
  rename_i es J hm;cases I:(es.all (fun e=>Zf e.2.2 since)&&Zx since last)with
  |false=>grind
  |true=>
   simp only[I,wc]at f;simp only[Zc,ZL]at I;obtain⟨c1,c2⟩:=I;obtain⟨r',n',x,s,D,E⟩:=j.obj _ _ B;rw[G]at s;cases s;obtain⟨rm,nm,hpm,rfl⟩:=E;obtain⟨r2,n2,x2,k1,k2,l2,k3,k4⟩:=j.obj _ _ hm;rw[hpm]at k1;cases k1;subst k3;rw[k4.all fun b=>Zf b since]at c1;have N:∀e∈l2.toList,e.born<since:=by
    intro e he;have:=Zh.1 c1 e he;simp_all
   have W:(!seen.toArray.isEmpty&& !l2.isEmpty&&l2.all (·.born>=last))=false:=by
    cases hl:l2.toList with
    |nil=>
     simp_all
    |cons e0 Q=>
     grind
   have q:(l2.filter fun e=> !seen.toArray.contains e.born).toList=l2.toList.filter fun e=> !seen.contains e.born:=by
    simp
   have c:=k4.filter fun b=> !seen.contains b
   have X:((l2.filter fun e=> !seen.toArray.contains e.born).filter (·.born<since))=l2.filter fun e=> !seen.toArray.contains e.born:=by
    grind [Array.toList_inj,Array.toList_filter,List.filter_eq_self]
   have e2:((l2.filter fun e=> !seen.toArray.contains e.born).filter (·.born>=since))= #[]:=by
    apply Array.toList_inj.1;grind [List.filter_eq_nil_iff]
   unfold Instr.next;simp only[Zd,getObj,ZC,D,Zb,k2];rw[wa ae];simp only[X,e2,Array.append_empty];generalize hL:(l2.filter fun e=> !seen.toArray.contains e.born)=L at*;rw[<-q]at c;have M:=c.length;split at f
   case h_1=>
    cases f;have Z:L= #[]:=by
     grind
    refine⟨_,_,.tuple #[.bool false],p,w,Zl.2 rfl,?_,by simp[Aa],Zo j⟩;simp_all [ZG]
   case h_2=>
    have A:0<L.size:=by
     grind
    have y:L.isEmpty=false:=ae
    simp only[y,Zv,vb,Array.empty_append,Array.size_map];obtain⟨i,d,Y,O,g4⟩:=SG (P:=P) (w:=w) L.size A;simp only[Zd,Y,Zb];have hi:L[i]?=some L[i]:=by simp[O]
    obtain⟨k,v,q1,q2,q3⟩:=c.get (i:=i) (e:=L[i]) (by simp[O]);simp only[Array.getElem?_map,hi,Option.map_some,Zd];have z:=Ext.drew j d;have o:=Ext.put z.rel B G (o':=.miter (some m) since (seen++[L[i].born]) J) (x':=.mapIter (some rm) since (seen.toArray.push L[i].born) J) ⟨rm,nm,hpm,by simp⟩
     (w':=⟨w.heap.setIfInBounds r<|.mapIter (some rm) since (seen.toArray.push L[i].born) J,w.tape,d,w.os,w.output⟩) rfl rfl rfl rfl
    refine⟨.tup [.bool true,k,v],_,.tuple #[.bool true,L[i].key,L[i].val],p,_,ae,?_,?_,z.trans o⟩
    ·simp[setObj,ZC,D]
    simp_all [Aa]
def KR(h:H)(c:V):Option V:=
 match c with
 | .ptr b 0=>
  match h.get b with
  |some (.miter (some m) _ seen last)=>
   match h.get m with
   |some (.map es d)=>
    bif Zm d last then
     match seen.getLast? with
     |some s=>match es.find? (fun e=>Zm e.2.2 s)with
      |some e=>some<|.tup [e.1,e.2.1]
      |none=>none
     |none=>none
    else none
   |_=>none
  |_=>none
 |_=>none
theorem PJ(j:R p h w){i:V}{d:Value}(r:Aa p i d){v:V}(c:KR h i=some v):∃v',(Instr.entry d).run P w=.ok v' w/\Aa p v v':=by
 unfold KR at c;split at c
 case h_2=>cases c
 simp only[Aa]at r;split at c
 case h_2=>cases c
 rename_i m since seen last o;split at c
 case h_2=>cases c
 rename_i es l k;rw[Aw]at c;by_cases g:l=last
 ·simp only[g,decide_true,wc]at c;split at c
  case h_2=>cases c
  rename_i s z;split at c
  case h_2=>cases c
  rename_i e n;cases c;obtain⟨t,n',x,u,y,q⟩:=j.obj _ _ o;simp only[Ff]at q;obtain⟨r2,n2,x2,k1,k2,l2,k3,k4⟩:=j.obj _ _ k;obtain⟨e',q1,q2,q3⟩:=k4.find (fun b=>Zm b s) n;refine⟨.tuple #[e'.key,e'.val],?_,by simp_all [Aa]⟩;unfold Instr.entry;have f:l2.find? (fun e=>e.born==s)=some e':=by
   rw[<-Array.find?_toList, <-q1];congr 1;funext e
   rw[Aw];rfl
  simp_all [getObj,ZC]
 grind
theorem BE.erase{es:List (V×V×Nat)}{l:List MapEntry}(he:BE p es l)(i:Nat):BE p (es.eraseIdx i) (l.eraseIdx i):=by
 induction he generalizing i with
 |nil=>simp;exact .nil
 |@cons k v b es j l d e f g c=>
  cases i with
  |zero=>grind
  |succ i=>simp;exact .cons d e f<|c i
def F9(T:AP)(h:H)(ts:Array TypeId)(args:List V):Option (V×H):=
 match ts[0]?,args with
 |some f,[.map b,k]=>
  match T.und f with
  |some (.map c _)=>
   match T.und c,h.get b with
   |some d,some (.map es e)=>
    bif Ep T c d k then
     match FA T c k es with
     |some (some (i,_))=>some (.tup [],h.put b<|.map (es.eraseIdx i) e)
     |some none=>some (.tup [],h.put b<|.map es e)
     |none=>none
    else none
   |_,_=>none
  |_=>none
 |_,_=>none
theorem NC(i:T.Ok P)(x:R p h w){ts:Array TypeId}{t:TypeId}{args:List V}{args':Array Value}(I:Ac p args args'.toList){v:V}{h':H}(c:F9 T h ts args=some (v,h')):
  ∃v' p' w',(Builtin.delete_ ts t args').run P w=.ok v' w'/\Aa p' v v'/\Ext p h w p' h' w':=by
 unfold F9 at c;split at c
 case h_2=>cases c
 rename_i mt b k J;obtain⟨L,U,f,D,y⟩:=I.two;have s:args'[0]?=some L:=by rw[<-Zr,f];rfl
 have q:args'[1]?=some U:=by rw[<-Zr,f];rfl
 split at c
 case h_2=>cases c
 rename_i G e Q;split at c
 case h_2=>cases c
 rename_i d es o g u;cases B:Ep T G d k with
 |false=>grind
 |true=>
  simp only[B,wc]at c;rcases GL (es:=es) x D (by simp only[entries,u])with⟨rfl,_⟩|⟨r,l,O,b',n,K,rfl,A,W,E,he⟩
  ·simp[Aa]at D
  ·cases K;unfold Builtin.delete_;simp only[J,s,q,Zd,Ad i Q,Zb,getObj,ZC,E,EV i g y B];split at c
   case h_3=>cases c
   case h_1=>
    rename_i j v0 z;cases c;obtain⟨M,N,v1,rfl,Y,en,Z,k5⟩:=run_findKey (P:=P) (w:=w) i y g he z;refine⟨.tuple #[],p,{ w with heap:=w.heap.setIfInBounds r (.map (l.eraseIdxIfInBounds j) o) },?_,by simp[Aa],Ext.put x u A (o':=.map (es.eraseIdx j) o) ⟨_,rfl,?_⟩ rfl rfl rfl rfl⟩
    ·simp_all [setObj,ZC]
    ·have:=he.erase j;simp_all
   case h_2=>
    rename_i z;cases c;obtain⟨M,N,X⟩:=run_findKey (P:=P) (w:=w) i y g he z;refine⟨.tuple #[],p,{ w with heap:=w.heap.setIfInBounds r (.map l o) },?_,by simp[Aa],Ext.put x u A (o':=.map es o) ⟨_,rfl,he⟩ rfl rfl rfl rfl⟩;simp_all [setObj,ZC]
def C4(T:AP)(h:H)(ts:Array TypeId)(args:List V):Option (V×H):=
 match ts[0]?,args with
 |some t,[x]=>
  match T.und t,x with
  |some (.map _ _),.nilm=>some (.tup [],h)
  |some (.map _ _),.map b=>match h.get b with
   |some (.map _ c)=>some (.tup [],h.put b<|.map [] c)
   |_=>none
  |some (.slice _),.nils=>some (.tup [],h)
  |some (.slice _),.esl=>some (.tup [],h)
  |some (.slice _),.es0=>some (.tup [],h)
  |some (.slice e),.sl b off len _ _=>
   bif Zm len 0 then some (.tup [],h)
   else match T.inf e with
    |some i=>bif Zf 0 i.zero.length then
      (wr h b off<|CI i.zero<|len*i.zero.length).map fun h'=>(.tup [],h')
     else none
    |none=>none
  |_,_=>none
 |_,_=>none
theorem Qc(g:T.Ok P)(j:R p h w){ts:Array TypeId}{t:TypeId}{args:List V}{args':Array Value}(G:Ac p args args'.toList){v:V}{h':H}(d:C4 T h ts args=some (v,h')):
  ∃v' p' w',(Builtin.clear_ ts t args').run P w=.ok v' w'/\Aa p' v v'/\Ext p h w p' h' w':=by
 unfold C4 at d;split at d
 case h_2=>cases d
 rename_i t0 x I;obtain⟨x',k,q⟩:=G.one;have y:args'[0]?=some x':=by rw[<-Zr,k];rfl
 unfold Builtin.clear_;simp only[I,y];split at d
 case h_7=>cases d
 case h_1=>
  rename_i f;cases d;subst q;exact⟨.tuple #[],p,w,by simp[Ad g f],by simp[Aa],Zo j⟩
 case h_2=>
  rename_i b f;split at d
  case h_2=>cases d
  rename_i es D B;cases d;obtain⟨r,n,u,rfl⟩:=q;obtain⟨r',n',o,A,h2,l,h3,h4⟩:=j.obj _ _ B;rw[u]at A;cases A;subst h3;refine⟨.tuple #[],p,{ w with heap:=w.heap.setIfInBounds r (.map #[] D) },?_,by simp[Aa],Ext.put j B u (o':=.map [] D) ⟨_,rfl,.nil⟩ rfl rfl rfl rfl⟩;simp[Zd,Ad g f,getObj,setObj,ZC,h2]
 case h_3=>
  rename_i e f;cases d;subst q;exact⟨.tuple #[],p,w,by simp[Ad g f],by simp[Aa],Zo j⟩
 case h_4=>
  rename_i e f;cases d;obtain⟨_,_,rfl⟩:=q;exact⟨.tuple #[],p,w,by simp[Ad g f],by simp[Aa],Zo j⟩
 case h_5=>
  rename_i e f;cases d;obtain⟨_,rfl⟩:=q;exact⟨.tuple #[],p,w,by simp[Ad g f],by simp[Aa],Zo j⟩
 case h_6=>
  rename_i e b off len cap o f;obtain⟨r,n,c,u,rfl,_⟩:=q;rw[Aw]at d;by_cases h0:len=0
  ·simp only[h0,decide_true,wc,Ze,ZJ]at d;obtain⟨rfl,rfl⟩:=d;subst h0;exact⟨.tuple #[],p,w,by simp[Ad g f],by simp[Aa],Zo j⟩
  ·simp only[h0,decide_false,wd]at d;split at d
   case h_2=>cases d
   rename_i i J;cases L:Zf 0 i.zero.length with
   |false=>grind
   |true=>
    simp only[L,wc,Zg]at d;obtain⟨A,E,he⟩:=d;cases he;obtain⟨z,hzz,hzr⟩:=BY g J;have K:=(hzr p).length;have s:=Fc (hzr p) (by simp_all)<|len*i.zero.length;obtain⟨r',m,w',g1,g2,g3⟩:=Kv (P:=P) j s E;rw[u]at g1;cases g1;refine⟨.tuple #[],p,w',?_,by simp[Aa],g3⟩;have:Builtin.zeroCells z.cells len=(Array.range<|len*i.zero.length).map (fun i=>z.cells[i % z.cells.size]!):=by
     grind [Builtin.zeroCells]
    simp only[Zd,Ad g f,Zb,hzz,this,g2,Zn]
def VJ(T:AP)(ts:Array TypeId)(args:List V):Option V:=
 match ts[0]?,args with
 |some t,[x]=>
  match T.und t,x with
  |some (.slice _),.sl _ _ _ cap 0=>some<|i64 cap
  |some (.slice _),.nils=>some<|i64 0
  |_,_=>none
 |_,_=>none
theorem TK(k:T.Ok P){ts:Array TypeId}{t:TypeId}{args:List V}{args':Array Value}(l:Ac p args args'.toList){v:V}(d:VJ T ts args=some v):
  ∃v',(Builtin.cap_ ts t args').run P w=.ok v' w/\Aa p v v':=by
 unfold VJ at d;split at d
 case h_2=>cases d
 rename_i t0 x o;obtain⟨x',f,j⟩:=l.one;have g:args'[0]?=some x':=by rw[<-Zr,f];rfl
 unfold Builtin.cap_;simp only[o,g];split at d
 case h_3=>cases d
 case h_1=>
  rename_i e b off len cap i;cases d;simp only[Aa]at j;obtain⟨r,n,c,u,rfl,z,y,q,s⟩:=j;have:=q trivial;subst this;exact⟨_,by simp[Zd,Ad k i];rfl,by rfl⟩
 case h_2=>
  rename_i e i;cases d;subst j;exact⟨_,by simp[Zd,Ad k i];rfl,by rfl⟩
def Kf(T:AP)(h:H)(src dst:TypeId)(x:V):Option (V×H):=
 match T.und src,T.und dst,x with
 |some .string,some<|.slice e,.str s=>
  match T.und e with
  |some (.int .u8)=>some (.sl h.nx 0 s.length s.length 1,h.push<|.cells (s.map fun b=>.int .u8<|.ofNat b.toNat) e (0,0))
  |_=>none
 |_,_,_=>none
theorem Po(j:T.Ok P)(l:R p h w){src dst:TypeId}{x:V}{x':Value}(u:Aa p x x'){v:V}{h':H}(f:Kf T h src dst x=some (v,h')):
  ∃v' p' w',(convert src dst x').run P w=.ok v' w'/\Aa p' v v'/\Ext p h w p' h' w':=by
 unfold Kf at f;split at f
 case h_2=>cases f
 rename_i e s q r;split at f
 case h_2=>cases f
 rename_i t;cases f;subst u;have d:=run_bytes_of_string (P:=P) w src dst e (bytesOf s) (j.und _ _ q) (j.und _ _ r)<|j.und _ _ t;generalize y:grownCap w (bytesOf s).size 0 e=c at d;have i:s.length<=c:=by
  grind [AM,grownCap,Question.cut]
 have k:(bytesRow (bytesOf s) c).size=c:=by
  grind [bytesRow,bytesOf,AM]
 have g:=Ext.drew l<|w.drawn+1;have he:=Ext.push (n:=c) g.rel (o:=.cells (s.map fun b=>.int .u8<|.ofNat b.toNat) e (0,0)) (x:=.cells (bytesRow (bytesOf s) c) e ((bytesRow (bytesOf s) c).size,(bytesRow (bytesOf s) c).size+1)) (by
  refine⟨_,_,rfl,k,by grind,?_,a8⟩;refine Ac.WK<|Ac.mk ?_ ?_
  ·grind
  ·grind [bytesRow,bytesOf,Aa])
 refine⟨_,_,_,d,?_,g.trans he⟩;refine⟨w.heap.size,c,c,by rw[<-l.len];simp,by rfl,Nat.le_refl _,i,a8,a8⟩
def B4(T:AP)(h:H)(s d:TypeId)(x:V):Option V:=
 match T.und s,T.und d,x with
 |some (.pointer _),some .unsafePointer,.nilp=>some .nilp
 |some .unsafePointer,some<|.pointer _,.nilp=>some .nilp
 |some (.pointer t),some .unsafePointer,.ptr b off=>
  match T.inf t,h.get b with
  |some i,some (.cells cs _ _)=>bif Zf 0 i.size&&Zf off cs.length then some (.ptr b off)else none
  |_,_=>none
 |some .unsafePointer,some<|.pointer u,.ptr b off=>
  match T.inf u,h.get b with
  |some i,some (.cells cs e _)=>bif Zf 0 i.size&&Zx i.size cs.length&&Zm e u&&Zm off 0 then some (.ptr b 0)else none
  |_,_=>none
 |_,_,_=>none
theorem LY(d:R p h w){b:Nat}{cs:List V}{t:TypeId}{fz:Nat×Nat}(e:h.get b=some (.cells cs t fz)):
  ∃r n,p[b]?=some (r,n)/\w.shape? r=some (t,n)/\cs.length<=n:=by
 obtain⟨r,n,x,g,j,c,fz',rfl,f,i,_⟩:=d.obj b _ e;grind [World.shape?]
theorem Qe{u:TypeId}(d:P.cellsOf u≠0)(k:Nat)(c:1<=k):liesAt P P.depth u k 0 u 1=true:=by
 have b:P.depth=(2*(P.types.size+Made.depth)+1)+1:=rfl;rw[b];simp only[liesAt,Zk];rw[b];simp[rowAt,d,c,sameLayout]
theorem Us(f:T.Ok P)(D:R p h w){s d:TypeId}{x:V}{x':Value}(o:Aa p x x'){v:V}(c:B4 T h s d x=some v):
  ∃v',(convert s d x').run P w=.ok v' w/\Aa p v v':=by
 unfold B4 at c;split at c
 case h_5=>cases c
 case h_1=>
  rename_i g k;subst o;cases c;refine⟨.pointer none,?_,by rfl⟩;simp[convert,Ad f g,Ad f k,Conv.unsafePointer]
 case h_2=>
  rename_i g k;subst o;cases c;refine⟨.pointer none,?_,by rfl⟩;simp[convert,Ad f g,Ad f k,Conv.unsafePointer]
 case h_3=>
  rename_i t b off g k;split at c
  case h_2=>cases c
  rename_i i cs e fz A q;cases l:(Zf 0 i.size&&Zf off cs.length)with
  |false=>grind
  |true=>
   rw[l]at c;cases c;simp only[Zc,Zq]at l;obtain⟨j,z,y,E,_⟩:=f.inf t i A;obtain⟨r,n,k1,k2,k3⟩:=LY D q;obtain⟨r',n',q1,rfl⟩:=o;rw[k1]at q1;cases q1;refine⟨_,Lib.run_to_unsafe w ⟨r,off,none⟩ (f.und _ _ g) (f.und _ _ k) y a8 k2 ae,?_⟩;simp_all [Aa]
 case h_4=>
  rename_i u b off g k;split at c
  case h_2=>cases c
  rename_i i cs e fz A q;cases l:(Zf 0 i.size&&Zx i.size cs.length&&Zm e u&&Zm off 0)with
  |false=>grind
  |true=>
   rw[l]at c;cases c;simp only[Zc,Zq,ZL,Aw,w5]at l;obtain⟨⟨⟨c1,I⟩,rfl⟩,rfl⟩:=l;obtain⟨j,z,y,E,_⟩:=f.inf e i A;obtain⟨r,n,k1,k2,k3⟩:=LY D q;obtain⟨r',n',q1,rfl⟩:=o;rw[k1]at q1;cases q1;have B:P.cellsOf e=i.size:=by grind [Program.cellsOf]
   have G:1<=n/P.cellsOf e:=by rw[B];exact Nat.div_pos a8 c1
   refine⟨_,Lib.run_from_unsafe w ⟨r,0,none⟩ (f.und _ _ g) (f.und _ _ k) y k2 (Qe a8 _ G),?_⟩;simp_all [Aa]
def Ji(args:List V):Option V:=
 match args with
 |[.nils]=>some .nilp
 |[.sl b off _ cap _]=>bif Zf 0 cap then some (.ptr b off)else none
 |_=>none
theorem PZ{ts:Array TypeId}{t:TypeId}{args:List V}{args':Array Value}(e:Ac p args args'.toList){v:V}(d:Ji args=some v):
  ∃v',(Builtin.unsafeSliceData_ ts t args').run P w=.ok v' w/\Aa p v v':=by
 unfold Ji at d;split at d
 case h_3=>cases d
 case h_1=>
  cases d;obtain⟨x,i,f⟩:=e.one;have:args'= #[x]:=ae;simp_all [Aa,Lib.run_unsafeSliceData_nil]
 case h_2=>
  rename_i b off len cap o;cases g:Zf 0 cap with
  |false=>grind
  |true=>
   rw[g]at d;cases d;rw[Zq]at g;obtain⟨x,i,f⟩:=e.one;have:args'= #[x]:=ae;subst this;obtain⟨r,n,c,g1,rfl,g2,g3,_⟩:=f;exact⟨_,Lib.run_unsafeSliceData_row w ts t _ len c a8,by simp_all [Aa]⟩
def Kx:V->Option UInt8
 | .int .u8 (.ofNat n)=>bif Zf n 256 then some (UInt8.ofNat n)else none
 |_=>none
def Eb:List V->Option Y
 |[]=>some []
 |v::vs=>
  match Kx v,Eb vs with
  |some b,some c=>some (b::c)
  |_,_=>none
theorem Qp{c:V}{b:UInt8}(h:Kx c=some b):c=.int .u8 (b.toNat:Int):=by
 unfold Kx at h;split at h
 case h_2=>cases h
 rename_i n;cases d:Zf n 256 with
 |false=>grind
 |true=>
  rw[Zq]at d;have:(UInt8.ofNat n).toNat=n:=by simp;omega
  grind
theorem FQ:∀ {cs:List V} {l:Y},Eb cs=some l->cs=l.map fun b=>V.int .u8 (b.toNat:Int)
 |[],l,d=>by cases d;rfl
 |c::cs,l,d=>by
  unfold Eb at d;split at d
  case h_2=>cases d
  rename_i b tl f e;cases d;rw[Qp f,FQ e];rfl
def Li(T:AP)(h:H)(ts:List TypeId)(args:List V):Option (V×H):=
 match ts,args with
 |[c,_],[.ptr b 0,.int .i64<|.ofNat n]=>
  match T.und c,h.get b with
  |some (.pointer e),some (.cells cs d fz)=>
   match T.inf e,Eb (cs.take n)with
   |some i,some l=>bif Zm i.size 1&&Zm e d&&Zf 0 n&&Zx n cs.length&&Zx n 9223372036854775807&&Zx fz.2 fz.1 then some (.str l,h.kill b)else none
   |_,_=>none
  |_,_=>none
 |_,_=>none
theorem Ext.gone{w':World}(d:R p h w){b r n:Nat}{o:O}{x':Obj}(l:h.get b=some o)(k:p[b]?=some (r,n))
  (u:w'.heap=w.heap.setIfInBounds r x') (E:w'.os=w.os) (G:w'.output=w.output) (J:w'.tape=w.tape) (N:∀cs t fz,o=.cells cs t fz->¬Lk n fz) (x:w.drawn<=w'.drawn:=by exact Nat.le_refl _):Ext p h w p (h.kill b) w':=by
 refine⟨(by simp),⟨d.len,fun c q f=>?_,(d.kill b).inj⟩,by simp[u],fun s D L=>?_,fun s M=>?_,E,G,J,fun s D B=>?_,x⟩
 ·rw[H.BI]at f;by_cases e:c=b
  ·grind
  ·rw[wa e]at f;obtain⟨s,m,y,A,K,Q⟩:=d.obj c q f;have g:r≠s:=fun i=>e<|d.inj c b q o s m n f l A<|i▸k
   grind
 ·grind [Im]
 ·grind [H.BI,Im]
 ·obtain⟨c,m,cs,t,fz,I,j,z⟩:=B;by_cases e:c=b
  ·grind
  ·have g:r≠s:=fun i=>e<|d.inj c b _ o s m n I l j<|i▸k
   refine⟨by grind,.inl ⟨c,m,cs,t,fz,by simp_all,j,z⟩⟩
theorem Mv{w:World}{r n:Nat}{c:Array Value}{e:TypeId}{fz:Nat×Nat}(b:w.heap[r]?=some (.cells c e fz))(h0:n≠0):
  ∃fz',(w.freeze ⟨r,0,none⟩ n).heap=w.heap.setIfInBounds r (.cells c e fz'):=by
 refine⟨if fz.1==fz.2 then(0,0+n)else(min fz.1 0,max fz.2<|0+n),?_⟩;simp_all [World.freeze,Ia]
theorem Q3(I:T.Ok P)(L:R p h w){ts:Array TypeId}{t:TypeId}{args:List V}{args':Array Value}(O:Ac p args args'.toList){v:V}{h':H}(f:Li T h ts.toList args=some (v,h')):
  ∃v' w',(Builtin.unsafeString_ ts t args').run P w=.ok v' w'/\Aa p v v'/\Ext p h w p h' w':=by
 unfold Li at f;split at f
 case h_2=>cases f
 rename_i M G b n o;have o:ts= #[M,G]:=ae;subst o;split at f
 case h_2=>cases f
 rename_i e cs Z fz X J;split at f
 case h_2=>cases f
 rename_i i l W U;cases K:(Zm i.size 1&&Zm e Z&&Zf 0 n&&Zx n cs.length&&Zx n 9223372036854775807&&Zx fz.2 fz.1)with
 |false=>grind
 |true=>
  rw[K]at f;cases f;simp only[Zc,Zq,ZL,Aw,w5]at K;obtain⟨x,y,D,u,Q⟩:=O.two;have:args'= #[x,y]:=ae;subst this;obtain⟨r,m,u,rfl⟩:=u;subst Q;obtain⟨r',m',ob,k1,k2,c,fz',rfl,k4,k5,k6,k7⟩:=L.obj b _ J;rw[u]at k1;cases k1;obtain⟨j,z,j1,j2,_⟩:=I.inf e i W;have B:P.cellsOf e=1:=by grind [Program.cellsOf]
  have s:=FQ U;have k:l.length=n:=by
   have:=wg List.length s;grind
  have A:w.shape? r=some (e,m):=by grind [World.shape?]
  have g:∀j x,l[j]?=some x->w.cell? ((⟨r,0,none⟩:Addr).add j)=some (.int .u8 x.toNat):=by
   intro j x hx;have Y:cs[j]?=some (.int .u8 (x.toNat:Int)):=by
    have:=wg (·[j]?) s;grind
   obtain⟨v,hv,hvr⟩:=k6.get Y rfl;grind [Aa,Addr.GV,World.cell?]
  have q:=Lib.run_unsafeString_row w M G t e (I.und _ _ X) B r m A l ae a8 a8 g;obtain⟨N,E⟩:=Mv (n:=l.length) k2 a8;refine⟨.string<|bytesOf l,w.freeze ⟨r,0,none⟩ l.length,?_,by rfl,?_⟩
  ·rw[<-k];exact q
  ·have d:(w.freeze ⟨r,0,none⟩ l.length).os=w.os/\(w.freeze ⟨r,0,none⟩ l.length).output=w.output/\(w.freeze ⟨r,0,none⟩ l.length).tape=w.tape/\(w.freeze ⟨r,0,none⟩ l.length).drawn=w.drawn:=by
    unfold World.freeze;grind
   exact Ext.gone L J u E d.1 d.2.1 d.2.2.1 (by
    grind [Lk])<|Nat.le_of_eq d.2.2.2.symm
end
mutual
def cv:Value->Option V
 | .bool b=>some<|.bool b
 | .int k n=>some<|.int k n
 | .string s=>some<|.str s.data.toList
 | .pointer none=>some .nilp
 | .slice none 0 0=>some .nils
 | .map none=>some .nilm
 | .nilFunc=>some .nilf
 | .nilIface=>some .nili
 | .func f ⟨[]⟩ ⟨[]⟩=>some<|.fn f [] []
 | .agg ⟨cs⟩=>(U0 cs).map .agg
 | .tuple ⟨cs⟩=>(U0 cs).map .tup
 |_=>none
def U0:List Value->Option (List V)
 |[]=>some []
 |v::vs=>match cv v,U0 vs with
  |some x,some b=>some (x::b)
  |_,_=>none
end
mutual
theorem NL(p:Pl):∀ {v:Value} {x:V},cv v=some x->Aa p x v
 | .bool b,x,h=>by grind [cv,Aa]
 | .int k n,x,h=>by grind [cv,Aa]
 | .string s,x,h=>by simp[cv]at h;subst h;rfl
 | .pointer none,x,h=>by grind [cv,Aa]
 | .pointer (some a),x,h=>by simp[cv]at h
 | .slice none 0 0,x,h=>by grind [cv,Aa]
 | .slice none 0 (_+1),x,h=>by simp[cv]at h
 | .slice none (_+1) _,x,h=>by simp[cv]at h
 | .slice (some a) _ _,x,h=>by simp[cv]at h
 | .map none,x,h=>by grind [cv,Aa]
 | .map (some a),x,h=>by simp[cv]at h
 | .nilFunc,x,h=>by grind [cv,Aa]
 | .nilIface,x,h=>by grind [cv,Aa]
 | .func f ⟨[]⟩ ⟨[]⟩,x,h=>by simp[cv]at h;subst h;simp[Aa]
 | .func f ⟨_::_⟩ _,x,h=>by simp[cv]at h
 | .func f ⟨[]⟩ ⟨_::_⟩,x,h=>by simp[cv]at h
 | .agg ⟨cs⟩,x,h=>by
  simp only[cv,Zg]at h;obtain⟨d,c,rfl⟩:=h;exact⟨_,rfl,KW p c⟩
 | .tuple ⟨cs⟩,x,h=>by
  simp only[cv,Zg]at h;obtain⟨d,c,rfl⟩:=h;exact⟨_,rfl,KW p c⟩
 | .float _ _,x,h=>by simp[cv]at h
 | .complex _ _ _,x,h=>by simp[cv]at h
 | .chan _,x,h=>by simp[cv]at h
 | .iface _ _,x,h=>by simp[cv]at h
theorem KW(p:Pl):∀ {vs:List Value} {b:List V},U0 vs=some b->Ac p b vs
 |[],b,h=>by simp_all [U0]
 |v::vs,b,h=>by
  unfold U0 at h;split at h
  case h_2=>cases h
  rename_i x c d e;cases h;exact(Au ..).2 ⟨NL p d,KW p e⟩
end
structure Fn where
 ntmps:Nat
 results:Array ResultVar
 body:Code
 cert:Bool
structure Ctx where
 T:AP
 ng:Nat
 fn:FuncId->Option Fn
 prim:FuncId->Option (List V->H->Option (V×H))
 spec:FuncId->Option (List V->H->Option (V×H))
 mg:Bool
def Gl(_:Ctx)(p:Pl):Prop:=Gp p
theorem Gl.ext{C:Ctx}{p p':Pl}{h h':H}{w w':World}(b:Gl C p)(e:Ext p h w p' h' w'):Gl C p':=by
 obtain⟨q,rfl⟩:=e.pre;exact Gp.app b q
def ev(_:Ctx)(fr:Fr):Operand->Option V
 | .tmp t=>some<|fr.get t
 | .const v=>cv v
 | .global g=>bif XC g BW then some (.ptr g 0)else none
 | .func f=>some<|.fn (.func f) [] []
theorem Ao{C:Ctx}{p:Pl}{fr:Fr}{a:Act}(e:Gl C p)(i:A3 p fr a){x:Operand}{v:V}(b:ev C fr x=some v):Aa p v (a.eval x):=by
 cases x with
 |tmp t=>grind [ev,Act.eval,A3]
 |const v=>exact NL p b
 |global g=>
  simp only[ev]at b;cases c:XC g BW with
  |true=>
   rw[c]at b;simp only[wc,Ze]at b;subst b;obtain⟨o,d⟩:=Ol c;exact⟨g,_,e _ d,rfl⟩
  |false=>grind
 |func f=>simp only[ev,Ze]at b;subst b;simp[Aa,Act.eval]
def LO(C:Ctx)(fr:Fr):List Operand->Option (List V)
 |[]=>some []
 |x::b=>match ev C fr x,LO C fr b with
  |some v,some vs=>some (v::vs)
  |_,_=>none
theorem EU{C:Ctx}{p:Pl}{fr:Fr}{a:Act}(d:Gl C p)(c:A3 p fr a):∀ {b:List Operand} {vs:List V},LO C fr b=some vs->Ac p vs (b.map a.eval)
 |[],vs,h=>by simp_all [LO]
 |x::b,vs,h=>by
  unfold LO at h;split at h
  case h_2=>cases h
  rename_i v e f g;cases h;exact(Au ..).2 ⟨Ao d c f,EU d c g⟩
def Mx(C:Ctx)(fr:Fr):Option Operand->Option (Option V)
 |none=>some none
 |some x=>(ev C fr x).map some
theorem HC{C:Ctx}{p:Pl}{fr:Fr}{a:Act}(d:Gl C p)(c:A3 p fr a){x:Option Operand}{v:Option V}(b:Mx C fr x=some v):Dy p v (x.map a.eval):=by
 cases x with
 |none=>simp[Mx]at b;subst b;rfl
 |some x=>
  simp only[Mx,Zg]at b;obtain⟨u,e,rfl⟩:=b;exact⟨_,rfl,Ao d c e⟩
def Nu(C:Ctx)(fr:Fr):List (Nat×Operand)->Option (List<|Nat×V)
 |[]=>some []
 |(i,x)::b=>match ev C fr x,Nu C fr b with
  |some v,some vs=>some ((i,v)::vs)
  |_,_=>none
theorem Hy{C:Ctx}{p:Pl}{fr:Fr}{a:Act}(c:Gl C p)(d:A3 p fr a):∀ {b:List (Nat×Operand)} {vs:List (Nat×V)},Nu C fr b=some vs->Lx p vs (b.map fun(i,x)=>(i,a.eval x))
 |[],vs,h=>by simp[Nu]at h;subst h;exact .nil
 |(i,x)::b,vs,h=>by
  unfold Nu at h;split at h
  case h_2=>cases h
  rename_i v e f g;cases h;exact .cons (Ao c d f)<|Hy c d g
inductive OR where
 |val (v:V) (h:H)
 |skip (h:H)
 |enter (f:FuncId) (args:List V)
 |round (b:Nat) (l:LS) (fr:Fr)
 |alts (l:List (V×H))
def Fr.O9(f:Fr)(t:Nat)(v:V):Fr:=bif Zf t f.n then⟨f.n,f.m.set t<|some v⟩else f
def DF:List Tmp->List V->Fr->Fr
 |t::ts,v::vs,f=>DF ts vs<|f.O9 t v
 |_,_,f=>f
theorem Ce.O9{p:Pl}{f:Fr}{tmps:Array Value}(c:Ce p f tmps){v:V}{v':Value}(g:Aa p v v')(t:Nat):Ce p (f.O9 t v) (tmps.setIfInBounds t v'):=by
 unfold Fr.O9;simp only[DG];by_cases b:t<f.n
 ·simp only[b,decide_true,wc];refine⟨by simp[c.1],fun s=>?_⟩;have d:t<tmps.size:=c.1▸b;by_cases e:s=t
  ·simp_all [Fr.get]
  ·have:=c.2 s;simp only[Fr.get,PM.Bd,wa e]at this ⊢;rw[Zi,Zy a8, <-Zi];omega
 ·grind [Ce]
theorem Ce.DF{p:Pl}:∀ {ts:List Tmp} {vs:List V} {b:List Value},Ac p vs b->∀ {f:Fr} {tmps:Array Value},Ce p f tmps->Ce p (DF ts vs f) ((ts.zip b).foldl (fun tmps (t,a)=>tmps.setIfInBounds t a) tmps)
 |[],vs,b,_,f,tmps,c=>by simpa [Det.DF]using c
 |t::ts,[],b,d,f,tmps,c=>by simp_all [Det.DF]
 |t::ts,v::vs,b,d,f,tmps,c=>by
  obtain⟨u,i,rfl,e,g⟩:=d;exact Ce.DF g<|c.O9 e t
def AE(h:H):Option V->Option OR
 |some v=>some<|.val v h
 |none=>none
def CF:Option (V×H)->Option OR
 |some (v,h)=>some<|.val v h
 |none=>none
def Sd:Option H->Option OR
 |some h=>some<|.skip h
 |none=>none
def Cq(C:Ctx)(h:H)(b:Builtin)(ts:Array TypeId)(args:List V):Option OR:=
 match b with
 | .len=>AE h<|C2 C.T h ts args
 | .append=>CF<|Dh C.T h ts args
 | .copy=>CF<|R2 C.T h ts args
 | .max=>AE h<|Dc SJ args
 | .min=>AE h<|Dc Tq args
 | .cap=>AE h<|VJ C.T ts args
 | .delete=>CF<|F9 C.T h ts args
 | .clear=>CF<|C4 C.T h ts args
 | .unsafeSliceData=>AE h<|Ji args
 | .unsafeString=>CF<|Li C.T h ts.toList args
 |_=>none
def Ee(C:Ctx)(h:H)(f:V)(args:List V):Option OR:=
 match f with
 | .fn (.func g) first captured=>
  match C.prim g with
  |some q=>CF<|q (first++args++captured) h
  |none=>match C.fn g with
   |some _=>some<|.enter g<|first++args++captured
   |none=>none
 | .yld b=>match h.get b with
  |some (.loop l)=>bif Zm args.length l.ps.size then some (.round b l<|DF l.ps.toList args l.fr)else none
  |_=>none
 |_=>none
def HI(C:Ctx)(h:H)(x:V)(name:String)(args:List V):Option OR:=
 match x with
 | .iface t v=>match C.T.mth t name with
  |some g=>Ee C h (.fn (.func g) [] []) (v::args)
  |none=>none
 |_=>none
def Ot:Operand->Bool
 | .const _=>true
 |_=>false
def TM(T:AP)(op:BinOp)(t:TypeId)(x y:Operand)(v u:V):Option V:=
 match op,v,u,T.und t with
 | .eql,.nili,.nili,some (.interface _)=>bif Ot x||Ot y then some (.bool true)else none
 | .neq,.nili,.nili,some (.interface _)=>bif Ot x||Ot y then some (.bool false)else none
 |_,_,_,_=>none
def Fx(T:AP)(op:BinOp)(t:TypeId)(x y:Operand)(v u:V):Option V:=
 match TM T op t x y v u with
 |some r=>some r
 |none=>FH T op t v u
def Ds(C:Ctx)(fr:Fr)(h:H)(o:Oper):Option OR:=
 let ρ:=ev C fr
 match o.op with
 | .move x| .assign x=>AE h<|ρ x
 | .pick c a b=>match ρ c with
  |some (.bool t)=>AE h<|if t then ρ a else ρ b
  |_=>none
 | .alloc t=>CF<|Dr C.T h t
 | .box t x=>CF<|(ρ x).map fun v=>Pf h t v
 | .build t j=>match Nu C fr j.toList with
  |some ps=>AE h<|FC C.T t ps
  |none=>none
 | .buildSlice t n j=>match Nu C fr j.toList with
  |some ps=>CF<|Cm C.T h t n ps
  |none=>none
 | .load t x=>match ρ x with
  |some v=>AE h<|Ct C.T h t v
  |none=>none
 | .store t x y=>match ρ x,ρ y with
  |some v,some u=>Sd<|D4 C.T h t v u
  |_,_=>none
 | .nilCheck x=>match ρ x with
  |some (.ptr b i)=>AE h<|some<|.ptr b i
  |some (.iface t v)=>AE h<|some<|.iface t v
  |_=>none
 | .binOp op t x y _=>match ρ x,ρ y with
  |some v,some u=>AE h<|Fx C.T op t x y v u
  |_,_=>none
 | .unOp op _ x=>match ρ x with
  |some v=>AE h<|Wr op v
  |none=>none
 | .convert s d x=>match ρ x with
  |some v=>AE h<|C3 C.T h s d v
  |none=>none
 | .makeInterface t x=>match ρ x,C.T.und t with
  |some v,some d=>match d with
   | .interface _=>none
   |_=>AE h<|some<|.iface t v
  |_,_=>none
 | .makeFunc f first captured=>match LO C fr first.toList,LO C fr captured.toList with
  |some a,some b=>AE h<|some<|.fn f a b
  |_,_=>none
 | .makeMap _ r=>match Mx C fr r with
  |some v=>CF<|ED h v
  |none=>none
 | .makeSlice t l c=>match ρ l,ρ c with
  |some v,some u=>CF<|IG C.T h t v u
  |_,_=>none
 | .slice t x z A mx=>match ρ x,Mx C fr z,Mx C fr A,Mx C fr mx with
  |some v,some l,some r,some m=>AE h<|BO C.T t v l r m
  |_,_,_,_=>none
 | .fieldAddr t x f=>match ρ x with
  |some v=>AE h<|FJ C.T t v f
  |none=>none
 | .field t x f=>match ρ x with
  |some v=>AE h<|FE C.T t v f
  |none=>none
 | .indexAddr t x i=>match ρ x,ρ i with
  |some v,some u=>AE h<|CD C.T t v u
  |_,_=>none
 | .index t x i=>match ρ x,ρ i with
  |some v,some u=>AE h<|EK C.T t v u
  |_,_=>none
 | .lookup t x i ok=>match ρ x,ρ i with
  |some v,some u=>AE h<|Co C.T h t v u ok
  |_,_=>none
 | .mapUpdate t m k x| .insert t m k x=>match ρ m,ρ k,ρ x with
  |some a,some b,some c=>Sd<|D6 C.T h t a b c
  |_,_,_=>none
 | .range t x=>match ρ x with
  |some v=>CF<|DW C.T h t v
  |none=>none
 | .next x e=>match ρ x with
  |some v=>bif e then CF (G8 h v e)else(Ks h v e).map .alts
  |none=>none
 | .entry x=>match ρ x with
  |some v=>AE h<|KR h v
  |none=>none
 | .extract x i=>match ρ x with
  |some v=>AE h<|DD v i
  |none=>none
 | .call c=>match c.callee,LO C fr c.args.toList with
  | .builtin b,some args=>Cq C h b c.argTypes args
  | .value f,some args=>match ρ f with
   |some g=>Ee C h g args
   |none=>none
  | .invoke x q,some args=>match ρ x with
   |some v=>HI C h v q args
   |none=>none
  |_,_=>none
 |_=>none
abbrev Da:=Ctx->Fr->H->Option OR
def V5(a0:Operand):Da:=fun C fr h=>AE h<|ev C fr a0
def Ra(a0:Operand):Da:=fun C fr h=>AE h<|ev C fr a0
def VS(a0:Operand)(a1:Operand)(a2:Operand):Da:=fun C fr h=>match ev C fr a0 with|some (.bool t)=>AE h (if t then ev C fr a1 else ev C fr a2)|_=>none
def S1(a0:TypeId):Da:=fun C _fr h=>CF<|Dr C.T h a0
def WE(a0:TypeId)(a1:Operand):Da:=fun C fr h=>CF<|(ev C fr a1).map fun v=>Pf h a0 v
def Ub(a0:TypeId)(a1:Array (Nat×Operand)):Da:=fun C fr h=>match Nu C fr a1.toList with|some ps=>AE h (FC C.T a0 ps)|none=>none
def Ku(a0:TypeId)(a1:Nat)(a2:Array (Nat×Operand)):Da:=fun C fr h=>match Nu C fr a2.toList with|some ps=>CF (Cm C.T h a0 a1 ps)|none=>none
def R1(a0:TypeId)(a1:Operand)(a2:Operand)(a3:Operand):Da:=fun C fr h=>match ev C fr a1,ev C fr a2,ev C fr a3 with|some a,some b,some c=>Sd (D6 C.T h a0 a b c)|_,_,_=>none
def VP(a0:TypeId)(a1:Operand):Da:=fun C fr h=>match ev C fr a1 with|some v=>AE h (Ct C.T h a0 v)|none=>none
def S6(a0:TypeId)(a1:Operand)(a2:Operand):Da:=fun C fr h=>match ev C fr a1,ev C fr a2 with|some v,some u=>Sd (D4 C.T h a0 v u)|_,_=>none
def Ut(_a0:Nat):Da:=fun _ _ _=>none
def Uh(_a0:Nat):Da:=fun _ _ _=>none
def NG(a0:Operand):Da:=fun C fr h=>match ev C fr a0 with|some (.ptr b i)=>AE h (some<|.ptr b i)|some (.iface t v)=>AE h (some<|.iface t v)|_=>none
def Tm(a0:BinOp)(a1:TypeId)(a2:Operand)(a3:Operand)(_a4:TypeId):Da:=fun C fr h=>match ev C fr a2,ev C fr a3 with|some v,some u=>AE h (Fx C.T a0 a1 a2 a3 v u)|_,_=>none
def Wf(a0:UnOp)(_a1:TypeId)(a2:Operand):Da:=fun C fr h=>match ev C fr a2 with|some v=>AE h (Wr a0 v)|none=>none
def O7(a0:TypeId)(a1:TypeId)(a2:Operand):Da:=fun C fr h=>match ev C fr a2 with|some v=>AE h (C3 C.T h a0 a1 v)|none=>none
def Eg(_a0:TypeId)(_a1:Operand):Da:=fun _ _ _=>none
def Hs(a0:TypeId)(a1:Operand):Da:=fun C fr h=>match ev C fr a1,C.T.und a0 with|some v,some d=>(match d with| .interface _=>none|_=>AE h<|some<|.iface a0 v)|_,_=>none
def Mz(a0:Go.Fn)(a1:Array Operand)(a2:Array Operand):Da:=fun C fr h=>match LO C fr a1.toList,LO C fr a2.toList with|some a,some b=>AE h (some<|.fn a0 a b)|_,_=>none
def Pc(_a0:TypeId)(a1:Option Operand):Da:=fun C fr h=>match Mx C fr a1 with|some v=>CF (ED h v)|none=>none
def MM(_a0:TypeId)(_a1:Operand):Da:=fun _ _ _=>none
def Ll(a0:TypeId)(a1:Operand)(a2:Operand):Da:=fun C fr h=>match ev C fr a1,ev C fr a2 with|some v,some u=>CF (IG C.T h a0 v u)|_,_=>none
def Tp(a0:TypeId)(a1:Operand)(a2:Option Operand)(a3:Option Operand)(a4:Option Operand):Da:=fun C fr h=>match ev C fr a1,Mx C fr a2,Mx C fr a3,Mx C fr a4 with|some v,some l,some r,some m=>AE h (BO C.T a0 v l r m)|_,_,_,_=>none
def LL(a0:TypeId)(a1:Operand)(a2:Nat):Da:=fun C fr h=>match ev C fr a1 with|some v=>AE h (FJ C.T a0 v a2)|none=>none
def S5(a0:TypeId)(a1:Operand)(a2:Nat):Da:=fun C fr h=>match ev C fr a1 with|some v=>AE h (FE C.T a0 v a2)|none=>none
def Mr(a0:TypeId)(a1:Operand)(a2:Operand):Da:=fun C fr h=>match ev C fr a1,ev C fr a2 with|some v,some u=>AE h (CD C.T a0 v u)|_,_=>none
def Tc(a0:TypeId)(a1:Operand)(a2:Operand):Da:=fun C fr h=>match ev C fr a1,ev C fr a2 with|some v,some u=>AE h (EK C.T a0 v u)|_,_=>none
def Q1(a0:TypeId)(a1:Operand)(a2:Operand)(a3:Bool):Da:=fun C fr h=>match ev C fr a1,ev C fr a2 with|some v,some u=>AE h (Co C.T h a0 v u a3)|_,_=>none
def Me(a0:TypeId)(a1:Operand)(a2:Operand)(a3:Operand):Da:=fun C fr h=>match ev C fr a1,ev C fr a2,ev C fr a3 with|some a,some b,some c=>Sd (D6 C.T h a0 a b c)|_,_,_=>none
def NS(_a0:TypeId)(_a1:Operand)(_a2:Operand):Da:=fun _ _ _=>none
def La(_a0:TypeId)(_a1:Operand)(_a2:Operand)(_a3:Operand):Da:=fun _ _ _=>none
def Tt(a0:TypeId)(a1:Operand):Da:=fun C fr h=>match ev C fr a1 with|some v=>CF (DW C.T h a0 v)|none=>none
def VE(a0:Operand)(a1:Bool):Da:=fun C fr h=>match ev C fr a0 with|some v=>bif a1 then CF (G8 h v a1)else(Ks h v a1).map .alts|none=>none
def Uf(a0:Operand):Da:=fun C fr h=>match ev C fr a0 with|some v=>AE h (KR h v)|none=>none
def Kt(_a0:Operand)(_a1:TypeId)(_a2:TypeId)(_a3:Bool):Da:=fun _ _ _=>none
def PT(a0:Operand)(a1:Nat):Da:=fun C fr h=>match ev C fr a0 with|some v=>AE h (DD v a1)|none=>none
def U8(a0:Call):Da:=fun C fr h=>match a0.callee,LO C fr a0.args.toList with| .builtin b,some args=>Cq C h b a0.argTypes args| .value f,some args=>(match ev C fr f with|some g=>Ee C h g args|none=>none)| .invoke x c,some args=>(match ev C fr x with|some v=>HI C h v c args|none=>none)|_,_=>none
def X1(_a0:Call):Da:=fun _ _ _=>none
def Ug(_a0:Call):Da:=fun _ _ _=>none
def TS(_a0:Operand):Da:=fun _ _ _=>none
def Vq(_a0:Operand)(_a1:Operand):Da:=fun _ _ _=>none
def Va(_a0:TypeId)(_a1:Operand)(_a2:Bool):Da:=fun _ _ _=>none
def SS(_a0:Array SelectCase)(_a1:Bool):Da:=fun _ _ _=>none
def YZ(o:Op):Da:=@Op.casesOn (fun _=>Da) o V5 Ra VS S1 WE Ub Ku R1 VP S6 Ut Uh NG Tm Wf O7 Eg Hs Mz Pc MM Ll Tp LL S5 Mr Tc Q1 Me NS La Tt VE Uf Kt PT U8 X1 Ug TS Vq Va SS
def Dp(C:Ctx)(fr:Fr)(h:H)(o:Oper):Option OR:=YZ o.op C fr h
theorem Bk(C:Ctx)(fr:Fr)(h:H)(o:Oper):Dp C fr h o=Ds C fr h o:=by
 unfold Dp Ds;cases o.op<;>rfl
def Es(C:Ctx)(fr:Fr)(h:H)(o:Oper):Option OR:=
 match Dp C fr h o with
 |some r=>some r
 |none=>match o.op with
  | .convert s d x=>match ev C fr x with
   |some v=>match B4 C.T h s d v with
    |some u=>some<|.val u h
    |none=>CF<|Kf C.T h s d v
   |none=>none
  |_=>none
structure Ctx.Ok(C:Ctx)(P:Program):Prop where
 T:C.T.Ok P
 fn : ∀ f i, C.fn f = some i -> ∃ fn, P.funcs[f]? = some fn /\ fn.name ≠ "runtime.NumGoroutine" /\ fn.body = some i.body /\ fn.ntmps = i.ntmps /\ fn.results = i.results
 prim:∀f q,C.prim f=some q->∀(p:Pl) (h:H) (w:World) (args:List V) (args':Array Value) v h',R p h w->Gl C p->Ac p args args'.toList->q args h=some (v,h')->
  ∃v' p' w',(callFunc f args').run P w=.ok (.value v') w'/\Aa p' v v'/\Ext p h w p' h' w'
 spec:∀f q,C.spec f=some q->∀(p:Pl) (h:H) (w:World) (args:List V) (args':Array Value) v h',R p h w->Gl C p->Ac p args args'.toList->q args h=some (v,h')->
  Calls P f args' w fun e w'=>∃v' p',e=.returned v'/\Aa p' v v'/\Ext p h w p' h' w'
def Js(p:Pl)(h:H)(w:World):OR->Result Next->Prop
 | .val v h',r=>∃v' p' w',r=.ok (.value v') w'/\Aa p' v v'/\Ext p h w p' h' w'
 | .skip h',r=>∃p' w',r=.ok .skip w'/\Ext p h w p' h' w'
 | .enter f args,r=>∃args',r=.ok (.enter f args') w/\Ac p args args'.toList
 | .round b l fr,r=>∃k n f tmps,p[b]?=some (k,n)/\h.get b=some (.loop l)/\r=.ok (.round k f tmps l.asg l.body) w/\Ce p fr tmps
 | .alts l,r=>∃v h' v' p' w',(v,h')∈l/\r=.ok (.value v') w'/\Aa p' v v'/\Ext p h w p' h' w'
section
variable {C:Ctx}{P:Program}{p:Pl}{h:H}{w:World}{fr:Fr}{a:Act}
theorem AN{s:Sem Value}{v:Option V}{r:OR}(c:R p h w)(b:AE h v=some r)(e:∀x,v=some x->∃v',s.run P w=.ok v' w/\Aa p x v'):Js p h w r ((do pure (.value<|<-s):Sem Next).run P w):=by
 cases v with
 |none=>simp[AE]at b
 |some x=>
  simp only[AE,Ze]at b;subst b;obtain⟨v',d,f⟩:=e x rfl;exact⟨v',p,w,by simp[d],f,Zo c⟩
theorem Bw{s:Sem Value}{v:Option (V×H)}{r:OR}(b:CF v=some r)(c:∀x h',v=some (x,h')->∃v' p' w',s.run P w=.ok v' w'/\Aa p' x v'/\Ext p h w p' h' w'):Js p h w r ((do pure (.value<|<-s):Sem Next).run P w):=by
 match v,b,c with
 |some (x,h'),b,c=>
  simp only[CF,Ze]at b;subst b;obtain⟨v',p',w',e,f,d⟩:=c x h' rfl;exact⟨v',p',w',by simp[e],f,d⟩
 |none,b,_=>simp[CF]at b
theorem NX{s:Sem Unit}{v:Option H}{r:OR}(b:Sd v=some r)(d:∀h',v=some h'->∃w',s.run P w=.ok () w'/\Ext p h w p h' w'):Js p h w r ((do s;pure .skip:Sem Next).run P w):=by
 cases v with
 |none=>simp[Sd]at b
 |some h'=>
  simp only[Sd,Ze]at b;subst b;obtain⟨w',c,e⟩:=d h' rfl;exact⟨p,w',by simp[c],e⟩
theorem GM(A:C.Ok P)(E:R p h w)(L:Gl C p){f:V}{B:Value}{args:List V}{args':Array Value}(I:Aa p f B)(s:Ac p args args'.toList){r:OR}(b:Ee C h f args=some r):
  Js p h w r ((do let d<-Zt B args';invoke d.target d.args:Sem Next).run P w):=by
 unfold Ee at b;split at b
 case h_3=>cases b
 case h_2=>
  split at b
  case h_2=>cases b
  rename_i l D;rw[Aw]at b;by_cases N:args.length=l.ps.size
  ·simp only[N,decide_true,wc,Ze]at b;subst b;obtain⟨k,n,M,rfl⟩:=I;obtain⟨k',n',o,u,z,f0,tmps,r,m,j,J,rfl⟩:=E.obj _ _ D;have W:=s.length;simp only[Zt,Zd,Zn,Zb,invoke];have e:((l.ps.zip args').foldl (fun tmps (t,a)=>tmps.setIfInBounds t a) tmps)=(l.ps.toList.zip args'.toList).foldl (fun tmps (t,a)=>tmps.setIfInBounds t a) tmps:=by
    grind [Array.toList_zip]
   have G:=Ce.DF (ts:=l.ps.toList) s j;refine⟨k,n,f0,_,M,D,?_,G⟩;simp_all [run_yield]
  grind
 rename_i g first captured
 obtain⟨x,y,rfl,U,Q⟩:=I;have c:Ac p (first++args++captured) (x++args'++y).toList:=by
  simpa using(U.append s).append Q
 simp only[Zt,Zd,Zn,Zb,invoke];split at b
 case h_1=>
  rename_i q K;match hqr:q (first++args++captured) h,b with
  |some (v,h'),b=>
   simp only[CF,Ze]at b;subst b;obtain⟨v',p',w',u,z,j⟩:=A.prim g q K p h w _ _ v h' E L c hqr;exact⟨v',p',w',u,z,j⟩
  |none,b=>simp[CF]at b
 case h_2=>
  split at b
  case h_2=>cases b
  rename_i i O;cases b;obtain⟨fn,u,z,j,J,G⟩:=A.fn g i O;refine⟨_,?_,c⟩;simp_all [callFunc]
theorem Mj(l:C.Ok P)(o:R p h w)(q:Gl C p){x:V}{x':Value}{name:String}{args:List V}{args':Array Value}(A:Aa p x x')(B:Ac p args args'.toList){r:OR}(c:HI C h x name args=some r):
  Js p h w r ((invoke (.fn (.method name) #[])<|#[x']++args').run P w):=by
 unfold HI at c;split at c
 case h_2=>cases c
 rename_i t v;split at c
 case h_2=>cases c
 rename_i g s;obtain⟨y,rfl,D⟩:=A;obtain⟨j,m,d,h1,h2,h3,h4,h5,h6⟩:=l.T.mth t name g s;have key:(invoke (.fn (.method name) #[])<|#[.iface t y]++args').run P w=((do let d<-Zt (.func (.func g) #[] #[]) (#[y]++args');invoke d.target d.args:Sem Next).run P w):=by
  have n:(underlying t).run P w=.ok d w:=by simp_all [underlying]
  have u:(typeInfo t).run P w=.ok j w:=by unfold typeInfo;simp[h1]
  have b:∀k,(method (k+1) t y name).run P w=.ok (g,y) w:=by
   simp_all [method,follow,receiverAt,Place.get]
  have i:=b<|P.types.size+99;have e:P.types.size+Made.depth=P.types.size+99+1:=rfl;have h0:(#[Value.iface t y]++args')[0]?=some (.iface t y):=by
   grind
  have z:(#[Value.iface t y]++args').extract 1 (#[Value.iface t y]++args').size=args':=by
   simp
  simp only[invoke,Zt,h0,z];simp[callMethod,e,i]
 rw[key];exact GM l o q (f:=.fn (.func g) [] []) (by simp[Aa]) (by simp_all) c
theorem Lm(g:C.Ok P)(e:R p h w){b:Builtin}{ts:Array TypeId}{t:TypeId}{cs:Array Bool}{args:List V}{args':Array Value}(f:Ac p args args'.toList){r:OR}(d:Cq C h b ts args=some r):
  Js p h w r ((builtin b ts t cs args').run P w):=by
 unfold Cq at d;split at d
 case h_1=>exact AN e d fun x c=>S9 g.T e f c
 case h_2=>exact Bw d fun x h' c=>MQ g.T e f c
 case h_3=>exact Bw d fun x h' c=>RR g.T e f c
 case h_4=>exact AN e d fun x c=>Td f c
 case h_5=>exact AN e d fun x c=>TL f c
 case h_6=>exact AN e d fun x c=>TK g.T f c
 case h_7=>exact Bw d fun x h' c=>NC g.T e f c
 case h_8=>exact Bw d fun x h' c=>Qc g.T e f c
 case h_9=>exact AN e d fun x c=>PZ f c
 case h_10=>
  refine Bw d fun x h' c=>?_
  obtain⟨v',w',k,i,j⟩:=Q3 (t:=t) g.T e f c;grind
 grind
theorem RG{T:AP}(k:T.Ok P){op:BinOp}{t:TypeId}{x y:Operand}{v u:V}{v' j:Value}(g:Aa p v v')(q:Aa p u j){z:V}(f:Fx T op t x y v u=some z):
  ∃o,(do eqGuard op t x y v' j;binOp op t v' j:Sem Value).run P w=.ok o w/\Aa p z o:=by
 unfold Fx at f;split at f
 case h_2=>
  simp only[Zd,Pw k g q f,Zb];exact Ud k g q f
 case h_1=>
  rename_i r l;have D:∀ {b:Bool},(bif Ot x||Ot y then some (V.bool b)else none)=some z->z=.bool b/\((∃c,x=.const c)\/∃c,y=.const c):=by
   intro b i;cases d:(Ot x||Ot y)with
   |false=>grind
   |true=>
    simp only[d,wc,Ze]at i;refine⟨i.symm,?_⟩;simp only[Zk]at d;rcases d with d|d
    ·left;cases x<;>first|exact⟨_,rfl⟩|cases d
    ·right;cases y<;>first|exact⟨_,rfl⟩|cases d
  have B:∀op,(op=.eql\/op=.neq)->((∃c,x=.const c)\/∃c,y=.const c)->(eqGuard op t x y .nilIface .nilIface).run P w=.ok () w:=by
   intro op A d;rcases A with rfl|rfl<;>unfold eqGuard<;>rcases d with⟨c,rfl⟩|⟨c,rfl⟩<;>simp
  have s:∀ {n},T.und t=some (.interface n)->(Op.equal t .nilIface .nilIface).run P w=.ok true w:=by
   intro n e;unfold Op.equal Op.maxDepth Op.equalIn;rw[Zd,Ad k e];rfl
  unfold TM at l;split at l
  case h_1=>
   have i:=(Hz (t:=t) (y':=.nilIface) g rfl).1;simp_all [Aa]
  case h_2=>
   have i:=(Hz (t:=t) (y':=.nilIface) g rfl).2;simp_all [Aa]
  grind
theorem Sg(G:C.Ok P)(D:R p h w)(q:Gl C p)(A:A3 p fr a){o:Oper}{r:OR}(e:Dp C fr h o=some r):Js p h w r ((execOp a.eval o).run P w):=by
 rw[Bk]at e;unfold Ds at e;unfold execOp;cases ho:o.op<;>simp only[ho]at e ⊢<;>try (cases e;done)
 case move x|assign x=>
  cases j:ev C fr x with
  |none=>simp[j,AE]at e
  |some v=>simp[j,AE]at e;subst e;exact⟨_,p,w,rfl,Ao q A j,Zo D⟩
 case pick c x y=>
  split at e
  case h_2=>cases e
  rename_i t Y;have O:=Ao q A Y;simp only[Aa]at O;simp only[Zd,O,asBool,Zn,Zb];cases t
  ·cases j:ev C fr y with
   |none=>simp[j,AE]at e
   |some v=>simp[j,AE]at e;subst e;exact⟨_,p,w,by simp,Ao q A j,Zo D⟩
  ·cases j:ev C fr x with
   |none=>simp[j,AE]at e
   |some v=>simp[j,AE]at e;subst e;exact⟨_,p,w,by simp,Ao q A j,Zo D⟩
 case alloc t=>exact Bw e fun x h' j=>P3 G.T D j
 case box t x=>
  refine Bw e fun v h' j=>?_
  rw[Zg]at j;obtain⟨u,J,he⟩:=j;have:=Up (P:=P) (t:=t) D<|Ao q A J;grind
 case build t L=>
  split at e
  case h_2=>cases e
  rename_i ps M;refine AN D e fun x j=>Pa G.T ?_ j
  have:=Hy q A M;simp_all
 case buildSlice t n L=>
  split at e
  case h_2=>cases e
  rename_i ps M;refine Bw e fun x h' j=>MU G.T D ?_ j
  have:=Hy q A M;simp_all
 case load t x=>
  split at e
  case h_2=>cases e
  rename_i v B;exact AN D e fun x j=>Md G.T D (Ao q A B) j
 case store t x y=>
  split at e
  case h_2=>cases e
  rename_i v u B J;exact NX e fun h' j=>Qd G.T D (Ao q A B) (Ao q A J) j
 case nilCheck x=>
  split at e
  case h_3=>cases e
  case h_1=>
   rename_i b i B;have j:=Ao q A B;have K:=j;simp only[Aa]at K;obtain⟨r',n,hp,he⟩:=K;simp only[AE,Ze]at e;subst e;rw[he];exact⟨_,p,w,rfl,he▸j,Zo D⟩
  case h_2=>
   rename_i t v B;have j:=Ao q A B;have K:=j;simp only[Aa]at K;obtain⟨y,he,_⟩:=K;simp only[AE,Ze]at e;subst e;rw[he];exact⟨_,p,w,rfl,he▸j,Zo D⟩
 case binOp op t x y t2=>
  split at e
  case h_2=>cases e
  rename_i v u B J;refine AN D e fun z N=>?_
  exact RG G.T (Ao q A B) (Ao q A J) N
 case unOp op t x=>
  split at e
  case h_2=>cases e
  rename_i v B;exact AN D e fun x j=>VO (Ao q A B) j
 case convert s d x=>
  split at e
  case h_2=>cases e
  rename_i v B;exact AN D e fun x j=>Rm G.T D (Ao q A B) j
 case makeInterface t x=>
  split at e
  case h_2=>cases e
  rename_i v d B W;split at e
  case h_1=>cases e
  case h_2=>
   refine AN D e fun z N=>?_
   cases N;refine⟨.iface t<|a.eval x,?_,by exact⟨_,rfl,Ao q A B⟩⟩;unfold Instr.makeInterface;simp only[Zd,Ad G.T W,Zb];rfl
 case makeFunc f first captured=>
  split at e
  case h_2=>cases e
  rename_i x y j hy;refine AN D e fun z N=>?_
  cases N;exact⟨_,rfl,by exact⟨_,_,rfl,by simpa using EU q A j,by simpa using EU q A hy⟩⟩
 case makeMap t x=>
  split at e
  case h_2=>cases e
  rename_i v B;exact Bw e fun x h' j=>LZ D (HC q A B) j
 case makeSlice t l c=>
  split at e
  case h_2=>cases e
  rename_i v u B J;exact Bw e fun x h' j=>Sm G.T D (Ao q A B) (Ao q A J) j
 case slice t x lo hi mx=>
  split at e
  case h_2=>cases e
  rename_i v l r' m B Q X Z;exact AN D e fun x j=>PN G.T (Ao q A B) (HC q A Q) (HC q A X) (HC q A Z) j
 case fieldAddr t x f=>
  split at e
  case h_2=>cases e
  rename_i v B;exact AN D e fun x j=>O5 G.T (Ao q A B) j
 case field t x f=>
  split at e
  case h_2=>cases e
  rename_i v B;exact AN D e fun x j=>Pv G.T (Ao q A B) j
 case indexAddr t x i=>
  split at e
  case h_2=>cases e
  rename_i v u B J;exact AN D e fun x j=>PG G.T (Ao q A B) (Ao q A J) j
 case index t x i=>
  split at e
  case h_2=>cases e
  rename_i v u B J;exact AN D e fun x j=>Pq G.T (Ao q A B) (Ao q A J) j
 case lookup t x i ok=>
  split at e
  case h_2=>cases e
  rename_i v u B J;exact AN D e fun x j=>Ni G.T D (Ao q A B) (Ao q A J) j
 case mapUpdate t m k x|insert t m k x=>
  split at e
  case h_2=>cases e
  rename_i v u z B J N;exact NX e fun h' j=>Ny G.T D (Ao q A B) (Ao q A J) (Ao q A N) j
 case range t x=>
  split at e
  case h_2=>cases e
  rename_i v B;exact Bw e fun x h' j=>MO G.T D (Ao q A B) j
 case next x b=>
  split at e
  case h_2=>cases e
  rename_i v B;cases b with
  |true=>exact Bw e fun x h' j=>QY D (Ao q A B) j
  |false=>
   simp only[wd,Zg]at e;obtain⟨l,Q,rfl⟩:=e;obtain⟨v,h',v',p',w',g1,g2,g3,g4⟩:=PW (P:=P) (t:=o.type) D (Ao q A B) Q;grind [Zd,Zb,Zn,Js]
 case entry x=>
  split at e
  case h_2=>cases e
  rename_i v B;exact AN D e fun x j=>PJ D (Ao q A B) j
 case extract x i=>
  split at e
  case h_2=>cases e
  rename_i v B;exact AN D e fun x j=>L9 (Ao q A B) j
 case call c=>
  split at e
  case h_4=>cases e
  case h_1=>
   rename_i b args I E;have:=EU q A E;unfold resolve;simp only[I,Zd,Zn,Zb,invoke];exact Lm G D (by simp_all) e
  case h_2=>
   rename_i f args I E;split at e
   case h_2=>cases e
   rename_i g U;have:=EU q A E;unfold resolve;simp only[I];exact GM G D q (Ao q A U) (by simp_all) e
  case h_3=>
   rename_i x nm args I E;split at e
   case h_2=>cases e
   rename_i v B;have:=EU q A E;unfold resolve;simp only[I,Zd,Zn,Zb];exact Mj G D q (Ao q A B) (by simp_all) e
theorem F8(g:C.Ok P)(c:R p h w)(f:Gl C p)(j:A3 p fr a){o:Oper}{r:OR}(b:Es C fr h o=some r):Js p h w r ((execOp a.eval o).run P w):=by
 unfold Es at b;split at b
 case h_1=>
  grind [Sg]
 case h_2=>
  split at b
  case h_2=>cases b
  rename_i s d x k;split at b
  case h_2=>cases b
  rename_i v i;unfold execOp;simp only[k];split at b
  case h_1=>
   rename_i u l;exact AN (v:=some u) c b fun x e=>by cases e;exact Us g.T c (Ao f j i) l
  exact Bw b fun x h' e=>Po g.T c (Ao f j i) e
end
def Ar(fr:Fr)(ops:Array Oper)(o:Oper):Bool:=
 match o.guard with
 |none=>true
 |some (j,c)=>
  match (ops[j]?).bind (·.dst)with
  |some t=>bif Zf t fr.n then(match fr.get t with| .bool b=>b==c|_=>false)else false
  |none=>false
inductive Cl where
 |fn (f:FuncId) (args:List V)
 |rnd (b:Nat) (l:LS) (fr:Fr)
abbrev Bq:=Cl->H->Option (List<|V×H)
def bl{α c:Type}:List α->(α->Option (List c))->Option (List c)
 |[],_=>some []
 |a::e,f=>match f a with
  |none=>none
  |some x=>match e with
   |[]=>some x
   |b::d=>match bl (b::d) f with
    |some y=>some<|x++y
    |none=>none
theorem Cz{α g:Type}{f:α->Option (List g)}:∀ {l:List α} {r:List g},bl l f=some r->∀a∈l,∃x,f a=some x/\∀b∈x,b∈r
 |[],r,_,a,e=>by cases e
 |[c],r,h,a,e=>by
  grind [bl]
 |c::d::n,r,h,a,e=>by
  unfold bl at h;split at h
  ·cases h
  simp only at h;split at h
  case h_2=>cases h
  rename_i y i;rcases ZK.1 e with rfl|e
  ·grind
  ·obtain⟨z,j,k⟩:=Cz i a e;grind
def D3(fr:Fr)(d:Option Nat):List (V×H)->Option (List<|Fr×H)
 |[]=>some []
 |(v,h)::l=>match fr.put d v with
  |some f=>match D3 fr d l with
   |some r=>some ((f,h)::r)
   |none=>none
  |none=>none
theorem H5{fr:Fr}{d:Option Nat}:∀ {l:List (V×H)} {r:List (Fr×H)},D3 fr d l=some r->∀v h,(v,h)∈l->∃f,fr.put d v=some f/\(f,h)∈r
 |[],r,_,v,h,hm=>by cases hm
 |(u,k)::l,r,b,v,h,hm=>by
  unfold D3 at b;split at b
  case h_2=>cases b
  split at b
  case h_2=>cases b
  rename_i i c;rcases ZK.1 hm with e|hm
  ·grind
  ·obtain⟨g,j,n⟩:=H5 c v h hm;grind
def step1(C:Ctx)(call:Bq)(ops:Array Oper)(o:Oper)(fr:Fr)(h:H):Option (List<|Fr×H):=
 bif Ar fr ops o then
  match Es C fr h o with
  |some (.val v h')=>match fr.put o.dst v with
   |some fr'=>some [(fr',h')]
   |none=>none
  |some (.skip h')=>match fr.put o.dst (.tup [])with
   |some fr'=>some [(fr',h')]
   |none=>none
  |some (.enter f args)=>match call (.fn f args) h with
   |some l=>D3 fr o.dst l
   |none=>none
  |some (.round b ls f)=>match call (.rnd b ls f) h with
   |some l=>D3 fr o.dst l
   |none=>none
  |some (.alts l)=>D3 fr o.dst l
  |none=>none
 else match fr.put o.dst (.tup [])with
  |some fr'=>some [(fr',h)]
  |none=>none
def J9(C:Ctx)(call:Bq)(ops:Array Oper):List Oper->Fr->H->Option (List<|Fr×H)
 |[],fr,h=>some [(fr,h)]
 |o::b,fr,h=>match step1 C call ops o fr h with
  |some l=>bl l fun x=>J9 C call ops b x.1 x.2
  |none=>none
def FW(ro:Option Nat):Fence:={ Zz with round:=ro }
theorem MF{ro:Option Nat}{n:Nat}{P:Program}{f:FuncId}{args:Array Value}{w:World}{R:Ending->World->Prop}:CallsIn (FW ro) n P f args w R↔Calls P f args w R:=by
 have:CallsIn (FW ro) n P f args w R↔CallsIn Zz n P f args w R:=Iff.rfl;grind [callsIn_wide]
theorem Vx{ro:Option Nat}{n:Nat}{P:Program}{k:Nat}{f:FuncId}{tmps:Array Value}{asg body:Code}{w:World}{R:Ending->World->Prop}(h:RoundIn Zz 0 P k f tmps asg body w R):RoundIn (FW ro) n P k f tmps asg body w R:=
 ⟨trivial,fun c cs _=>h.2 c cs<|room_wide _⟩
inductive DX where
 |normal
 |exit (id:Nat)
 |ret
def DX.KL:DX->Exit
 | .normal=>.normal
 | .exit id=>.exit id
 | .ret=>.ret
section
variable {C:Ctx}{P:Program}{p:Pl}{h:H}{w:World}{fr:Fr}{a:Act}
theorem A3.put(f:A3 p fr a){d:Option Nat}{v:V}{v':Value}(i:Aa p v v'){fr':Fr}(b:fr.put d v=some fr'):A3 p fr' (a.put d v'):=by
 unfold Fr.put at b;cases d with
 |none=>cases b;exact f
 |some t=>
  simp only[DG]at b;by_cases c:t<fr.n
  ·simp only[c,decide_true,wc,Ze]at b;subst b;refine⟨by simp[ZM,f.1],fun s=>?_⟩;have g:t<a.tmps.size:=f.1▸c;by_cases e:s=t
   ·simp_all [Fr.get,ZM]
   ·have:=f.2 s;simp only[Fr.get,PM.Bd,wa e,ZM]at this ⊢;rw[Zi,Zy a8, <-Zi];omega
  grind
theorem A3.mono(b:A3 p fr a){p':Pl}(c:∃q,p'=p++q):A3 p' fr a:=by
 obtain⟨q,rfl⟩:=c;exact⟨b.1,fun t=>(b.2 t).mono q⟩
theorem A3.ext(b:A3 p fr a){p':Pl}{h':H}{w':World}(e:Ext p h w p' h' w'):A3 p' fr a:=b.mono e.pre
theorem S4{p:Pl}{v:V}{b:Bool}(c:Aa p v (.bool b)):v=.bool b:=by
 cases v<;>simp only[Aa]at c<;>first|(cases c;rfl)|(simp at c;done)|(done)|(done)|(done)|(done)|(done)
theorem JS(l:A3 p fr a)(ops:Array Oper)(o:Oper):Zu o (yielded ops a.tmps)=Ar fr ops o:=by
 unfold Zu Ar;cases r:o.guard with
 |none=>rfl
 |some q=>
  obtain⟨j,g⟩:=q;simp only;unfold yielded;cases s:(ops[j]?).bind (·.dst)with
  |none=>simp
  |some t=>
   simp only[Option.bind_some,DG];by_cases c:t<fr.n
   ·have d:t<a.tmps.size:=l.1▸c;have f:=l.2 t;simp only[c,decide_true,wc];have e:a.tmps[t]?=some (a.tmps.getD t undef):=by simp[d]
    rw[e];cases i:a.tmps.getD t undef with
    |bool b=>
     rw[i]at f;have:=S4 f;grind
    |_=>
     rw[i]at f;cases k:fr.get t with
     |bool b=>rw[k]at f;simp[Aa]at f
     |_=>cases g<;>rfl
   ·have:a.tmps[t]?=none:=Array.getElem?_eq_none<|Nat.le_of_not_lt<|l.1▸c;grind
def Dm(p:Pl)(h:H)(w:World)(l:List (V×H))(e:Ending)(w':World):Prop:=
 ∃v h' v' p',(v,h')∈l/\e=.returned v'/\Aa p' v v'/\Ext p h w p' h' w'
structure Bq.Ok(C:Ctx)(P:Program)(call:Bq):Prop where
 fn:∀f args h l,call (.fn f args) h=some l->∀(p:Pl) (w:World) (args':Array Value),R p h w->Gl C p->Ac p args args'.toList->Calls P f args' w (Dm p h w l)
 rnd:∀b ls fr h l,call (.rnd b ls fr) h=some l->∀(p:Pl) (w:World) (k n:Nat) (f:FuncId) (tmps:Array Value),R p h w->Gl C p->h.get b=some (.loop ls)->p[b]?=some (k,n)->Ce p fr tmps->
  RoundIn Zz 0 P k f tmps ls.asg ls.body w (Dm p h w l)
theorem DA{o:Oper}{r:OR}(b:Dp C fr h o=some r):∀c,o.op≠ .defer c:=by
 grind [Bk,Ds]
theorem C5{o:Oper}{r:OR}(b:Es C fr h o=some r):∀c,o.op≠ .defer c:=by
 grind [Es,DA]
theorem Kp{p':Pl}{l:List (V×H)}{r:List (Fr×H)}{d:Option Nat}(i:D3 fr d l=some r)(n:A3 p fr a){K:Act->World->Prop}
  (c:∀x∈r,∀p' b w',A3 p' x.1 b->Ext p h w p' x.2 w'->b.defers=a.defers->K b w') {v:V} {h':H} {v':Value} {w':World} (e:(v,h')∈l) (k:Aa p' v v') (he:Ext p h w p' h' w'):K (a.put d v') w':=by
 obtain⟨f,g,j⟩:=H5 i v h' e;exact c _ j p' _ w' ((n.ext he).put k g) he (by cases d<;>rfl)
theorem P7(B:C.Ok P){call:Bq}(q:call.Ok C P)(t:R p h w)(u:Gl C p)(j:A3 p fr a){ops:Array Oper}{i:Nat}{o:Oper}(W:ops[i]?=some o){l:List (Fr×H)}
  (d:step1 C call ops o fr h=some l) {ro:Option Nat} {n:Nat} {Q:Exit->Act->World->Prop} {K:Act->World->Prop}
  (A:∀x∈l,∀p' L w',A3 p' x.1 L->Ext p h w p' x.2 w'->L.defers=a.defers->K L w'):wpOpIn (FW ro) n P ops Q i K a w:=by
 have z:∀v,(a.put o.dst v).defers=a.defers:=by intro v;cases o.dst<;>rfl
 unfold step1 at d;unfold wpOpIn;simp only[W];rw[JS j];cases O:Ar fr ops o with
 |false=>
  simp only[O,wd]at d;refine⟨fun _ _=>trivial,?_⟩;split at d
  case h_2=>cases d
  rename_i G D;cases d;exact A _ (Zl.2 rfl) p _ w (j.put (by simp[Aa,undef]) D) (Zo t)<|z _
 |true=>
  simp only[O,wc]at d;refine⟨fun _ _=>trivial,?_⟩;split at d
  case h_6=>cases d
  case h_1=>
   rename_i v X c;split at d
   case h_2=>cases d
   rename_i G D;cases d;obtain⟨v',p',w',r,y,s⟩:=F8 B t u j c;rw[Zj _ _ _<|C5 c,r,Zp];exact A _ (Zl.2 rfl) p' _ w' ((j.ext s).put y D) s<|z _
  case h_2=>
   rename_i X c;split at d
   case h_2=>cases d
   rename_i G D;cases d;obtain⟨p',w',r,s⟩:=F8 B t u j c;rw[Zj _ _ _<|C5 c,r,Oper.uponIn_skip];exact A _ (Zl.2 rfl) p' _ w' ((j.ext s).put (by simp[Aa,undef]) D) s<|z _
  case h_3=>
   rename_i f args c;split at d
   case h_2=>cases d
   rename_i I M;obtain⟨args',r,y⟩:=F8 B t u j c;rw[Zj _ _ _<|C5 c,r,Oper.uponIn_enter];refine⟨(by grind [FW,Zz]),MF.2<|(q.fn f args h I M p w args' t u y).mono ?_⟩;rintro e w' ⟨v,h',v',p',E,rfl,N,J⟩;exact Kp d j A E N J
  case h_4=>
   rename_i b ls f c;split at d
   case h_2=>cases d
   rename_i I M;obtain⟨k,m,g,tmps,r,y,s,U⟩:=F8 B t u j c;rw[Zj _ _ _<|C5 c,s,Oper.uponIn_round];refine⟨(by grind [FW,Zz]),(Vx<|q.rnd b ls f h I M p w k m g tmps t u y r U).mono ?_⟩;rintro e w' ⟨v,h',v',p',E,rfl,N,J⟩;exact Kp d j A E N J
  case h_5=>
   rename_i I c;obtain⟨v,h',v',p',w',E,r,y,s⟩:=F8 B t u j c;rw[Zj _ _ _<|C5 c,r,Zp];exact Kp d j A E y s
theorem Lw(u:C.Ok P){call:Bq}(b:call.Ok C P){ops:Array Oper}{ro:Option Nat}{n:Nat}{Q:Exit->Act->World->Prop}:
  ∀(l:List Oper) (k:Nat),(∀j,l[j]?=ops[k+j]?)->∀ {p:Pl} {h:H} {w:World} {fr:Fr} {a:Act},R p h w->Gl C p->A3 p fr a->∀ {L:List (Fr×H)},J9 C call ops l fr h=some L->
  (∀x∈L,∀p' i w',A3 p' x.1 i->Ext p h w p' x.2 w'->i.defers=a.defers->Q .normal i w')->wpOpsIn (FW ro) n P ops Q (List.range' k l.length) a w
 |[],k,_,p,h,w,fr,a,r,g,s,L,d,q=>by
  cases d;exact q _ (Zl.2 rfl) p a w s (Zo r) rfl
 |o::l,k,z,p,h,w,fr,a,r,g,s,L,d,q=>by
  unfold J9 at d;split at d
  case h_2=>cases d
  rename_i U I;refine P7 u b r g s (by simpa using(z 0).symm) I (K:=wpOpsIn (FW ro) n P ops Q<|List.range' (k+1) l.length) fun x N O a1 W e c A=>?_
  obtain⟨L1,G,E⟩:=Cz d x N;exact Lw u b l (k+1) (fun j=>by have:=z<|j+1;grind) c.rel (g.ext c) e G
   fun y J D a2 M t f B=>q y (E y J) D a2 M t (c.trans f) ae
theorem NF(g:C.Ok P){call:Bq}(b:call.Ok C P){ops:Array Oper}{ro:Option Nat}{n:Nat}{Q:Exit->Act->World->Prop}(d:R p h w)(f:Gl C p)(e:A3 p fr a){L:List (Fr×H)}
  (i:J9 C call ops ops.toList fr h=some L) {id:Nat}
  (j:∀x∈L,∀p' c w',A3 p' x.1 c->Ext p h w p' x.2 w'->c.defers=a.defers->Q .normal c w'):(Code.region id ops false).wpIn (FW ro) n P Q a w:=by
 refine wpIn_region ?_;have:=Lw (Q:=Q) (ro:=ro) (n:=n) g b ops.toList 0 (by simp) d f e i j;grind [List.range_eq_range']
end
theorem Gv{C:Ctx}{fr fr':Fr}:∀ {b:List Operand},(∀x∈b,ev C fr x=ev C fr' x)->LO C fr b=LO C fr' b
 |[],_=>rfl
 |x::b,h=>by
  unfold LO;rw[h x (by simp),Gv<|fun y c=>h y<|by simp[c]]
theorem E4{C:Ctx}{fr fr':Fr}:∀ {b:List (Nat×Operand)},(∀x∈b,ev C fr x.2=ev C fr' x.2)->Nu C fr b=Nu C fr' b
 |[],_=>rfl
 |(i,x)::b,h=>by
  unfold Nu;rw[h (i,x) (by simp),E4<|fun y c=>h y<|by simp[c]]
theorem Jw{C:Ctx}{fr fr':Fr}{x:Option Operand}(h:∀y,x=some y->ev C fr y=ev C fr' y):Mx C fr x=Mx C fr' x:=by
 cases x with
 |none=>rfl
 |some y=>simp[Mx,h y rfl]
theorem O8{C:Ctx}{fr fr':Fr}{h:H}{o:Oper}(d:∀x∈o.op.operands,ev C fr x=ev C fr' x):Dp C fr h o=Dp C fr' h o:=by
 obtain⟨dst,op,b,pos,after,guard⟩:=o;cases op<;>simp only[ZH]at d<;>simp only[Bk,Ds]
 case build t ps=>grind [E4]
 case buildSlice t n ps=>grind [E4]
 case makeFunc f first captured=>grind [Gv]
 case makeMap t r=>grind [Jw]
 case slice t x g e mx=>
  grind [Jw]
 case call c=>
  grind [Gv,Call.operands]
 all_goals (first|rfl|(simp_all;done))
def reads(ops:Array Oper)(o:Oper):List Tmp:=o.looksAt ops
theorem Tu{C:Ctx}{fr fr':Fr}{x:Operand}(h:∀t,x=.tmp t->fr.get t=fr'.get t):ev C fr x=ev C fr' x:=by
 cases x with
 |tmp t=>simp only[ev,h t rfl]
 |_=>rfl
theorem mem_reads{ops:Array Oper}{o:Oper}{t:Tmp}(h:Operand.tmp t∈o.op.operands):t∈reads ops o:=
 List.mem_append_left _ (List.mem_filterMap.2 ⟨.tmp t,by grind,rfl⟩)
theorem KI{fr fr':Fr}{ops:Array Oper}{o:Oper}(d:fr.n=fr'.n)(h:∀t∈reads ops o,fr.get t=fr'.get t):Ar fr ops o=Ar fr' ops o:=by
 unfold Ar;cases e:o.guard with
 |none=>rfl
 |some c=>
  obtain⟨j,b⟩:=c;simp only;cases f:(ops[j]?).bind (·.dst)with
  |none=>rfl
  |some t=>
   simp only[d];rw[h t<|List.mem_append_right _ ae]
def JP(l:List Tmp)(fr:Fr):Fr:=⟨fr.n,l.foldr (fun t m=>m.set t<|some<|fr.get t) .leaf⟩
def I0(l:List Tmp)(a:Act):Act:={ a with tmps:=Array.ofFn (n:=a.tmps.size) fun t=>if l.contains t.1 then a.tmps.getD t undef else undef }
theorem GB(l:List Tmp)(fr:Fr)(t:Tmp):(JP l fr).get t=if t∈l then fr.get t else .tup []:=by
 unfold JP Fr.get;induction l with
 |nil=>simp
 |cons x l b=>
  simp only[List.foldr_cons,PM.Bd,ZK];grind
theorem JA(l:List Tmp)(a:Act)(t:Tmp):(I0 l a).tmps.getD t undef=if t∈l then a.tmps.getD t undef else undef:=by
 unfold I0;by_cases h:t<a.tmps.size
 ·simp[h]
 simp_all
section
variable {C:Ctx}{P:Program}{p:Pl}{h:H}{w:World}{fr:Fr}{a:Act}
structure Wm(p:Pl)(fr:Fr)(a:Act)(l:List Tmp):Prop where
 n:fr.n=a.tmps.size
 get:∀t∈l,Aa p (fr.get t) (a.tmps.getD t undef)
theorem Wm.Je{l:List Tmp}(b:Wm p fr a l):A3 p (JP l fr) (I0 l a):=by
 refine⟨by simp[JP,I0,b.n],fun t=>?_⟩;rw[GB,JA];by_cases c:t∈l
 ·simp only[c,wi];exact b.get t c
 simp_all [Aa,undef]
theorem GK{ops:Array Oper}{o:Oper}{x:Operand}(b:x∈o.op.operands):(I0 (reads ops o) a).eval x=a.eval x:=by
 cases x with
 |tmp t=>
  have:=JA (reads ops o) a t;rw[wb<|mem_reads b]at this;exact this
 |_=>rfl
theorem KV{ops:Array Oper}{o:Oper}{x:Operand}(b:x∈o.op.operands):ev C (JP (reads ops o) fr) x=ev C fr x:=by
 refine Tu fun t c=>?_
 simp_all [GB,mem_reads]
theorem Fa(f:C.Ok P)(c:R p h w)(e:Gl C p){ops:Array Oper}{o:Oper}(d:Wm p fr a (reads ops o))(i:∀cs b,o.op≠ .select cs b){r:OR}(j:Dp C fr h o=some r):
  Js p h w r ((execOp a.eval o).run P w):=by
 have g:=Sg f c e d.Je (o:=o) (r:=r) (by grind [O8,KV]);grind [execOp_congr,GK]
theorem J2{ops:Array Oper}{o:Oper}(e:Wm p fr a (reads ops o)):Zu o (yielded ops a.tmps)=Ar fr ops o:=by
 have b:=JS e.Je ops o;rw[KI (fr:=JP (reads ops o) fr) (fr':=fr) (ops:=ops) (o:=o) rfl (by simp_all [GB])]at b;rw[<-b];unfold Zu;cases g:o.guard with
 |none=>rfl
 |some d=>
  obtain⟨j,c⟩:=d;simp only;unfold yielded;cases k:(ops[j]?).bind (·.dst)with
  |none=>rfl
  |some t=>
   have i:t∈reads ops o:=List.mem_append_right _ ae;by_cases f:t<a.tmps.size
   ·simp_all [I0]
   simp_all [I0]
end
def Ca(o:Oper):Bool:=
 match o.op with
 | .move _| .assign _| .pick .. | .build .. | .load .. | .nilCheck _| .binOp .. | .unOp .. | .convert .. | .makeInterface .. | .makeFunc .. | .slice .. | .fieldAddr .. | .field .. | .indexAddr .. | .index .. | .lookup .. | .extract .. =>true
 | .call { callee:=.builtin .len,.. }| .call { callee:=.builtin .max,.. }| .call { callee:=.builtin .min,.. }| .call { callee:=.builtin .unsafeSliceData,.. }=>true
 |_=>false
def Jq(o:Oper):Bool:=
 match o.op with
 | .load .. | .convert .. | .lookup .. =>true
 | .call { callee:=.builtin .len,.. }=>true
 |_=>false
def Bc(o:Oper):Bool:=
 match o.op with
 | .alloc _| .box .. | .buildSlice .. =>true
 |_=>false
theorem Dg{h:H}{v:Option V}{r:OR}(b:AE h v=some r):∃x,v=some x/\r=.val x h:=by
 cases v with
 |none=>cases b
 |some x=>cases b;simp
theorem rd_val{C:Ctx}{fr:Fr}{h:H}{o:Oper}(e:Ca o=true){r:OR}(d:Dp C fr h o=some r):∃v,r=.val v h:=by
 obtain⟨dst,op,g,pos,after,guard⟩:=o;cases op<;>simp only[Ca]at e<;>simp only[Bk,Ds]at d<;>try (cases e;done)
 case call c=>
  obtain⟨callee,args,ts⟩:=c;cases callee with
  |builtin b=>
   cases he:LO C fr args.toList with
   |none=>grind
   |some i=>
    simp only[he]at d;cases b<;>first|(cases e;done)|(obtain⟨x,_,rfl⟩:=Dg d;simp)
  |value f=>cases e
  |invoke=>cases e
 all_goals
  repeat' split at d
  all_goals first
   |(cases d;done)
   |(obtain⟨x,_,rfl⟩:=Dg d;exact⟨x,rfl⟩)
theorem RH{C:Ctx}{fr:Fr}{h:H}{o:Oper}(g:Ca o=true)(k:Jq o=false){v:V}(d:Dp C fr h o=some (.val v h))(h':H):Dp C fr h' o=some (.val v h'):=by
 have key:∀ {x:Option V},AE h x=some (.val v h)->AE h' x=some (.val v h'):=by
  intro x j;obtain⟨y,rfl,e⟩:=Dg j;cases e;rfl
 obtain⟨dst,op,i,pos,after,guard⟩:=o;cases op<;>simp only[Ca]at g<;>simp only[Jq]at k<;>simp only[Bk,Ds]at d ⊢<;>try (first|(done)|(done))
 case call c=>
  obtain⟨callee,args,ts⟩:=c;cases callee with
  |builtin b=>
   cases he:LO C fr args.toList with
   |none=>grind
   |some l=>
    grind [Cq]
  |value f=>cases g
  |invoke=>cases g
 all_goals
  repeat' split at d
  all_goals first
   |(done)
   |exact key d
   |grind
section
variable {C:Ctx}{P:Program}{p:Pl}{h:H}{w:World}{fr:Fr}{a:Act}
def Ns(T:AP)(t:TypeId)(len:Nat)(b:List (Nat×V)):Option (List V×TypeId):=
 match T.und t with
 |some (.slice e)=>match T.inf e with
  |some i=>
   bif Zx (len*i.size) 16777216&&Zf 0 (i.zero.length)&&Zm i.zero.length i.size then
    (Er (fun k=>some (k*i.size,i.size)) (CI i.zero<|len*i.size) b).map fun cs=>(cs,e)
   else none
  |none=>none
 |_=>none
def SY(C:Ctx)(fr:Fr)(o:Oper):Option (O×(Nat->V)):=
 match o.op with
 | .alloc t=>match C.T.inf t with
  |some i=>some (.cells i.zero t (0,0),fun b=>.ptr b 0)
  |none=>none
 | .box t x=>match ev C fr x with
  |some v=>some (.cells v.cells t (0,0),fun b=>.ptr b 0)
  |none=>none
 | .buildSlice t n c=>match Nu C fr c.toList with
  |some ps=>match Ns C.T t n ps with
   |some (cs,e)=>some (.cells cs e (0,0),fun b=>.sl b 0 n n 0)
   |none=>none
  |none=>none
 |_=>none
theorem Ve(A:C.Ok P)(E:Gl C p){ops:Array Oper}{o:Oper}(M:Wm p fr a (reads ops o)){ob:O}{f:Nat->V}(l:SY C fr o=some (ob,f)):
  ∃x n v',(execOp a.eval o).run P w=.ok (.value v') { w with heap:=w.heap.push x }/\Ff p n ob x/\∀(q:Pl) b,q[b]?=some (w.heap.size,n)->Aa q (f b) v':=by
 have L:=M.Je;have d:∀(t:TypeId) (cs:List V) (c:Array Value),Ac p cs c.toList->Ff p c.size (.cells cs t (0,0)) (.cells c t):=by
  intro t cs c y;refine⟨c,(0,0),rfl,rfl,by have:=y.length;grind,?_,a8⟩;have:=y.length;rw[List.take_of_length_le a8];exact y.WK
 unfold SY at l;split at l
 case h_4=>cases l
 case h_1=>
  rename_i t D;split at l
  case h_2=>cases l
  rename_i i B;cases l;obtain⟨z,K,r⟩:=BY A.T B;refine⟨.cells z.cells t,_,.pointer<|some ⟨w.heap.size,0,none⟩,?_,d _ _ _<|r p,(by simp_all [Aa])⟩;simp_all [execOp,Instr.alloc,newVar,A9]
 case h_2=>
  rename_i t x D;split at l
  case h_2=>cases l
  rename_i v Q;cases l;have y:Aa p v (a.eval x):=by
   have:=Ao (C:=C) E L (x:=x) (v:=v) (by grind [KV,ZH]);grind [GK,ZH]
  refine⟨.cells (a.eval x).cells t,_,.pointer<|some ⟨w.heap.size,0,none⟩,?_,d _ _ _ y.cells,(by simp_all [Aa])⟩;simp_all [execOp,Instr.box,newVar,A9]
 case h_3=>
  rename_i t len s D;split at l
  case h_2=>cases l
  rename_i ps J;split at l
  case h_2=>cases l
  rename_i cs e j;cases l;have I:Lx p ps (s.map fun(i,x)=>(i,a.eval x)).toList:=by
   grind [Hy,E4,KV,ZH,Array.toList_map,List.map_congr_left,GK]
  unfold Ns at j;split at j
  case h_2=>cases j
  rename_i G N;split at j
  case h_2=>cases j
  rename_i i B;cases g:(Zx (len*i.size) 16777216&&Zf 0 (i.zero.length)&&Zm i.zero.length i.size)with
  |false=>grind
  |true=>
   simp only[g,wc,Zg,ZJ]at j;obtain⟨cs',u,rfl,rfl⟩:=j;simp only[Zc,ZL,Zq,Aw,w5]at g;obtain⟨⟨c1,c2⟩,c3⟩:=g;obtain⟨z,K,r⟩:=BY A.T B;obtain⟨oo,h1,h2⟩:=Gr (p:=p) (place:=fun k=>some (k*i.size,i.size)) I (Fc (r p) c2<|len*i.size) u;refine⟨.cells oo G,_,.slice (some ⟨w.heap.size,0,none⟩) len len,?_,d _ _ _ h2,(by simp_all [Aa])⟩;unfold execOp;simp only[D];unfold Instr.buildSlice;simp only[Zd,Ad A.T N,Zb,AB A.T B];by_cases h0:len*i.size=0
   ·grind [Zd,Zn,Zb,A9]
   simp_all [A9]
theorem Ext.Qj{u p:Pl}{l h:H}{i w:World}(he:Ext u l i p h w){r n:Nat}{o:O}{x:Obj}(Z:w.heap[r]?=some x)(X:Ff p n o x)(hi:¬Im p h r)(Q:i.heap.size<=r):
  Ext u l i (p++[(r,n)]) (h.push o) w:=by
 have D:=he.rel;have z:(p++[(r,n)])[h.nx]?=some (r,n):=by rw[<-D.len];simp
 have g:∀b,b<h.nx->(p++[(r,n)])[b]?=p[b]?:=ae;have d:∀c f,(h.push o).get c=some f->(c=h.nx/\f=o)\/(c<h.nx/\h.get c=some f):=by
  intro c f k;rw[H.A6]at k;by_cases e:c=h.nx
  ·grind
  ·rw[wa e]at k;exact .inr ⟨D.lt k,k⟩
 refine⟨?_,⟨by simp[D.len],fun c f k=>?_,fun c J f G s m W k N E R=>?_⟩,he.size,he.same,fun s M=>?_,he.os,he.out,he.tape,fun s M U=>?_,he.dr⟩
 ·obtain⟨q,rfl⟩:=he.pre;simp
 ·rcases d c f k with⟨rfl,rfl⟩|⟨B,e2⟩
  ·exact⟨r,n,x,z,Z,X.mono _⟩
  ·obtain⟨s,m,y,A,j,L⟩:=D.obj c f e2;exact⟨s,m,y,by grind,j,L.mono _⟩
 ·rcases d c f k with⟨rfl,rfl⟩|⟨B,e2⟩<;>rcases d J G N with⟨rfl,rfl⟩|⟨K,I⟩
  ·rfl
  ·grind [Im]
  ·grind [Im]
  ·rw[g c B]at E;rw[g J K]at R;exact D.inj c J f G s m W e2 I E R
 ·obtain⟨c,f,m,A,j⟩:=M;rcases d c f A with⟨rfl,rfl⟩|⟨B,e2⟩
  ·grind
  ·rw[g c B]at j;exact he.im s ⟨c,f,m,e2,j⟩
 ·obtain⟨B,E⟩:=he.lock s M U;refine⟨B,?_⟩;rcases E with⟨c,m,cs,t,fz,A,j,L⟩|E
  ·have Y:=D.lt A;exact .inl ⟨c,m,cs,t,fz,by rw[H.A6,wa a8];exact A,by grind,L⟩
  ·refine .inr ?_;rintro⟨c,f,m,A,j⟩;rcases d c f A with⟨rfl,rfl⟩|⟨K,I⟩
   ·grind
   ·rw[g c K]at j;exact E ⟨c,f,m,I,j⟩
theorem Ext.aside{d p:Pl}{c h:H}{e w:World}(he:Ext d c e p h w)(x:Obj):Ext d c e p h { w with heap:=w.heap.push x }:=by
 have g:=he.rel;refine⟨he.pre,⟨g.len,fun b o l=>?_,g.inj⟩,by have:=he.size;grind,fun r f q=>?_,he.im,he.os,he.out,he.tape,fun r f k=>?_,he.dr⟩
 ·obtain⟨r,n,y,i,j,s⟩:=g.obj b o l;grind
 ·have i:=he.same r f q;grind
 ·obtain⟨i,j⟩:=he.lock r f k;grind
end
def Cy(C:Ctx)(call:Bq)(fr:Fr)(h:H)(o:Oper):Option (V×H):=
 match Dp C fr h o with
 |some (.val v h')=>some (v,h')
 |some (.skip h')=>some (.tup [],h')
 |some (.enter f args)=>match call (.fn f args) h with
  |some [x]=>some x
  |_=>none
 |_=>none
def Bi(o:Oper):Bool:= !Ca o&& !Bc o
structure Stat(ops:Array Oper)(anc:Nat->Nat->Bool)(ord pos:Nat->Nat)(sc:Nat->Option Nat):Prop where
 sel:Region.noSelect ops=true
 ordp:∀q,q<ops.size->ord q<ops.size/\pos (ord q)=q
 posp:∀i,i<ops.size->pos i<ops.size/\ord (pos i)=i
 edge:∀j i,anc j i=true->∃(o:Oper) (e:Edge),ops[j]?=some o/\e∈o.after/\ZA .any e=true/\(e.on=i\/anc e.on i=true)
 dir:∀(j:Nat) (o:Oper) (e:Edge),ops[j]?=some o->e∈o.after->ZA .any e=true->anc j e.on=true/\e.on<ops.size
 apos:∀j i,anc j i=true->pos i<pos j
 s1:∀(i j:Nat) (o o':Oper),ops[i]?=some o->ops[j]?=some o'->Bi o=true->Bi o'=true->i≠j->anc i j=true\/anc j i=true
 s2:∀(i j:Nat) (o o':Oper),ops[i]?=some o->ops[j]?=some o'->Bi o=true->Ca o'=true->anc j i=true\/pos j<pos i
 q1:∀(i k:Nat),sc i=some k->∃(o ok:Oper) (t:Tmp),ops[i]?=some o/\ops[k]?=some ok/\(o.op=.assign (.tmp t)\/o.op=.move (.tmp t))/\o.guard=none/\Bc ok=true/\ok.dst=some t/\anc i k=true
 s3:∀(j k:Nat) (o o':Oper) (t:Tmp),ops[j]?=some o->ops[k]?=some o'->(Bc o=true\/(sc j).isSome=true)->Bi o'=false->o.dst=some t->t∈reads ops o'->anc k j=true->
  sc k=some j\/∃(i:Nat) (oi:Oper),ops[i]?=some oi/\Bi oi=true/\anc i j=true/\anc k i=true
 s4:∀(i j:Nat) (o o':Oper),ops[i]?=some o->ops[j]?=some o'->Bi o=true->Bc o'=true->anc i j=true\/pos i<pos j
 s5:∀(i j:Nat) (o o':Oper),ops[i]?=some o->ops[j]?=some o'->Ca o=true->Jq o=true->Bc o'=true->pos j<pos i->∃(k:Nat) (ok:Oper),ops[k]?=some ok/\Bi ok=true/\pos j<pos k/\pos k<pos i
 s6:∀(i j:Nat) (o o':Oper) (t:Tmp),ops[i]?=some o->ops[j]?=some o'->i≠j->o.dst=some t->o'.dst≠some t/\(t∈reads ops o'->anc j i=true\/anc i j=true)
structure Canon(C:Ctx)(call:Bq)(ops:Array Oper)(anc:Nat->Nat->Bool)(ord pos:Nat->Nat)(fr0:Fr)(h0:H)(v:Nat->V)(Hh:Nat->H)(F:Nat->Fr):Prop where
 h0:Hh 0=h0
 f0:F 0=fr0
 fn:∀q,q<=ops.size->(F q).n=fr0.n
 fget:∀q,q<ops.size->∀(o:Oper),ops[ord q]?=some o->∀t,(F (q+1)).get t=if o.dst=some t then v (ord q)else(F q).get t
 dst:∀(i:Nat) (o:Oper) (t:Tmp),ops[i]?=some o->o.dst=some t->t<fr0.n
 step:∀(i:Nat) (o:Oper),ops[i]?=some o->
  (Ar (F (pos i)) ops o=false/\v i=.tup []/\Hh (pos i+1)=Hh (pos i))\/
  (Ar (F (pos i)) ops o=true/\
   ((Ca o=true/\Dp C (F (pos i)) (Hh (pos i)) o=some (.val (v i) (Hh (pos i)))/\Hh (pos i+1)=Hh (pos i))\/
    (Bc o=true/\∃ob f,SY C (F (pos i)) o=some (ob,f)/\v i=f (Hh (pos i)).nx/\Hh (pos i+1)=(Hh (pos i)).push ob)\/
    (Bi o=true/\Cy C call (F (pos i)) (Hh (pos i)) o=some (v i,Hh (pos i+1)))))
 stable:∀(i j:Nat) (o oj:Oper),ops[i]?=some o->ops[j]?=some oj->Bi o=true->Ca oj=true->Jq oj=true->Ar (F (pos j)) ops oj=true->pos j<pos i->anc i j=false->
  Dp C (F (pos j)) (Hh (pos i+1)) oj=some (.val (v j) (Hh (pos i+1)))
theorem kinds(o:Oper):Ca o=true\/Bc o=true\/Bi o=true:=by
 grind [Bi]
theorem ES{o:Oper}(h:Ca o=true):Bc o=false:=by
 grind [Ca,Bc]
theorem KQ{o:Oper}(h:Bi o=true):Ca o=false/\Bc o=false:=by
 grind [Bi]
section
variable {C:Ctx}{P:Program}{call:Bq}{ops:Array Oper}{anc:Nat->Nat->Bool}{ord pos:Nat->Nat}{sc:Nat->Option Nat}{fr0:Fr}{h0:H}{v:Nat->V}{Hh:Nat->H}{F:Nat->Fr}
theorem Fw(st:Stat ops anc ord pos sc)(j:Canon C call ops anc ord pos fr0 h0 v Hh F){k:Nat}{o:Oper}{t:Tmp}(f:ops[k]?=some o)(i:o.dst=some t):
  ∀q,q<=ops.size->pos k<q->(F q).get t=v k
 |0,_,h=>by omega
 |q+1,l,h=>by
  have b:q<ops.size:=a8
  obtain⟨g,n⟩:=st.ordp q b;rw[j.fget q b (ops[ord q]) (by simp[g]) t];have d:=(Za.1 f).1;by_cases e:pos k=q
  ·have e2:ord q=k:=by rw[<-e];exact(st.posp k d).2
   grind
  ·have c:ord q≠k:=ae;have:=(st.s6 k (ord q) o (ops[ord q]) t f (by simp[g]) (Ne.symm c) i).1;rw[wa this];exact Fw st j f i q a8 a8
theorem Fz(st:Stat ops anc ord pos sc)(c:Canon C call ops anc ord pos fr0 h0 v Hh F){t:Tmp}:
  ∀q,q<=ops.size->(∀k o,ops[k]?=some o->o.dst=some t->¬pos k<q)->(F q).get t=fr0.get t
 |0,_,_=>by rw[c.f0]
 |q+1,e,h=>by
  have b:q<ops.size:=a8
  obtain⟨d,f⟩:=st.ordp q b;rw[c.fget q b (ops[ord q]) (by simp[d]) t,wa]
  ·exact Fz st c q a8 ae
  grind
theorem Vy(st:Stat ops anc ord pos sc)(c:Canon C call ops anc ord pos fr0 h0 v Hh F){i k:Nat}(h:sc i=some k):v i=v k:=by
 obtain⟨o,ok,t,d,l,s,e,r,g,j⟩:=st.q1 i k h;have b:=(Za.1 d).1;have q:=Fw st c l g (pos i) (Nat.le_of_lt (st.posp i b).1)<|st.apos i k j;have n:Ar (F<|pos i) ops o=true:=by unfold Ar;rw[e]
 have f:Ca o=true:=by grind [Ca]
 rcases c.step i o d with⟨u,_⟩|⟨_,⟨_,u,_⟩|⟨u,_⟩|⟨u,_⟩⟩
 ·grind
 ·grind [Bk,Ds,ev,AE]
 ·grind [ES]
 grind [KQ]
structure Inv(C:Ctx)(ops:Array Oper)(pos:Nat->Nat)(sc:Nat->Option Nat)(fr0:Fr)(v:Nat->V)(Hh:Nat->H)(F:Nat->Fr)(p0:Pl)(h0:H)(w0:World)(df:List Deferred)
  (S:Nat->Prop) (m:Nat) (fl:Nat->Nat) (p:Pl) (a:Act) (w:World):Prop where
 ext:Ext p0 h0 w0 p (Hh m) w
 gl:Gl C p
 mn:m<=ops.size
 mh:∀(k:Nat) (o:Oper),ops[k]?=some o->Bi o=true->(S k↔pos k<m)
 ma:∀(k:Nat) (o:Oper),ops[k]?=some o->Bc o=true->pos k<m->S k
 sz:a.tmps.size=fr0.n
 df:a.defers=df
 slot:∀t,(∀(i:Nat) (o:Oper),S i->ops[i]?=some o->o.dst≠some t)->Aa p (fr0.get t) (a.tmps.getD t undef)
 slotw:∀(i:Nat) (o:Oper) (t:Tmp),S i->ops[i]?=some o->o.dst=some t->((Bc o=true\/(sc i).isSome=true)->Ar (F (pos i)) ops o=true->pos i<m)->Aa p (v i) (a.tmps.getD t undef)
 flt:∀(i:Nat) (o:Oper),S i->ops[i]?=some o->Bc o=true->Ar (F (pos i)) ops o=true->m<=pos i->
  ∃n x ob f v',SY C (F (pos i)) o=some (ob,f)/\w.heap[fl i]?=some x/\w0.heap.size<=fl i/\¬Im p (Hh m) (fl i)/\Ff p n ob x/\
   (∀(q:Pl) b,q[b]?=some (fl i,n)->Aa q (f b) v')/\(∀t,o.dst=some t->a.tmps.getD t undef=v')
 inj:∀(i j:Nat) (o o':Oper),S i->S j->ops[i]?=some o->ops[j]?=some o'->Bc o=true->Bc o'=true->Ar (F (pos i)) ops o=true->Ar (F (pos j)) ops o'=true->
  m<=pos i->m<=pos j->fl i=fl j->i=j
structure Gz(ops:Array Oper)(pos:Nat->Nat)(sc:Nat->Option Nat)(S:Nat->Prop)(m:Nat)(a:Act):Prop where
 eq:∀(i k:Nat) (o ok:Oper) (t tk:Tmp),S i->ops[i]?=some o->sc i=some k->ops[k]?=some ok->o.dst=some t->ok.dst=some tk->m<=pos i->a.tmps.getD t undef=a.tmps.getD tk undef/\S k
theorem Inv.Yc(st:Stat ops anc ord pos sc)(cn:Canon C call ops anc ord pos fr0 h0 v Hh F){p0:Pl}{w0:World}{df:List Deferred}{S:Nat->Prop}{fl:Nat->Nat}{a:Act}{w:World}:
  ∀(d m:Nat) {p:Pl},Inv C ops pos sc fr0 v Hh F p0 h0 w0 df S m fl p a w->Gz ops pos sc S m a->m+d<=ops.size->
  (∀q,m<=q->q<m+d->∀(o:Oper),ops[ord q]?=some o->Bi o=false/\(Bc o=true->S (ord q)))->
  ∃p',Inv C ops pos sc fr0 v Hh F p0 h0 w0 df S (m+d) fl p' a w
 |0,m,p,g,_,_,_=>⟨p,g⟩
 |d+1,m,p,g,L,hn,hq=>by
  have hm:m<ops.size:=a8
  obtain⟨g1,Y⟩:=st.ordp m hm;obtain⟨K,hj⟩:∃K,ops[ord m]?=some K:=(by simp_all);obtain⟨q1,q2⟩:=hq m a8 a8 _ hj;have one:∃p',Inv C ops pos sc fr0 v Hh F p0 h0 w0 df S (m+1) fl p' a w:=by
   have O:∀(k:Nat) (o:Oper),ops[k]?=some o->Bi o=true->(S k↔pos k<m+1):=by
    intro k o u hv;rw[g.mh k o u hv];constructor
    ·omega
    ·intro h;by_cases e:pos k=m
     ·have A:=(Za.1 u).1;have e2:ord m=k:=by rw[<-e];exact(st.posp k A).2
      grind
     ·omega
   have M:∀(k:Nat) (o:Oper),ops[k]?=some o->Bc o=true->pos k<m+1->S k:=by
    intro k o u N hlt;by_cases e:pos k=m
    ·have A:=(Za.1 u).1;have e2:ord m=k:=by rw[<-e];exact(st.posp k A).2
     grind
    ·exact g.ma k o u N a8
   have same:Hh (m+1)=Hh m->(Bc K=true->Ar (F<|pos<|ord m) ops K=false)->(Ar (F<|pos<|ord m) ops K=false->v (ord m)=.tup [])->
     Inv C ops pos sc fr0 v Hh F p0 h0 w0 df S (m+1) fl p a w:=by
    intro hh N _;refine⟨by rw[hh];exact g.ext,g.gl,by omega,O,M,g.sz,g.df,g.slot,fun i o t l c J Z=>?_,fun i o l c s r D=>?_,fun i j o o' l z c B s E r G D R he=>?_⟩
    ·by_cases hcp:(sc i).isSome=true/\pos i=m
     ·obtain⟨k,u⟩:=ZD.1 hcp.1;obtain⟨o2,ok,tk,h1,h2,h3,h4,h5,h6,h7⟩:=st.q1 i k u;obtain⟨e1,e2⟩:=L.eq i k o ok t tk l c u h2 J h6 a8;rw[Vy st cn u,e1];have:=st.apos _ _ h7;exact g.slotw k ok tk e2 h2 h6 a8
     ·refine g.slotw i o t l c J fun s r=>?_
      have h1:=Z s r;by_cases e:pos i=m
      ·have I:=(Za.1 c).1;have e2:ord m=i:=by rw[<-e];exact(st.posp i I).2
       grind
      ·omega
    ·obtain⟨n,x,ob,f,v',X,k2,k3,k4,k5⟩:=g.flt i o l c s r a8;exact⟨n,x,ob,f,v',X,k2,k3,by grind,k5⟩
    ·exact g.inj i j o o' l z c B s E r G a8 a8 he
   rcases cn.step (ord m) _ hj with⟨u1,y,W⟩|⟨u1,⟨y,W,u4⟩|⟨y,ob,f,W,u4,u5⟩|⟨y,W⟩⟩
   ·grind
   ·grind [ES]
   ·
    obtain⟨n,x,Q,f',v',X,k2,k3,k4,k5,k6,k7⟩:=g.flt (ord m) _ (q2 y) hj y u1 a8;rw[W]at X;cases X;rw[Y]at u4 u5;have hx:=g.ext.Qj k2 k5 k4 k3;rw[<-u5]at hx;have hnew:(p++[(fl<|ord m,n)])[(Hh m).nx]?=some (fl<|ord m,n):=by rw[<-g.ext.rel.len];simp
    refine⟨p++[(fl<|ord m,n)],hx,?_,by omega,O,M,g.sz,g.df,fun t J=>(g.slot t J).mono _,fun i o t l c J Z=>?_,fun i o l c s r D=>?_,fun i j o o' l z c B s E r G D R he=>?_⟩
    ·exact Gp.app g.gl _
    ·by_cases e:i=ord m
     ·grind
     ·refine(g.slotw i o t l c J fun s r=>?_).mono _;have h1:=Z s r;have I:=(Za.1 c).1;have:pos i≠m:=fun e2=>e (by rw[<-e2];exact(st.posp i I).2.symm)
      omega
    ·obtain⟨n',x',Q,f',v'',l1,l2,l3,l4,l5,l6,l7⟩:=g.flt i o l c s r a8;refine⟨n',x',Q,f',v'',l1,l2,l3,?_,l5.mono _,l6,l7⟩;rintro⟨b,ob2,n2,U,m2⟩;rw[u5,H.A6]at U;by_cases e:b=(Hh m).nx
     ·have:fl (ord m)=fl i:=ae;have:=g.inj (ord m) i _ o (q2 y) l hj c y s u1 r a8 a8 this;grind
     ·rw[wa e]at U;have hb:=g.ext.rel.lt U;rw[List.getElem?_append_left ae]at m2;exact l4 ⟨b,ob2,n2,U,m2⟩
    ·exact g.inj i j o o' l z c B s E r G a8 a8 he
   grind
  obtain⟨p',c⟩:=one;obtain⟨p'',hi''⟩:=Inv.Yc st cn d (m+1) c ⟨fun i k o ok t tk g1 Y g3 g4 g5 g6 g7=>L.eq i k o ok t tk g1 Y g3 g4 g5 g6 a8⟩ a8 ae;grind
end
section
variable {C:Ctx}{P:Program}{call:Bq}{ops:Array Oper}{anc:Nat->Nat->Bool}{ord pos:Nat->Nat}{sc:Nat->Option Nat}{fr0:Fr}{h0:H}{v:Nat->V}{Hh:Nat->H}{F:Nat->Fr}
 {p0:Pl} {w0:World} {df:List Deferred} {S:Nat->Prop} {m:Nat} {fl:Nat->Nat} {p:Pl} {a:Act} {w:World}
structure JM(anc:Nat->Nat->Bool)(S:Nat->Prop)(i:Nat):Prop where
 fresh:¬S i
 all:∀k,anc i k=true->S k
def Down(anc:Nat->Nat->Bool)(S:Nat->Prop):Prop:=∀i k,S i->anc i k=true->S k
theorem operands(st:Stat ops anc ord pos sc)(r:Canon C call ops anc ord pos fr0 h0 v Hh F)(n:Inv C ops pos sc fr0 v Hh F p0 h0 w0 df S m fl p a w)(D:Down anc S){i:Nat}{o:Oper}(z:ops[i]?=some o)(s:JM anc S i)
  (G:∀(k:Nat) (ok:Oper) (t:Tmp),ops[k]?=some ok->(Bc ok=true\/(sc k).isSome=true)->ok.dst=some t->t∈reads ops o->anc i k=true->pos k<m):Wm p (F<|pos i) a (reads ops o):=by
 have x:=(Za.1 z).1;have E:=(st.posp i x).1;refine⟨by rw[r.fn _ a8,n.sz],fun t B=>?_⟩;by_cases A:∃(k:Nat) (ok:Oper),k≠i/\ops[k]?=some ok/\ok.dst=some t
 ·obtain⟨k,ok,u,q,c⟩:=A;rcases(st.s6 k i ok o t q z u c).2 B with g|g
  ·have l:=s.all k g;rw[Fw st r q c (pos i) a8<|st.apos i k g];exact n.slotw k ok t l q c ae
  ·have l:¬S k:=fun h=>s.fresh<|D k i h g
   have d:∀(j:Nat) (oj:Oper),ops[j]?=some oj->oj.dst=some t->j=k:=by
    intro j oj f b;by_cases e:j=k
    ·exact e
    ·exact we b (st.s6 k j ok oj t q f a8 c).1
   rw[Fz st r (pos i) a8 fun j oj f b I=>by
    have:=d j oj f b;subst this;have:=st.apos _ _ g;omega]
   refine n.slot t fun j oj y f b=>?_
   grind
 ·have d:∀(j:Nat) (oj:Oper),ops[j]?=some oj->oj.dst=some t->j=i:=by
   grind
  rw[Fz st r (pos i) a8 ae];refine n.slot t fun j oj y f b=>?_
  have:=d j oj f b;subst this;exact s.fresh y
def Rest(ops:Array Oper)(pos:Nat->Nat)(S:Nat->Prop)(m:Nat):Prop:=m=0\/∃(k:Nat) (o:Oper),ops[k]?=some o/\Bi o=true/\S k/\m=pos k+1
theorem Il(st:Stat ops anc ord pos sc)(u:Down anc S)(t:Inv C ops pos sc fr0 v Hh F p0 h0 w0 df S m fl p a w)(b:Rest ops pos S m){k:Nat}{o:Oper}(n:ops[k]?=some o)(s:¬S k):
  m<=pos k\/∃(i:Nat) (oi:Oper),ops[i]?=some oi/\Bi oi=true/\S i/\m=pos i+1/\pos k<pos i/\anc i k=false:=by
 by_cases r:m<=pos k
 ·omega
 ·right;rcases b with rfl|⟨i,oi,g,l,q,j⟩
  ·omega
  ·refine⟨i,oi,g,l,q,j,?_,?_⟩
   ·have c:k≠i:=ae;have d:=(Za.1 n).1;have f:=(Za.1 g).1;have:pos k≠pos i:=fun e=>c (by rw[<-(st.posp k d).2,e,(st.posp i f).2])
    omega
   grind [Down]
theorem Jf(st:Stat ops anc ord pos sc)(n:Inv C ops pos sc fr0 v Hh F p0 h0 w0 df S m fl p a w){i:Nat}{o:Oper}(g:ops[i]?=some o)(j:JM anc S i)(l:Bc o=false){k:Nat}{ok:Oper}(e:ops[k]?=some ok)
  (d:Bi ok=true) (q:m<=pos k) (r:pos k<pos i):False:=by
 have c:¬S k:=fun h=>by have:=(n.mh k ok e d).1 h;omega
 have f:k≠i:=ae;rcases kinds o with h|h|h
 ·rcases st.s2 k i ok o e g d h with b|b
  ·exact c<|j.all k b
  ·omega
 ·grind
 ·rcases st.s1 k i ok o e g d h f with b|b
  ·have:=st.apos _ _ b;omega
  ·exact c<|j.all k b
theorem MD(st:Stat ops anc ord pos sc)(r:Canon C call ops anc ord pos fr0 h0 v Hh F)(y:Down anc S)(B:Inv C ops pos sc fr0 v Hh F p0 h0 w0 df S m fl p a w)(b:Rest ops pos S m){i:Nat}{o:Oper}(f:ops[i]?=some o)
  (z:JM anc S i) (j:Ca o=true) (g:Ar (F<|pos i) ops o=true) (n:Dp C (F<|pos i) (Hh<|pos i) o=some (.val (v i)<|Hh<|pos i)):Dp C (F<|pos i) (Hh m) o=some (.val (v i)<|Hh m):=by
 have s:=ES j;cases c:Jq o with
 |false=>grind [RH]
 |true=>
  rcases Il st y B b f z.fresh with E|⟨k,ok,D,J,U,x,I,A⟩
  ·have l:=(Za.1 f).1;have G:=(st.posp i l).1;have key:∀d,m+d<=pos i->Hh (m+d)=Hh m:=by
    intro d;induction d with
    |zero=>simp
    |succ d Q=>
     intro t;obtain⟨N,L⟩:=st.ordp (m+d) a8;obtain⟨e,hq⟩:∃e,ops[ord<|m+d]?=some e:=ae;rcases r.step _ e hq with⟨_,_,u⟩|⟨_,⟨_,_,u⟩|⟨q,_⟩|⟨q,_⟩⟩
     ·grind
     ·grind
     ·obtain⟨k,ok,R,K,M,O⟩:=st.s5 i _ o e f hq j c q a8;grind [Jf]
     grind [Jf]
   have:=key (pos i-m) a8;grind
  ·rw[x];exact r.stable k i ok o D f J j c g I A
theorem B3{a:Act}{d:Option Tmp}{x:Value}{t:Tmp}(h:d≠some t):(a.put d x).tmps.getD t undef=a.tmps.getD t undef:=by
 cases d with
 |none=>rfl
 |some s=>
  simp_all [ZM]
theorem CO{a:Act}{x:Value}{t:Tmp}(h:t<a.tmps.size):(a.put (some t) x).tmps.getD t undef=x:=by
 simp[ZM,h]
theorem IS{a:Act}{d:Option Tmp}{x:Value}:(a.put d x).tmps.size=a.tmps.size:=by cases d<;>simp[ZM]
theorem It{a:Act}{d:Option Tmp}{x:Value}:(a.put d x).defers=a.defers:=by cases d<;>rfl
theorem Gz.put(st:Stat ops anc ord pos sc){S:Nat->Prop}{m q:Nat}{a:Act}(E:Gz ops pos sc S m a){i:Nat}{o:Oper}(d:ops[i]?=some o)(g:¬S i)(B:JM anc S i){x:Value}(Q:m<=q)
  (y:∀(k:Nat) (ok:Oper) (t tk:Tmp),sc i=some k->ops[k]?=some ok->o.dst=some t->ok.dst=some tk->q<=pos i->(a.put o.dst x).tmps.getD t undef=a.tmps.getD tk undef):
  Gz ops pos sc (fun k=>S k\/k=i) q (a.put o.dst x):=by
 refine⟨fun j k oj ok t tk u b s c r f D=>?_⟩;obtain⟨o1,I,t2,q1,L,J,O,R,M,z⟩:=st.q1 j k s;by_cases e:j=i
 ·subst e;rw[d]at b;cases b;have G:S k:=B.all k z;refine⟨?_,.inl G⟩;rw[y k ok t tk s c r f D];have l:k≠j:=ae;have:o.dst≠some tk:=(st.s6 k j ok o tk c d l f).1;rw[B3 this]
 ·have A:=u.resolve_right e;obtain⟨K,e2⟩:=E.eq j k oj ok t tk A b s c r f a8;have n:k≠i:=ae;have N:o.dst≠some t:=(st.s6 j i oj o t b d e r).1;have U:o.dst≠some tk:=(st.s6 k i ok o tk c d n f).1;grind [B3]
theorem Inv.quiet(st:Stat ops anc ord pos sc)(W:Canon C call ops anc ord pos fr0 h0 v Hh F)(c:Inv C ops pos sc fr0 v Hh F p0 h0 w0 df S m fl p a w){i:Nat}{o:Oper}(z:ops[i]?=some o)(q:¬S i)(J:Bi o=false)
  (L:Bc o=true->Ar (F<|pos i) ops o=false) {x:Value} (hx:((sc i).isSome=true->Ar (F<|pos i) ops o=true->pos i<m)->Aa p (v i) x):Inv C ops pos sc fr0 v Hh F p0 h0 w0 df (fun k=>S k\/k=i) m fl p (a.put o.dst x) w:=by
 have I:∀(k:Nat) (ok:Oper) (t:Tmp),k≠i->ops[k]?=some ok->ok.dst=some t->o.dst≠some t:=fun k ok t s b g=>(st.s6 k i ok o t b z s g).1
 refine⟨c.ext,c.gl,c.mn,fun k ok b N=>?_,fun k ok b D E=>.inl<|c.ma k ok b D E,by rw[IS,c.sz],by rw[It,c.df],fun t g=>?_,fun k ok t G b g R=>?_,fun k ok G b u r d=>?_,
  fun k j ok oj G X b U u A r B d l he=>?_⟩
 ·rw[<-c.mh k ok b N];grind
 ·have Y:o.dst≠some t:=ae;rw[B3 Y];exact c.slot t ae
 ·by_cases e:k=i
  ·subst e;rw[z]at b;cases b;rw[g,CO<|by rw[c.sz];exact W.dst k o t z g];grind
  ·rw[B3 ae];exact c.slotw k ok t ae b g R
 ·obtain⟨n,y,ob,f,v',k1,K,M,Q,Z,O,k7⟩:=c.flt k ok ae b u r d;exact⟨n,y,ob,f,v',k1,K,M,Q,Z,O,(by grind [B3])⟩
 ·exact c.inj k j ok oj ae ae b U u A r B d l he
theorem Inv.made(st:Stat ops anc ord pos sc)(c:Inv C ops pos sc fr0 v Hh F p0 h0 w0 df S m fl p a w){i:Nat}{o:Oper}(J:ops[i]?=some o)(s:Bc o=true)(hwd:Ar (F<|pos i) ops o=true)(g:m<=pos i)
  (Z:Canon C call ops anc ord pos fr0 h0 v Hh F) {ob:O} {f:Nat->V} (A:SY C (F<|pos i) o=some (ob,f)) {x:Obj} {n:Nat} {v':Value} (hx:Ff p n ob x) (Q:∀(q:Pl) b,q[b]?=some (w.heap.size,n)->Aa q (f b) v'):
  Inv C ops pos sc fr0 v Hh F p0 h0 w0 df (fun k=>S k\/k=i) m (fun k=>if k=i then w.heap.size else fl k) p (a.put o.dst v') { w with heap:=w.heap.push x }:=by
 have U:∀(k:Nat) (ok:Oper) (t:Tmp),k≠i->ops[k]?=some ok->ok.dst=some t->o.dst≠some t:=fun k ok t E d r=>(st.s6 k i ok o t d J E r).1
 have W:Bi o=false:=by simp[Bi,s]
 refine⟨c.ext.aside x,c.gl,c.mn,fun k ok d Q=>?_,fun k ok d s L=>.inl<|c.ma k ok d s L,by rw[IS,c.sz],by rw[It,c.df],fun t r=>?_,fun k ok t N d r Y=>?_,fun k ok N d D B g=>?_,
  fun k j ok oj N hS' d R D u B z g l he=>?_⟩
 ·rw[<-c.mh k ok d Q];grind
 ·have h1:o.dst≠some t:=ae;rw[B3 h1];exact c.slot t ae
 ·by_cases e:k=i
  ·grind
  ·rw[B3 ae];exact c.slotw k ok t ae d r Y
 ·by_cases e:k=i
  ·subst e;rw[J]at d;cases d;refine⟨n,x,ob,f,v',A,by simp,by simpa using c.ext.size,fun K=>?_,hx,by grind,fun t r=>?_⟩
   ·have:=c.ext.rel.N6 K;grind
   ·rw[r,CO<|by rw[c.sz];exact Z.dst k o t J r]
  ·obtain⟨n',y,I,X,G,k1,M,k3,k4,k5,k6,k7⟩:=c.flt k ok ae d D B g;refine⟨n',y,I,X,G,k1,?_,by grind,by grind,k5,by grind,(by grind [B3])⟩;grind
 ·by_cases e:k=i<;>by_cases e':j=i
  ·omega
  ·obtain⟨_,_,_,_,_,_,M,_⟩:=c.flt j oj ae R u z l;grind
  ·obtain⟨_,_,_,_,_,_,M,_⟩:=c.flt k ok ae d D B g;grind
  ·simp only[e,vb,e']at he;exact c.inj k j ok oj ae ae d R D u B z g l he
theorem Inv.wrote(st:Stat ops anc ord pos sc)(cn:Canon C call ops anc ord pos fr0 h0 v Hh F){i:Nat}{o:Oper}(c:Inv C ops pos sc fr0 v Hh F p0 h0 w0 df S (pos i) fl p a w)(r:ops[i]?=some o)(_:Bi o=true)(s:¬S i)
  {p':Pl} {w':World} {x:Value} (he:Ext p (Hh<|pos i) w p' (Hh<|pos i+1) w') (hx:Aa p' (v i) x):
  Inv C ops pos sc fr0 v Hh F p0 h0 w0 df (fun k=>S k\/k=i) (pos i+1) fl p' (a.put o.dst x) w':=by
 have O:∀(k:Nat) (ok:Oper) (t:Tmp),k≠i->ops[k]?=some ok->ok.dst=some t->o.dst≠some t:=fun k ok t z b d=>(st.s6 k i ok o t b r z d).1
 have g:=(Za.1 r).1;have W:∀ {k:Nat} {ok:Oper},ops[k]?=some ok->pos k=pos i->k=i:=fun {k ok} b e=>by
  have D:=(Za.1 b).1;rw[<-(st.posp k D).2,e,(st.posp i g).2]
 refine⟨c.ext.trans he,c.gl.ext he,(st.posp i g).1,fun k ok b N=>?_,fun k ok b K l=>?_,by rw[IS,c.sz],by rw[It,c.df],fun t d=>?_,fun k ok t M b d hc=>?_,fun k ok M b A u E=>?_,
  fun k j ok oj M hS' b Z A G u J E R B=>?_⟩
 ·constructor
  ·rintro(h|rfl)
   ·have:=(c.mh k ok b N).1 h;omega
   ·omega
  ·intro h;by_cases e:pos k=pos i
   ·grind
   ·exact .inl ((c.mh k ok b N).2 a8)
 ·by_cases e:pos k=pos i
  ·grind
  ·exact .inl (c.ma k ok b K a8)
 ·have Q:o.dst≠some t:=ae;rw[B3 Q];exact he.RZ (c.slot t ae)
 ·by_cases e:k=i
  ·subst e;rw[r]at b;cases b;rw[d,CO<|by rw[c.sz];exact cn.dst k o t r d];exact hx
  ·rw[B3 ae];refine he.RZ (c.slotw k ok t ae b d fun Q h2=>?_);grind
 ·obtain⟨n,y,ob,f,v',k1,L,U,Y,k5,X,k7⟩:=c.flt k ok ae b A u a8;have l:=(Za.1 L).1;obtain⟨q,rfl⟩:=he.pre;refine⟨n,y,ob,f,v',k1,by rw[he.same _ l Y];exact L,U,fun I=>?_,k5.mono _,X,(by grind [B3])⟩;rcases he.im _ I with h|h
  ·grind
  ·omega
 ·exact c.inj k j ok oj ae ae b Z A G u J a8 a8 B
theorem Inv.along(b:Inv C ops pos sc fr0 v Hh F p0 h0 w0 df S m fl p a w){p':Pl}{w':World}(he:Ext p (Hh m) w p' (Hh m) w'):Inv C ops pos sc fr0 v Hh F p0 h0 w0 df S m fl p' a w':=by
 refine⟨b.ext.trans he,b.gl.ext he,b.mn,b.mh,b.ma,b.sz,b.df,fun t z=>he.RZ<|b.slot t z,fun i o t x B K l=>he.RZ<|b.slotw i o t x B K l,fun k ok r G u j c=>?_,b.inj⟩;obtain⟨n,y,ob,f,v',J,g,D,I,A,E,s⟩:=b.flt k ok r G u j c;have e:=(Za.1 g).1;obtain⟨q,rfl⟩:=he.pre;refine⟨n,y,ob,f,v',J,by rw[he.same _ e I];exact g,D,fun d=>?_,A.mono _,E,s⟩;rcases he.im _ d with h|h
 ·grind
 ·omega
theorem RC{o:Oper}(h:Bc o=true):∀c,o.op≠ .defer c:=by
 grind [Bc]
theorem up(hC:C.Ok P)(Y:call.Ok C P)(st:Stat ops anc ord pos sc)(D:Canon C call ops anc ord pos fr0 h0 v Hh F)(I:Inv C ops pos sc fr0 v Hh F p0 h0 w0 df S m fl p a w)(O:Gz ops pos sc S m a)(hd:Down anc S)(L:Rest ops pos S m)
  {i:Nat} {o:Oper} (d:ops[i]?=some o) (y:JM anc S i) {Q:Exit->Act->World->Prop} {K:Act->World->Prop}
  (U:∀m' fl' p' a' w',Inv C ops pos sc fr0 v Hh F p0 h0 w0 df (fun k=>S k\/k=i) m' fl' p' a' w'->Gz ops pos sc (fun k=>S k\/k=i) m' a'->Rest ops pos (fun k=>S k\/k=i) m'->K a' w') {ro:Option Nat} {nn:Nat}:wpOpIn (FW ro) nn P ops Q i K a w:=by
 have hin:=(Za.1 d).1;have E:∀cs b,o.op≠ .select cs b:=fun cs b=>Region.noSelect_spec st.sel i o cs b d
 have l:Rest ops pos (fun k=>S k\/k=i) m:=by
  grind [Rest]
 unfold wpOpIn;simp only[d];cases r:Bi o with
 |false=>
  by_cases hcp:(sc i).isSome=true/\m<=pos i
  ·
   obtain⟨k,hk⟩:=ZD.1 hcp.1;obtain⟨o2,ok,t,q1,q2,q3,q4,q5,q6,q7⟩:=st.q1 i k hk;rw[d]at q1;cases q1;have hw:Zu o (yielded ops a.tmps)=true:=by grind [Zu]
   simp only[hw,wi];refine⟨fun _ _=>trivial,?_⟩;have hrun:(execOp a.eval o).run P w=.ok (.value<|a.tmps.getD t undef) w:=by
    unfold execOp;rcases q3 with q3|q3<;>simp[q3,Act.eval]
   rw[Zj _ _ _ ae,hrun,Zp];have hnal:Bc o=false:=by grind [Bc]
   refine U m fl p _ w (I.quiet st D d y.fresh r ae<|by grind [Ar]) (O.put st d y.fresh y a8 fun k' ok' t' tk h1 h2 h3 h4 _=>?_) l;rw[hk]at h1;cases h1;rw[q2]at h2;cases h2;rw[q6]at h4;cases h4;rw[h3,CO<|by rw[I.sz];exact D.dst i o t' d h3]
  have hcp':∀k,sc i=some k->pos i<m:=ae;have hfl:∀(k:Nat) (ok:Oper) (t:Tmp),ops[k]?=some ok->(Bc ok=true\/(sc k).isSome=true)->ok.dst=some t->t∈reads ops o->anc i k=true->pos k<m:=by
   intro k ok t hk R hkt ht G;rcases st.s3 k i ok o t hk d R r hkt ht G with h|⟨j,oj,j1,j2,j3,j4⟩
   ·have:=hcp' k h;have:=st.apos _ _ G;omega
   ·have:=(I.mh j oj j1 j2).1<|y.all j j4;have:=st.apos _ _ j3;omega
  have z:∀x,Gz ops pos sc (fun k=>S k\/k=i) m (a.put o.dst x):=fun x=>O.put st d y.fresh y a8 ae
  have B:=operands st D I hd d y hfl;rw[J2 B];rcases D.step i o d with⟨N,J,s⟩|⟨N,u⟩
  ·simp only[N,Zv,vb];refine⟨fun _ _=>trivial,?_⟩;exact U m fl p _ w (I.quiet st D d y.fresh r (fun _=>N)<|by simp_all [Aa,undef]) (z _) l
  ·simp only[N,wi];refine⟨fun _ _=>trivial,?_⟩;rcases u with⟨J,s,u4⟩|⟨J,ob,f,s,u4,u5⟩|⟨J,s⟩
   ·have X:=MD st D hd I L d y J N s;obtain⟨v',p',w',M,W,Z⟩:=Fa hC I.ext.rel I.gl B E X;rw[Zj _ _ _<|DA X,M,Zp];have hi2:=I.along Z;exact U m fl p' _ w' (hi2.quiet st D d y.fresh r (by grind [ES]) fun _=>W) (z _) l
   ·have hle:m<=pos i:=by
     rcases Il st hd I L d y.fresh with h|⟨k,ok,h1,h2,h3,h4,h5,h6⟩
     ·exact h
     ·rcases st.s4 k i ok o h1 d h2 J with h7|h7
      ·grind
      ·omega
    obtain⟨x,n,v',M,W,Z⟩:=Ve (P:=P) hC I.gl B s;rw[Zj _ _ _<|RC J,M,Zp];exact U m _ p _ _ (I.made st d J N hle D s W Z) (z _) l
   grind
 |true=>
  obtain⟨hnr,hnal⟩:=KQ r;have hle:m<=pos i:=by
   rcases ZN (pos i) m with h|h
   ·exact we ((I.mh i o d r).2 h) y.fresh
   omega
  have hpn:=(st.posp i hin).1;obtain⟨p1,c⟩:=Inv.Yc st D (pos i-m) m I O a8 (fun q h1 h2 oq hq=>by
   obtain⟨M,W⟩:=st.ordp q a8;refine⟨?_,fun R=>?_⟩
   ·grind [Jf]
   ·rcases st.s4 i (ord q) o oq d hq r R with h3|h3
    ·exact y.all _ h3
    omega)
  rw[show m+(pos i-m)=pos i from by omega]at c;have B:=operands st D c hd d y fun k ok t hk R _ _ G=>st.apos _ _ G
  have z:∀x,Gz ops pos sc (fun k=>S k\/k=i) (pos i+1) (a.put o.dst x):=fun x=>O.put st d y.fresh y a8 a8
  rw[J2 B];have g:Rest ops pos (fun k=>S k\/k=i) (pos i+1):=.inr ae;rcases D.step i o d with⟨N,J,s⟩|⟨N,u⟩
  ·simp only[N,Zv,vb];refine⟨fun _ _=>trivial,?_⟩;have he:Ext p1 (Hh<|pos i) w p1 (Hh<|pos i+1) w:=by rw[s];exact Zo c.ext.rel
   exact U _ _ _ _ _ (c.wrote st D d r y.fresh he<|by simp_all [Aa,undef]) (z _) g
  ·simp only[N,wi];refine⟨fun _ _=>trivial,?_⟩;rcases u with⟨J,s,u4⟩|⟨J,ob,f,s,u4,u5⟩|⟨J,s⟩
   ·grind
   ·grind
   ·unfold Cy at s;split at s
    case h_4=>cases s
    case h_1=>
     rename_i vv hh A;obtain⟨rfl,rfl⟩:=s;obtain⟨v',p',w',M,W,Z⟩:=Fa hC c.ext.rel c.gl B E A;rw[Zj _ _ _<|DA A,M,Zp];exact U _ _ _ _ _ (c.wrote st D d r y.fresh Z W) (z _) g
    case h_2=>
     rename_i hh A;simp only[Ze,ZJ]at s;obtain⟨u4,rfl⟩:=s;obtain⟨p',w',M,Z⟩:=Fa hC c.ext.rel c.gl B E A;rw[Zj _ _ _<|DA A,M,Oper.uponIn_skip];exact U _ _ _ _ _ (c.wrote st D d r y.fresh Z<|by rw[<-u4];simp[Aa,undef]) (z _) g
    case h_3=>
     rename_i f args A;obtain⟨args',M,W⟩:=Fa hC c.ext.rel c.gl B E A;rw[Zj _ _ _<|DA A,M,Oper.uponIn_enter];split at s
     case h_2=>cases s
     rename_i x1 x2 hcl;cases s;refine⟨(by grind [FW,Zz]),MF.2<|(Y.fn f args _ _ hcl p1 w args' c.ext.rel c.gl W).mono ?_⟩;rintro e w' ⟨v',h',x',p',hm,rfl,k1,k2⟩;rw[Zl]at hm;cases hm;exact U _ _ _ _ _ (c.wrote st D d r y.fresh k2 k1) (z _) g
theorem Inv.congr{b:Nat->Prop}(h:∀k,S k↔b k)(c:Inv C ops pos sc fr0 v Hh F p0 h0 w0 df S m fl p a w):Inv C ops pos sc fr0 v Hh F p0 h0 w0 df b m fl p a w:=by
 have e:S=b:=ae;grind
theorem Gz.congr{b:Nat->Prop}(h:∀k,S k↔b k)(c:Gz ops pos sc S m a):Gz ops pos sc b m a:=by
 have e:S=b:=ae;grind
def Ls(l:Array Bool)(k:Nat):Prop:=l.getD k false=true
theorem L0{l:Array Bool}(n:Nat)(c:l.size=n){i:Nat}(g:i<n)(b:l.getD i true=false):
  ((Zw n).filter fun k=> !(l.setIfInBounds i true).getD k true).length<((Zw n).filter fun k=> !l.getD k true).length:=by
 have sub:∀k,(!(l.setIfInBounds i true).getD k true)=true->(!l.getD k true)=true:=by
  intro k f;by_cases e:i=k
  ·grind
  simp_all
 have key:∀(L:List Nat),(L.filter fun k=> !(l.setIfInBounds i true).getD k true).length<=(L.filter fun k=> !l.getD k true).length/\(i∈L->(L.filter fun k=> !(l.setIfInBounds i true).getD k true).length<(L.filter fun k=> !l.getD k true).length):=by
  intro L;induction L with
  |nil=>simp
  |cons x L d=>
   simp only[List.filter_cons];constructor
   ·grind
   ·by_cases e:i=x
    ·subst e;rw[wa (by simp),wb<|by simp[b]];grind
    grind
 grind
theorem Q8(hC:C.Ok P)(s:call.Ok C P)(st:Stat ops anc ord pos sc)(A:Canon C call ops anc ord pos fr0 h0 v Hh F){Q:Exit->Act->World->Prop}
  (hQ:∀p' I w',A3 p' (F ops.size) I->Ext p0 h0 w0 p' (Hh ops.size) w'->I.defers=df->Q .normal I w') {ro:Option Nat} {nn:Nat}:
  ∀(b:Nat) (l:Array Bool),l.size=ops.size->((Zw ops.size).filter fun k=> !l.getD k true).length<=b->∀ {m:Nat} {fl:Nat->Nat} {p:Pl} {a:Act} {w:World},
   Inv C ops pos sc fr0 v Hh F p0 h0 w0 df (Ls l) m fl p a w->Gz ops pos sc (Ls l) m a->Down anc (Ls l)->Rest ops pos (Ls l) m->wpAnyIn (FW ro) nn P .any ops Q b l a w:=by
 have fin:∀(l:Array Bool),l.size=ops.size->ZF .any ops l=[]->∀ {m:Nat} {fl:Nat->Nat} {p:Pl} {a:Act} {w:World},
   Inv C ops pos sc fr0 v Hh F p0 h0 w0 df (Ls l) m fl p a w->Gz ops pos sc (Ls l) m a->Q .normal a w:=by
  intro l U z m fl p a w x n;have all:∀q,q<=ops.size->∀k,k<ops.size->pos k<q->Ls l k:=by
   intro q;induction q with
   |zero=>omega
   |succ q M=>
    intro hq k f hlt;by_cases e:pos k=q
    ·apply Classical.byContradiction;intro hns;have X:k∈ZF .any ops l:=by
      rw[mem_ready];refine⟨?_,ops[k],by simp[f],fun W O hb=>?_⟩
      ·grind [Ls]
      ·obtain⟨N,E⟩:=st.dir k _ W (by simp[f]) O hb;have h3:=st.apos _ _ N;exact M a8 W.on E a8
     grind
    grind
  have r:∀k,k<ops.size->Ls l k:=fun k f=>all ops.size a8 k f (st.posp k f).1
  obtain⟨p',c⟩:=Inv.Yc st A (ops.size-m) m x n (by have:=x.mn;omega) (fun q N E o ho=>by
   obtain⟨R,Z⟩:=st.ordp q a8;refine⟨?_,ae⟩;cases hv:Bi o with
   |false=>rfl
   |true=>have:=(x.mh _ o ho hv).1<|r _ R;omega)
  rw[show m+(ops.size-m)=ops.size from by have:=x.mn;omega]at c;refine hQ p' a w ⟨by rw[A.fn _ a8,c.sz],fun t=>?_⟩ c.ext c.df;by_cases Y:∃(k:Nat) (ok:Oper),ops[k]?=some ok/\ok.dst=some t
  ·obtain⟨k,ok,f,D⟩:=Y;have u:=(Za.1 f).1;rw[Fw st A f D _ a8 (st.posp k u).1];exact c.slotw k ok t (r k u) f D fun _ _=>(st.posp k u).1
  ·rw[Fz st A _ a8 ae];exact c.slot t ae
 intro b;induction b with
 |zero=>
  intro l U y m fl p a w x n L g;have z:ZF .any ops l=[]:=by
   simp_all [ZF,Zw]
  exact⟨z,ae⟩
 |succ b M=>
  intro l U y m fl p a w x n L g;refine⟨ae,fun i hm=>?_⟩;obtain⟨N,o,E,h3⟩:=mem_ready.1 hm;have hin:=(Za.1 E).1;have d:JM anc (Ls l) i:=by
   refine⟨fun hs=>?_,fun k f=>?_⟩
   ·grind [Ls]
   ·obtain⟨o',e,R,Z,g3,g4⟩:=st.edge i k f;grind [Ls,Down]
  refine up hC s st A x n L g E d fun m' fl' p' I w' c B J=>?_
  have K:∀k,(Ls l k\/k=i)↔Ls (l.setIfInBounds i true) k:=by
   intro k;unfold Ls;by_cases e:k=i
   ·simp_all
   ·rw[getD_set_ne false a8];simp[e]
  refine M (l.setIfInBounds i true) ae ?_ (c.congr K) (B.congr K) ?_ (by simp_all)
  ·grind [L0]
  ·intro j k G f;rw[<-K]at G ⊢;rcases G with G|rfl
   ·exact .inl<|L j k G f
   ·exact .inl<|d.all k f
theorem Rt(l:C.Ok P)(b:call.Ok C P)(j:P.follows .mixedOrders=true)(st:Stat ops anc ord pos sc)(f:Canon C call ops anc ord pos fr0 h0 v Hh F){Q:Exit->Act->World->Prop}(g:R p h0 w)(n:Gl C p)(e:A3 p fr0 a)
  {id:Nat} (r:∀p' c w',A3 p' (F ops.size) c->Ext p h0 w p' (Hh ops.size) w'->c.defers=a.defers->Q .normal c w') {ro:Option Nat} {s:Nat}:(Code.region id ops true).wpIn (FW ro) s P Q a w:=by
 refine wpIn_region_any j ?_;have q:=Ext.drew g<|w.drawn+1;have o:∀k,¬Ls (Array.replicate ops.size false) k:=by
  intro k d;unfold Ls at d;rw[Zi]at d;grind
 refine Q8 (p0:=p) (h0:=h0) (w0:=w) (df:=a.defers) l b st f r ops.size _ (by simp) ae (m:=0) (fl:=fun _=>0) (p:=p)
  ⟨by rw[f.h0];exact q,n,Nat.zero_le _,ae,a8,e.1.symm,rfl,fun t _=>e.2 t,ae,ae,ae⟩
  ⟨ae⟩ (fun i k h=>ae) (.inl rfl)
end
structure Ht where
 anc:List Nat
 ord:List Nat
 pos:List Nat
 sc:List (Option Nat)
def Xn(acc:List Nat)(o:Oper):Nat:=
 o.after.toList.foldl (fun s e=>bif ZA .any e then s|||(2^e.on|||acc.getD e.on 0)else s) 0
def UN:List Oper->List Nat->List Nat
 |[],b=>b
 |o::os,b=>UN os<|b++[Xn b o]
def tb(m i:Nat):Bool:=m.testBit i
def sub(a d:Nat):Bool:=Zm (a&&&d) a
def E7(f:Nat->Oper->Bool):Nat->List Oper->Option Nat
 |_,[]=>none
 |i,o::os=>bif f i o then some i else E7 f (i+1) os
def SW(f:Nat->Oper->Bool):Nat->List Oper->List Nat
 |_,[]=>[]
 |i,o::os=>bif f i o then i::SW f (i+1) os else SW f (i+1) os
def Mh(ops:List Oper)(anc:List Nat):Nat->Nat->List Nat->List Nat
 |0,_,out=>out.reverse
 |fuel+1,d,out=>
  match E7 (fun i o=>Ca o&& !tb d i&&sub (anc.getD i 0) d) 0 ops with
  |some i=>Mh ops anc fuel (d|||2^i) (i::out)
  |none=>
   match E7 (fun i o=>Bi o&& !tb d i) 0 ops with
   |some k=>
    let b:=SW (fun i o=>Bc o&& !tb d i&&tb (anc.getD k 0) i) 0 ops
    bif b.isEmpty then Mh ops anc fuel (d|||2^k) (k::out)
    else Mh ops anc fuel (b.foldl (fun s i=>s|||2^i) d)<|b.reverse++out
   |none=>
    match E7 (fun i o=>Bc o&& !tb d i) 0 ops with
    |some i=>Mh ops anc fuel (d|||2^i) (i::out)
    |none=>out.reverse
def idx(l:List Nat)(i:Nat):Nat:=l.getD i 0
def W6(ord:List Nat)(n:Nat):List Nat:=(Zw n).map fun i=>ord.idxOf i
def Lb(o:Oper):Option Tmp:=
 match o.guard,o.op with
 |none,.assign (.tmp t)=>some t
 |none,.move (.tmp t)=>some t
 |_,_=>none
def X6(ops:List Oper)(anc:List Nat)(i:Nat)(o:Oper):Option Nat:=
 match Lb o with
 |some t=>
  match E7 (fun k x=>Bc x&&(x.dst==some t)&&tb (anc.getD i 0) k) 0 ops with
  |some k=>match E7 (fun h x=>Bi x&&tb (anc.getD h 0) k&&tb (anc.getD i 0) h) 0 ops with
   |none=>some k
   |some _=>none
  |none=>none
 |none=>none
def Cg(ops:Array Oper):Ht:=
 let anc:=UN ops.toList []
 let ord:=Mh ops.toList anc (3*ops.size+3) 0 []
 ⟨anc,ord,W6 ord ops.size,ops.toList.zipIdx.map fun(o,i)=>X6 ops.toList anc i o⟩
def Ht.s(pl:Ht)(i:Nat):Option Nat:=pl.sc.getD i none
def Ht.a(pl:Ht)(j i:Nat):Bool:=(idx pl.anc j).testBit i
def Ov(ops:Array Oper)(f:Nat->Oper->Nat->Oper->Bool):Bool:=
 ops.toList.zipIdx.all fun(o,i)=>ops.toList.zipIdx.all fun(o',j)=>f i o j o'
def Ed(ops:Array Oper)(pl:Ht):Bool:=
 let n:=ops.size
 let A:=pl.a
 let pos:=idx pl.pos
 let ord:=idx pl.ord
 Region.noSelect ops&&
 ((Zw n).all fun q=>Zf (ord q) n&&Zm (pos<|ord q) q)&&
 ((Zw n).all fun i=>Zf (pos i) n&&Zm (ord<|pos i) i)&&
 (pl.anc.length==n)&&(pl.ord.length==n)&&
 (pl.sc.zipIdx.all fun(s,i)=>match s with
  |none=>true
  |some k=>match ops[i]?,ops[k]? with
   |some o,some ok=>match Lb o with
    |some t=>Bc ok&&(ok.dst==some t)&&A i k
    |none=>false
   |_,_=>false)&&
 (ops.toList.zipIdx.all fun(o,j)=>Zf (idx pl.anc j) (2^n)&&
  ((Zw n).all fun i=> !A j i||((o.after.toList.any fun e=>ZA .any e&&(Zm e.on i||A e.on i))&&Zf (pos i) (pos j)))&&
  (o.after.toList.all fun e=> !ZA .any e||(A j e.on&&Zf e.on n)))&&
 (Ov ops fun i o j o'=>
  (!(Bi o&&Bi o')||Zm i j||A i j||A j i)&&
  (!(Bi o&&Ca o')||A j i||Zf (pos j) (pos i))&&
  (!((Bc o||(pl.s i).isSome)&& !Bi o')|| !A j i||(match o.dst with|some t=> !((reads ops o').contains t)|none=>true)||(pl.s j==some i)||(ops.toList.zipIdx.any fun(x,k)=>Bi x&&A k i&&A j k))&&
  (!(Bi o&&Bc o')||A i j||Zf (pos i) (pos j))&&
  (!(Ca o&&Jq o&&Bc o')|| !Zf (pos j) (pos i)||(ops.toList.zipIdx.any fun(x,k)=>Bi x&&Zf (pos j) (pos k)&&Zf (pos k) (pos i)))&&
  (Zm i j||(match o.dst with
   |none=>true
   |some t=> !(o'.dst==some t)&&(!((reads ops o').contains t)||A j i||A i j))))
theorem Fb{ops:Array Oper}{i:Nat}{o:Oper}(h:ops[i]?=some o):(o,i)∈ops.toList.zipIdx:=by
 grind
theorem Sy{ops:Array Oper}{i:Nat}{o:Oper}(h:(o,i)∈ops.toList.zipIdx):ops[i]?=some o:=by
 grind
theorem L8{o:Oper}{t:Tmp}(h:Lb o=some t):(o.op=.assign (.tmp t)\/o.op=.move (.tmp t))/\o.guard=none:=by
 grind [Lb]
theorem OT{ops:Array Oper}{pl:Ht}(G:Ed ops pl=true):Stat ops pl.a (idx pl.ord) (idx pl.pos) pl.s:=by
 unfold Ed at G;simp only[Zc]at G;obtain⟨⟨⟨⟨⟨⟨⟨h0,X⟩,Z⟩,h3⟩,_⟩,K⟩,q⟩,Y⟩:=G;simp only[Zh,ZI,Zc,Zq,Aw,w5]at X Z;simp only[Zh]at q;have l:∀(i j:Nat) (o o':Oper),ops[i]?=some o->ops[j]?=some o'->_:=fun i j o o' f d=>Zh.1 (Zh.1 Y (o,i)<|Fb f) (o',j)<|Fb d
 simp only[Zc,Zk,Zs,Aw,w5,DG,w9,Bool.and_eq_false_imp]at l;have g:∀(j i:Nat),pl.a j i=true->j<ops.size/\i<ops.size:=by
  intro j i h;have d:j<ops.size:=by
   rcases ZN j ops.size with b|b
   ·exact b
   ·have hl:pl.anc.length=ops.size:=by simpa using h3
    unfold Ht.a idx at h;rw[ZB,List.getElem?_eq_none a8]at h;simp at h
  refine⟨d,?_⟩;have b:=q (ops[j],j) (Fb<|by simp[d]);simp only[Zc,Zq]at b;rcases ZN i ops.size with c|c
  ·exact c
  ·have u:=b.1.1;have O:idx pl.anc j<2^i:=Nat.lt_of_lt_of_le u (Nat.pow_le_pow_right a8 c);unfold Ht.a at h;rw[Nat.testBit_lt_two_pow O]at h;cases h
 refine⟨h0,a8,a8,fun j i h=>?_,fun j o e d he Q=>?_,fun j i h=>?_,fun i j o o' f d A W B=>?_,fun i j o o' f d A J=>?_,fun i k h=>?_,fun j k o o' t d hk z A r n h=>?_,fun i j o o' f d A z=>?_,
  fun i j o o' f d J I z hlt=>?_,fun i j o o' t f d B r=>?_⟩
 ·obtain⟨d,f⟩:=g j i h;have b:=q (ops[j],j) (Fb<|by simp[d]);simp only[Zc,Zh,ZI,Zk,Zs]at b;rcases b.1.2 i f with c|c
  ·rw[h]at c;cases c
  ·obtain⟨e,he,u⟩:=ZE.1 c.1;simp only[Zc,Zk,Aw,w5]at u;exact⟨ops[j],e,by simp[d],by simpa using he,u.1,u.2⟩
 ·have b:=q (o,j)<|Fb d;simp only[Zc,Zh,Zk,Zs,Zq]at b;rcases b.2 e (by simpa using he)with c|c
  ·rw[Q]at c;cases c
  omega
 ·obtain⟨d,f⟩:=g j i h;have b:=q (ops[j],j) (Fb<|by simp[d]);simp only[Zc,Zh,ZI,Zk,Zs,Zq]at b;rcases b.1.2 i f with c|c
  ·rw[h]at c;cases c
  omega
 ·have:=(l i j o o' f d).1.1.1.1.1;simp_all
 ·have:=(l i j o o' f d).1.1.1.1.2;simp_all
 ·have n:(pl.s i,i)∈pl.sc.zipIdx:=by
   rw[List.mem_zipIdx_iff_getElem?];unfold Ht.s at h ⊢;rw[ZB]at h ⊢;cases L:pl.sc[i]? with
   |none=>rw[L]at h;cases h
   |some x=>rfl
  have b:=Zh.1 K _ n;simp only[h]at b;split at b
  case h_2=>cases b
  rename_i o ok U E;split at b
  case h_2=>cases b
  rename_i t r;simp only[Zc,wh]at b;obtain⟨N,M⟩:=L8 r;exact⟨o,ok,t,U,E,N,M,b.1.1,b.1.2,b.2⟩
 ·have b:=(l j k o o' d hk).1.1.1.2;have y:(Bc o||(pl.s j).isSome)=true:=by simpa using z
  rw[A,h,r]at b;have R:(reads ops o').contains t=true:=by simpa using n
  simp only[Zk]at y;simp only[R,Bool.not_false,Bool.not_true,Zv,or_false,Bool.true_eq_false]at b;rcases b with(b|b)|b
  ·exact we y a8
  ·exact .inl (by simpa using b)
  ·obtain⟨⟨x,i⟩,D,c⟩:=ZE.1 b;simp only[Zc]at c;exact .inr ⟨i,x,Sy D,c.1.1,c.1.2,c.2⟩
 ·have:=(l i j o o' f d).1.1.2;simp_all
 ·have b:=(l i j o o' f d).1.2;rw[J,I,z]at b;simp only[and_self,forall_const,Bool.true_eq_false,false_or]at b;rcases b with b|b
  ·omega
  ·obtain⟨⟨x,k⟩,n,c⟩:=ZE.1 b;simp only[Zc,w5]at c;exact⟨k,x,Sy n,c.1.1,c.1.2,c.2⟩
 ·have b:=(l i j o o' f d).2;rcases b with b|b
  ·omega
  ·rw[r]at b;simp only[Zc,Zs,Zk,wm]at b;refine⟨b.1,fun n=>?_⟩;rcases b.2 with(c|c)|c
   ·have:(reads ops o').contains t=true:=by simpa using n
    rw[this]at c;cases c
   ·exact .inl c
   ·exact .inr c
theorem TY{ops:Array Oper}{pl:Ht}(b:Ed ops pl=true):pl.ord.length=ops.size:=by
 unfold Ed at b;grind
end Go.Det
