import Derived.Test.YtlohiljbghionaaGreatDoorX02
import Derived.RangeFuncRecord
import Derived.RangeFuncLeaves
import Derived.Scope
import Derived.Laws.StructEq
import Derived.Lib.Bytealg
import Derived.Laws.Externs
/- A part of a proof (no law is stated here). Made by program out of texts by AI agents. -/
noncomputable section
open Array renaming getElem?_eq_some_iff -> zc, getD_eq_getD_getElem? -> zk, toList_inj -> zK, getElem?_push -> zO, getElem?_eq_getElem -> zX, replicate -> ya
open Bool renaming and_eq_true -> zd, or_eq_true -> zp, false_eq_true -> zu, not_eq_true' -> zx
open Option.some renaming injEq -> ze
open List renaming mem_singleton -> zf, all_eq_true -> zm, range -> zq, length_cons -> zt, mem_zipIdx_iff_getElem? -> zw, getD_eq_getElem?_getD -> zy, getElem?_append_left -> zL, any_eq_true -> zR, getElem?_eq_getElem -> zZ, mem_range -> yd, mem_cons -> ye, mem_map -> yi
open Nat renaming eq_of_beq_eq_true -> zg, beq -> zi, le_refl -> zo, blt -> zz, blt_eq -> z7, lt_or_ge -> z8, ble -> yg, le_of_lt -> yh, add_zero -> yj
open Go.Result renaming andThen_ok -> zh
open Go.Sem renaming run_bind -> zj, run_pure -> zn
open Prod.mk renaming injEq -> zl
open Go.Extern.MathBitsCarry renaming m64 -> zr, pair -> zN
open Classical renaming byContradiction -> zM
open Go.Oper renaming semAt_eq -> zP, uponIn_value -> zQ
open Go.Region renaming binds -> zS, ready -> zT
open Go.Det.Ext renaming refl -> zU
open Go.Fence renaming wide -> zV
open Go.Instr renaming checkKey -> zW
open Option renaming isSome_iff_exists -> zY, getD_some -> z6
open Go.Op renaming operands -> yb
open Go.Code renaming region -> yc
open PUnit renaming unit -> yf
namespace Go.Det
section
variable {C:Ctx}{P:Program}{p:Pl}{h:H}{w:World}{fr:Fr}{a:Act}
def TM(T:BR)(t:TypeId)(len:Nat)(c:List (Nat×V)):Option (List V×TypeId):=
 match T.und t with
 |some (.slice e)=>match T.inf e with
  |some i=>
   bif yg (len*i.size) 16777216&&zz 0 (i.zero.length)&&zi i.zero.length i.size then
    (Ie (fun k=>some (k*i.size,i.size)) (Es i.zero<|len*i.size) c).map fun cs=>(cs,e)
   else none
  |none=>none
 |_=>none
def Yo(C:Ctx)(fr:Fr)(o:Oper):Option (O×(Nat->V)):=
 match o.op with
 | .alloc t=>match C.T.inf t with
  |some i=>some (.cells i.zero t (0,0),fun b=>.ptr b 0)
  |none=>none
 | .box t x=>match ev C fr x with
  |some v=>some (.cells v.cells t (0,0),fun b=>.ptr b 0)
  |none=>none
 | .buildSlice t n c=>match UI C fr c.toList with
  |some ps=>match TM C.T t n ps with
   |some (cs,e)=>some (.cells cs e (0,0),fun b=>.sl b 0 n n 0)
   |none=>none
  |none=>none
 |_=>none
theorem ZB{o:Oper}{r:O×(Nat->V)}(c:Yo C fr o=some r):Ce o=true:=by
 unfold Yo at c;unfold Ce;split at c<;>simp_all
theorem rB(G:C.Ok P)(R:Gl C p){ops:Array Oper}{o:Oper}(W:rS p fr a (reads ops o)){ob:O}{f:Nat->V}(r:Yo C fr o=some (ob,f)):
  ∃x n v',(execOp a.eval o).run P w=.ok (.value v') { w with heap:=w.heap.push x }/\GD p n ob x/\∀(q:Pl) b,q[b]?=some (w.heap.size,n)->Ab q (f b) v':=by
 have A:∀cs b,o.op≠ .select cs b:=by
  intro cs b e;have:=ZB r;simp[Ce,e]at this
 have hE:∀(P:Program) (w:World),(execOp (HR (reads ops o) a).eval o).run P w=(execOp a.eval o).run P w:=fun P w=>by rw[execOp_congr o A fun x s=>IK s]
 have U:=W.Oy;have j:∀(t:TypeId) (cs:List V) (c:Array Value),Aq p cs c.toList->GD p c.size (.cells cs t (0,0)) (.cells c t):=by
  intro t cs c s;refine⟨c,(0,0),rfl,rfl,by have:=s.length;simp at this;omega,?_,fun i _ E K=>⟨E,K⟩⟩;have:=s.length;rw[List.take_of_length_le<|by simp at this ⊢;omega];exact s.uT
 unfold Yo at r;split at r
 case h_4=>cases r
 case h_1=>
  rename_i t y;split at r
  case h_2=>cases r
  rename_i i I;cases r;obtain⟨z,L,u⟩:=DO G.T I;refine⟨.cells z.cells t,_,.pointer<|some ⟨w.heap.size,0,none⟩,?_,j _ _ _<|u p,fun q b D=>by simp only[Ab];exact⟨_,_,D,rfl⟩⟩;unfold execOp;simp only[y];unfold Instr.alloc newVar;simp only[zj,L,zh,B6,zn]
 case h_2=>
  rename_i t x y;split at r
  case h_2=>cases r
  rename_i v hv;cases r;have s:Ab p v (a.eval x):=by
   have:=AY (C:=C) R U (x:=x) (v:=v) (by rw[RE<|by simp[y,yb]];exact hv);rwa [IK<|by simp[y,yb]]at this
  refine⟨.cells (a.eval x).cells t,_,.pointer<|some ⟨w.heap.size,0,none⟩,?_,j _ _ _ s.cells,fun q b D=>by simp only[Ab];exact⟨_,_,D,rfl⟩⟩;unfold execOp;simp only[y];unfold Instr.box newVar;simp only[zj,zh,B6,zn]
 case h_3=>
  rename_i t len d y;split at r
  case h_2=>cases r
  rename_i ps J;split at r
  case h_2=>cases r
  rename_i cs e l;cases r;have X:SL p ps (d.map fun(i,x)=>(i,a.eval x)).toList:=by
   have:=MI (C:=C) (fr:=MT (reads ops o) fr) R U (xs:=d.toList) (vs:=ps) (by
    rw[Ip (fr':=fr) fun x s=>RE<|by rw[y];simp[yb];exact⟨x.1,by simpa using s⟩];exact J)
   have Z:(d.toList.map fun(i,x)=>(i,(HR (reads ops o) a).eval x))=(d.map fun(i,x)=>(i,a.eval x)).toList:=by
    rw[Array.toList_map];apply List.map_congr_left;rintro⟨i,x⟩ hm;simp only;rw[IK<|by rw[y];simp[yb];exact⟨i,by simpa using hm⟩]
   rwa [Z]at this
  unfold TM at l;split at l
  case h_2=>cases l
  rename_i e' hu;split at l
  case h_2=>cases l
  rename_i i I;cases g:(yg (len*i.size) 16777216&&zz 0 (i.zero.length)&&zi i.zero.length i.size)with
  |false=>simp[g]at l
  |true=>
   simp only[g,we,Option.map_eq_some_iff,zl]at l;obtain⟨cs',B,rfl,rfl⟩:=l;simp only[zd,Nat.ble_eq,z7,Bf,w5]at g;obtain⟨⟨c1,c2⟩,c3⟩:=g;obtain⟨z,L,u⟩:=DO G.T I;have N:=(u p).length;simp at N;obtain⟨oo,E,K⟩:=J7 (p:=p) (place:=fun k=>some (k*i.size,i.size)) X (IE (u p) c2<|len*i.size) B;refine⟨.cells oo e',_,.slice (some ⟨w.heap.size,0,none⟩) len len,?_,j _ _ _ K,fun q b D=>by simp only[Ab];exact⟨_,_,len,D,rfl,zo _,zo _,fun _=>rfl,by simp⟩⟩;unfold execOp;simp only[y];unfold Instr.buildSlice;simp only[zj,Aw G.T hu,zh,Bo G.T I];rw[wc<|by omega];by_cases h0:len*i.size=0
   ·rw[wd h0];simp only[zj,zn,zh];have Y:(Array.map (fun x=>(#[]:Array Value)[x % (#[]:Array Value).size]!)<|Array.range<|len*i.size)=Array.map (fun M=>z.cells[M % z.cells.size]!) (Array.range<|len*i.size):=by simp[h0]
    rw[Y,E];simp only[zj,B6,zh,zn]
   ·simp only[h0,vf,zj,L,zh,zn,E,B6]
theorem Ext.Y2{D p:Pl}{B h:H}{l w:World}(A:Ext D B l p h w){r n:Nat}{o:O}{x:Obj}(hx:w.heap[r]?=some x)(ho:GD p n o x)(hi:¬Im p h r)(M:l.heap.size<=r):
  Ext D B l (p++[(r,n)]) (h.push o) w:=by
 have J:=A.rel;have f:(p++[(r,n)])[h.nx]?=some (r,n):=by rw[<-J.len];simp
 have d:∀b,b<h.nx->(p++[(r,n)])[b]?=p[b]?:=fun b hb=>zL (by rw[J.len];exact hb)
 have g:∀c i,(h.push o).get c=some i->(c=h.nx/\i=o)\/(c<h.nx/\h.get c=some i):=by
  intro c i z;rw[H.Bz]at z;by_cases e:c=h.nx
  ·rw[wd e]at z;cases z;exact .inl ⟨e,rfl⟩
  ·rw[wc e]at z;exact .inr ⟨J.lt z,z⟩
 refine⟨?_,⟨by simp[J.len],fun c i z=>?_,fun c N i I s m Z z Y u K=>?_⟩,A.size,A.same,fun s X=>?_,A.os,A.out,A.tape,fun s X hl=>?_⟩
 ·obtain⟨q,rfl⟩:=A.pre;exact⟨q++[(r,n)],by simp⟩
 ·rcases g c i z with⟨rfl,rfl⟩|⟨E,L⟩
  ·exact⟨r,n,x,f,hx,ho.mono _⟩
  ·obtain⟨s,m,y,G,j,W⟩:=J.obj c i L;exact⟨s,m,y,by rw[d c E];exact G,j,W.mono _⟩
 ·rcases g c i z with⟨rfl,rfl⟩|⟨E,L⟩<;>rcases g N I Y with⟨rfl,rfl⟩|⟨T,R⟩
  ·rfl
  ·rw[f]at u;cases u;rw[d N T]at K;exact wh ⟨N,I,Z,R,K⟩ hi
  ·rw[f]at K;cases K;rw[d c E]at u;exact wh ⟨c,i,m,L,u⟩ hi
  ·rw[d c E]at u;rw[d N T]at K;exact J.inj c N i I s m Z L R u K
 ·obtain⟨c,i,m,G,j⟩:=X;rcases g c i G with⟨rfl,rfl⟩|⟨E,L⟩
  ·rw[f]at j;cases j;exact .inr M
  ·rw[d c E]at j;exact A.im s ⟨c,i,m,L,j⟩
 ·obtain⟨E,u⟩:=A.lock s X hl;refine⟨E,?_⟩;rcases u with⟨c,m,cs,t,fz,G,j,W⟩|u
  ·have U:=J.lt G;exact .inl ⟨c,m,cs,t,fz,by rw[H.Bz,wc<|by omega];exact G,by rw[d c U];exact j,W⟩
  ·refine .inr ?_;rintro⟨c,i,m,G,j⟩;rcases g c i G with⟨rfl,rfl⟩|⟨T,R⟩
   ·rw[f]at j;cases j;omega
   ·rw[d c T]at j;exact u ⟨c,i,m,R,j⟩
theorem Ext.aside{e p:Pl}{d h:H}{f w:World}(c:Ext e d f p h w)(x:Obj):Ext e d f p h { w with heap:=w.heap.push x }:=by
 have l:=c.rel;refine⟨c.pre,⟨l.len,fun b o q=>?_,l.inj⟩,by have:=c.size;simp;omega,fun r g t=>?_,c.im,c.os,c.out,c.tape,fun r g s=>?_⟩
 ·obtain⟨r,n,y,i,j,u⟩:=l.obj b o q;have:=(zc.1 j).1;exact⟨r,n,y,i,by simp[zO,Nat.ne_of_lt this,j],u⟩
 ·have i:=c.same r g t;have:=c.size;simp only[zO];rw[wc<|by omega];exact i
 ·obtain⟨i,j⟩:=c.lock r g s;have:=c.size;refine⟨?_,j⟩;simp only[zO];rw[wc<|by omega];exact i
end
def Dh(C:Ctx)(call:Dc)(fr:Fr)(h:H)(o:Oper):Option (V×H):=
 match FH C fr h o with
 |some (.val v h')=>some (v,h')
 |some (.skip h')=>some (.tup [],h')
 |some (.enter f args)=>match call (.fn f args) h with
  |some [x]=>some x
  |_=>none
 |_=>none
def Cw(o:Oper):Bool:= !DW o&& !Ce o
structure Stat(ops:Array Oper)(anc:Nat->Nat->Bool)(ord pos:Nat->Nat)(sc:Nat->Option Nat):Prop where
 sel:Region.noSelect ops=true
 ordp:∀q,q<ops.size->ord q<ops.size/\pos (ord q)=q
 posp:∀i,i<ops.size->pos i<ops.size/\ord (pos i)=i
 edge:∀j i,anc j i=true->∃(o:Oper) (e:Edge),ops[j]?=some o/\e∈o.after/\zS .any e=true/\(e.on=i\/anc e.on i=true)
 dir:∀(j:Nat) (o:Oper) (e:Edge),ops[j]?=some o->e∈o.after->zS .any e=true->anc j e.on=true/\e.on<ops.size
 apos:∀j i,anc j i=true->pos i<pos j
 s1:∀(i j:Nat) (o o':Oper),ops[i]?=some o->ops[j]?=some o'->Cw o=true->Cw o'=true->i≠j->anc i j=true\/anc j i=true
 s2:∀(i j:Nat) (o o':Oper),ops[i]?=some o->ops[j]?=some o'->Cw o=true->DW o'=true->anc j i=true\/pos j<pos i
 q1:∀(i k:Nat),sc i=some k->∃(o ok:Oper) (t:Tmp),ops[i]?=some o/\ops[k]?=some ok/\(o.op=.assign (.tmp t)\/o.op=.move (.tmp t))/\o.guard=none/\Ce ok=true/\ok.dst=some t/\anc i k=true
 s3:∀(j k:Nat) (o o':Oper) (t:Tmp),ops[j]?=some o->ops[k]?=some o'->(Ce o=true\/(sc j).isSome=true)->Cw o'=false->o.dst=some t->t∈reads ops o'->anc k j=true->
  sc k=some j\/∃(i:Nat) (oi:Oper),ops[i]?=some oi/\Cw oi=true/\anc i j=true/\anc k i=true
 s4:∀(i j:Nat) (o o':Oper),ops[i]?=some o->ops[j]?=some o'->Cw o=true->Ce o'=true->anc i j=true\/pos i<pos j
 s5:∀(i j:Nat) (o o':Oper),ops[i]?=some o->ops[j]?=some o'->DW o=true->Ol o=true->Ce o'=true->pos j<pos i->∃(k:Nat) (ok:Oper),ops[k]?=some ok/\Cw ok=true/\pos j<pos k/\pos k<pos i
 s6:∀(i j:Nat) (o o':Oper) (t:Tmp),ops[i]?=some o->ops[j]?=some o'->i≠j->o.dst=some t->o'.dst≠some t/\(t∈reads ops o'->anc j i=true\/anc i j=true)
structure Canon(C:Ctx)(call:Dc)(ops:Array Oper)(anc:Nat->Nat->Bool)(ord pos:Nat->Nat)(fr0:Fr)(h0:H)(v:Nat->V)(Hh:Nat->H)(F:Nat->Fr):Prop where
 h0:Hh 0=h0
 f0:F 0=fr0
 fn:∀q,q<=ops.size->(F q).n=fr0.n
 fget:∀q,q<ops.size->∀(o:Oper),ops[ord q]?=some o->∀t,(F (q+1)).get t=if o.dst=some t then v (ord q)else(F q).get t
 dst:∀(i:Nat) (o:Oper) (t:Tmp),ops[i]?=some o->o.dst=some t->t<fr0.n
 step:∀(i:Nat) (o:Oper),ops[i]?=some o->
  (A1 (F (pos i)) ops o=false/\v i=.tup []/\Hh (pos i+1)=Hh (pos i))\/
  (A1 (F (pos i)) ops o=true/\
   ((DW o=true/\FH C (F (pos i)) (Hh (pos i)) o=some (.val (v i) (Hh (pos i)))/\Hh (pos i+1)=Hh (pos i))\/
    (Ce o=true/\∃ob f,Yo C (F (pos i)) o=some (ob,f)/\v i=f (Hh (pos i)).nx/\Hh (pos i+1)=(Hh (pos i)).push ob)\/
    (Cw o=true/\Dh C call (F (pos i)) (Hh (pos i)) o=some (v i,Hh (pos i+1)))))
 stable:∀(i j:Nat) (o oj:Oper),ops[i]?=some o->ops[j]?=some oj->Cw o=true->DW oj=true->Ol oj=true->A1 (F (pos j)) ops oj=true->pos j<pos i->anc i j=false->
  FH C (F (pos j)) (Hh (pos i+1)) oj=some (.val (v j) (Hh (pos i+1)))
theorem kinds(o:Oper):DW o=true\/Ce o=true\/Cw o=true:=by
 unfold Cw;cases DW o<;>cases Ce o<;>simp
theorem IG{o:Oper}(h:DW o=true):Ce o=false:=by
 unfold DW at h;unfold Ce;split at h<;>simp_all
theorem O3{o:Oper}(h:Cw o=true):DW o=false/\Ce o=false:=by
 unfold Cw at h;simpa using h
section
variable {C:Ctx}{P:Program}{call:Dc}{ops:Array Oper}{anc:Nat->Nat->Bool}{ord pos:Nat->Nat}{sc:Nat->Option Nat}{fr0:Fr}{h0:H}{v:Nat->V}{Hh:Nat->H}{F:Nat->Fr}
theorem Fw(st:Stat ops anc ord pos sc)(r:Canon C call ops anc ord pos fr0 h0 v Hh F){k:Nat}{o:Oper}{t:Tmp}(f:ops[k]?=some o)(g:o.dst=some t):
  ∀q,q<=ops.size->pos k<q->(F q).get t=v k
 |0,_,h=>by omega
 |q+1,x,h=>by
  have c:q<ops.size:=by omega
  obtain⟨l,s⟩:=st.ordp q c;rw[r.fget q c (ops[ord q]) (by simp[l]) t];have i:=(zc.1 f).1;by_cases e:pos k=q
  ·have d:ord q=k:=by rw[<-e];exact(st.posp k i).2
   have u:ops[ord q]=o:=by have:=(zc.1 f).2;simp only[d];exact this
   rw[u,wd g,d]
  ·have j:ord q≠k:=fun d=>e (by rw[<-d,s])
   have:=(st.s6 k (ord q) o (ops[ord q]) t f (by simp[l]) (Ne.symm j) g).1;rw[wc this];exact Fw st r f g q (by omega) (by omega)
theorem Fz(st:Stat ops anc ord pos sc)(e:Canon C call ops anc ord pos fr0 h0 v Hh F){t:Tmp}:
  ∀q,q<=ops.size->(∀k o,ops[k]?=some o->o.dst=some t->¬pos k<q)->(F q).get t=fr0.get t
 |0,_,_=>by rw[e.f0]
 |q+1,l,h=>by
  have c:q<ops.size:=by omega
  obtain⟨f,j⟩:=st.ordp q c;rw[e.fget q c (ops[ord q]) (by simp[f]) t,wc]
  ·exact Fz st e q (by omega) fun k o i d g=>h k o i d (by omega)
  ·intro d;exact h (ord q) _ (by simp[f]) d (by omega)
theorem nW(st:Stat ops anc ord pos sc)(g:Canon C call ops anc ord pos fr0 h0 v Hh F){i k:Nat}(h:sc i=some k):v i=v k:=by
 obtain⟨o,ok,t,f,q,c,s,y,r,x⟩:=st.q1 i k h;have e:=(zc.1 f).1;have j:=Fw st g q r (pos i) (yh (st.posp i e).1)<|st.apos i k x;have l:A1 (F<|pos i) ops o=true:=by unfold A1;rw[s]
 have d:DW o=true:=by unfold DW;rcases c with c|c<;>rw[c]
 rcases g.step i o f with⟨u,_⟩|⟨_,⟨_,u,_⟩|⟨u,_⟩|⟨u,_⟩⟩
 ·rw[l]at u;cases u
 ·have:FH C (F<|pos i) (Hh<|pos i) o=some (.val ((F<|pos i).get t)<|Hh<|pos i):=by
   rw[CG];unfold FY;rcases c with c|c<;>simp only[c,ev,Bp]
  rw[this,j]at u;simp only[ze,OR.val.injEq]at u;exact u.1.symm
 ·rw[IG d]at u;cases u
 ·rw[(O3 u).1]at d;cases d
structure Inv(C:Ctx)(ops:Array Oper)(pos:Nat->Nat)(sc:Nat->Option Nat)(fr0:Fr)(v:Nat->V)(Hh:Nat->H)(F:Nat->Fr)(p0:Pl)(h0:H)(w0:World)(df:List Deferred)
  (S:Nat->Prop) (m:Nat) (fl:Nat->Nat) (p:Pl) (a:Act) (w:World):Prop where
 ext:Ext p0 h0 w0 p (Hh m) w
 gl:Gl C p
 mn:m<=ops.size
 mh:∀(k:Nat) (o:Oper),ops[k]?=some o->Cw o=true->(S k↔pos k<m)
 ma:∀(k:Nat) (o:Oper),ops[k]?=some o->Ce o=true->pos k<m->S k
 sz:a.tmps.size=fr0.n
 df:a.defers=df
 slot:∀t,(∀(i:Nat) (o:Oper),S i->ops[i]?=some o->o.dst≠some t)->Ab p (fr0.get t) (a.tmps.getD t undef)
 slotw:∀(i:Nat) (o:Oper) (t:Tmp),S i->ops[i]?=some o->o.dst=some t->((Ce o=true\/(sc i).isSome=true)->A1 (F (pos i)) ops o=true->pos i<m)->Ab p (v i) (a.tmps.getD t undef)
 flt:∀(i:Nat) (o:Oper),S i->ops[i]?=some o->Ce o=true->A1 (F (pos i)) ops o=true->m<=pos i->
  ∃n x ob f v',Yo C (F (pos i)) o=some (ob,f)/\w.heap[fl i]?=some x/\w0.heap.size<=fl i/\¬Im p (Hh m) (fl i)/\GD p n ob x/\
   (∀(q:Pl) b,q[b]?=some (fl i,n)->Ab q (f b) v')/\(∀t,o.dst=some t->a.tmps.getD t undef=v')
 inj:∀(i j:Nat) (o o':Oper),S i->S j->ops[i]?=some o->ops[j]?=some o'->Ce o=true->Ce o'=true->A1 (F (pos i)) ops o=true->A1 (F (pos j)) ops o'=true->
  m<=pos i->m<=pos j->fl i=fl j->i=j
structure KV(ops:Array Oper)(pos:Nat->Nat)(sc:Nat->Option Nat)(S:Nat->Prop)(m:Nat)(a:Act):Prop where
 eq:∀(i k:Nat) (o ok:Oper) (t tk:Tmp),S i->ops[i]?=some o->sc i=some k->ops[k]?=some ok->o.dst=some t->ok.dst=some tk->m<=pos i->a.tmps.getD t undef=a.tmps.getD tk undef/\S k
theorem Inv.wA(st:Stat ops anc ord pos sc)(cn:Canon C call ops anc ord pos fr0 h0 v Hh F){p0:Pl}{w0:World}{df:List Deferred}{S:Nat->Prop}{fl:Nat->Nat}{a:Act}{w:World}:
  ∀(d m:Nat) {p:Pl},Inv C ops pos sc fr0 v Hh F p0 h0 w0 df S m fl p a w->KV ops pos sc S m a->m+d<=ops.size->
  (∀q,m<=q->q<m+d->∀(o:Oper),ops[ord q]?=some o->Cw o=false/\(Ce o=true->S (ord q)))->
  ∃p',Inv C ops pos sc fr0 v Hh F p0 h0 w0 df S (m+d) fl p' a w
 |0,m,p,g,_,_,_=>⟨p,g⟩
 |d+1,m,p,g,Z,hn,hq=>by
  have hm:m<ops.size:=by omega
  obtain⟨g1,X⟩:=st.ordp m hm;obtain⟨o0,hj⟩:∃o0,ops[ord m]?=some o0:=⟨ops[ord m],by simp[g1]⟩;obtain⟨q1,q2⟩:=hq m (zo _) (by omega) _ hj;have one:∃p',Inv C ops pos sc fr0 v Hh F p0 h0 w0 df S (m+1) fl p' a w:=by
   have U:∀(k:Nat) (o:Oper),ops[k]?=some o->Cw o=true->(S k↔pos k<m+1):=by
    intro k o u hv;rw[g.mh k o u hv];constructor
    ·intro h;omega
    ·intro h;by_cases e:pos k=m
     ·have D:=(zc.1 u).1;have y:ord m=k:=by rw[<-e];exact(st.posp k D).2
      subst y;rw[hj]at u;cases u;simp[q1]at hv
     ·omega
   have T:∀(k:Nat) (o:Oper),ops[k]?=some o->Ce o=true->pos k<m+1->S k:=by
    intro k o u z hlt;by_cases e:pos k=m
    ·have D:=(zc.1 u).1;have y:ord m=k:=by rw[<-e];exact(st.posp k D).2
     subst y;rw[hj]at u;cases u;exact q2 z
    ·exact g.ma k o u z (by omega)
   have same:Hh (m+1)=Hh m->(Ce o0=true->A1 (F<|pos<|ord m) ops o0=false)->(A1 (F<|pos<|ord m) ops o0=false->v (ord m)=.tup [])->
     Inv C ops pos sc fr0 v Hh F p0 h0 w0 df S (m+1) fl p a w:=by
    intro hh z _;refine⟨by rw[hh];exact g.ext,g.gl,by omega,U,T,g.sz,g.df,g.slot,fun i o t s c I hc=>?_,fun i o s c l r G=>?_,fun i j o o' s J c E l B r L G O he=>?_⟩
    ·by_cases R:(sc i).isSome=true/\pos i=m
     ·obtain⟨k,u⟩:=zY.1 R.1;obtain⟨o2,ok,tk,N,h2,h3,h4,h5,h6,h7⟩:=st.q1 i k u;rw[c]at N;cases N;obtain⟨e1,y⟩:=Z.eq i k o ok t tk s c u h2 I h6 (by omega);rw[nW st cn u,e1];have:=st.apos _ _ h7;exact g.slotw k ok tk y h2 h6 fun _ _=>by omega
     ·refine g.slotw i o t s c I fun l r=>?_
      have N:=hc l r;by_cases e:pos i=m
      ·have K:=(zc.1 c).1;have y:ord m=i:=by rw[<-e];exact(st.posp i K).2
       subst y;rw[hj]at c;cases c;rcases l with l|l
       ·rw[z l]at r;cases r
       ·exact wh ⟨l,e⟩ R
      ·omega
    ·obtain⟨n,x,ob,f,v',k1,k2,k3,k4,k5⟩:=g.flt i o s c l r (by omega);exact⟨n,x,ob,f,v',k1,k2,k3,by rw[hh];exact k4,k5⟩
    ·exact g.inj i j o o' s J c E l B r L (by omega) (by omega) he
   rcases cn.step (ord m) _ hj with⟨u1,u2,M⟩|⟨u1,⟨u2,M,W⟩|⟨u2,ob,f,M,W,u5⟩|⟨u2,M⟩⟩
   ·rw[X]at M;exact⟨p,same M (fun _=>u1)<|fun _=>u2⟩
   ·rw[X]at W;exact⟨p,same W (fun h=>by rw[IG u2]at h;cases h)<|fun h=>by rw[u1]at h;cases h⟩
   ·
    obtain⟨n,x,Y,f',v',k1,k2,k3,k4,k5,k6,k7⟩:=g.flt (ord m) _ (q2 u2) hj u2 u1 (by omega);rw[M]at k1;cases k1;rw[X]at W u5;have hx:=g.ext.Y2 k2 k5 k4 k3;rw[<-u5]at hx;have A:(p++[(fl<|ord m,n)])[(Hh m).nx]?=some (fl<|ord m,n):=by rw[<-g.ext.rel.len];simp
    have hv:Ab (p++[(fl<|ord m,n)]) (v<|ord m) v':=by rw[W];exact k6 _ _ A
    refine⟨p++[(fl<|ord m,n)],hx,?_,by omega,U,T,g.sz,g.df,fun t I=>(g.slot t I).mono _,fun i o t s c I hc=>?_,fun i o s c l r G=>?_,fun i j o o' s J c E l B r L G O he=>?_⟩
    ·exact Gp.app g.gl _
    ·by_cases e:i=ord m
     ·subst e;rw[hj]at c;cases c;rw[k7 t I];exact hv
     ·refine(g.slotw i o t s c I fun l r=>?_).mono _;have N:=hc l r;have K:=(zc.1 c).1;have:pos i≠m:=fun y=>e (by rw[<-y];exact(st.posp i K).2.symm)
      omega
    ·obtain⟨n',x',Y,f',v'',l1,l2,l3,l4,l5,l6,l7⟩:=g.flt i o s c l r (by omega);refine⟨n',x',Y,f',v'',l1,l2,l3,?_,l5.mono _,l6,l7⟩;rintro⟨b,ob2,n2,m1,m2⟩;rw[u5,H.Bz]at m1;by_cases e:b=(Hh m).nx
     ·subst e;rw[A]at m2;have:fl (ord m)=fl i:=(Prod.mk.inj<|Option.some.inj m2).1;have:=g.inj (ord m) i _ o (q2 u2) s hj c u2 l u1 r (by omega) (by omega) this;subst this;omega
     ·rw[wc e]at m1;have hb:=g.ext.rel.lt m1;rw[zL<|by rw[g.ext.rel.len];exact hb]at m2;exact l4 ⟨b,ob2,n2,m1,m2⟩
    ·exact g.inj i j o o' s J c E l B r L (by omega) (by omega) he
   ·rw[q1]at u2;cases u2
  obtain⟨p',c⟩:=one;obtain⟨p'',hi''⟩:=Inv.wA st cn d (m+1) c ⟨fun i k o ok t tk g1 X g3 g4 g5 g6 g7=>Z.eq i k o ok t tk g1 X g3 g4 g5 g6<|by omega⟩ (by omega) (fun q N h2=>hq q (by omega)<|by omega);exact⟨p'',by rw[show m+(d+1)=m+1+d from by omega];exact hi''⟩
end
section
variable {C:Ctx}{P:Program}{call:Dc}{ops:Array Oper}{anc:Nat->Nat->Bool}{ord pos:Nat->Nat}{sc:Nat->Option Nat}{fr0:Fr}{h0:H}{v:Nat->V}{Hh:Nat->H}{F:Nat->Fr}
 {p0:Pl} {w0:World} {df:List Deferred} {S:Nat->Prop} {m:Nat} {fl:Nat->Nat} {p:Pl} {a:Act} {w:World}
structure P0(anc:Nat->Nat->Bool)(S:Nat->Prop)(i:Nat):Prop where
 fresh:¬S i
 all:∀k,anc i k=true->S k
def Down(anc:Nat->Nat->Bool)(S:Nat->Prop):Prop:=∀i k,S i->anc i k=true->S k
theorem operands(st:Stat ops anc ord pos sc)(u:Canon C call ops anc ord pos fr0 h0 v Hh F)(s:Inv C ops pos sc fr0 v Hh F p0 h0 w0 df S m fl p a w)(K:Down anc S){i:Nat}{o:Oper}(I:ops[i]?=some o)(z:P0 anc S i)
  (A:∀(k:Nat) (ok:Oper) (t:Tmp),ops[k]?=some ok->(Ce ok=true\/(sc k).isSome=true)->ok.dst=some t->t∈reads ops o->anc i k=true->pos k<m):rS p (F<|pos i) a (reads ops o):=by
 have B:=(zc.1 I).1;have L:=(st.posp i B).1;refine⟨by rw[u.fn _ (by omega),s.sz],fun t E=>?_⟩;by_cases G:∃(k:Nat) (ok:Oper),k≠i/\ops[k]?=some ok/\ok.dst=some t
 ·obtain⟨k,ok,y,r,g⟩:=G;rcases(st.s6 k i ok o t r I y g).2 E with q|q
  ·have l:=z.all k q;rw[Fw st u r g (pos i) (by omega)<|st.apos i k q];exact s.slotw k ok t l r g fun J _=>A k ok t r J g E q
  ·have l:¬S k:=fun h=>z.fresh<|K k i h q
   have f:∀(j:Nat) (oj:Oper),ops[j]?=some oj->oj.dst=some t->j=k:=by
    intro j oj d c;by_cases e:j=k
    ·exact e
    ·exact wh c (st.s6 k j ok oj t r d (fun h=>e h.symm) g).1
   rw[Fz st u (pos i) (by omega) fun j oj d c x=>by
    have:=f j oj d c;subst this;have:=st.apos _ _ q;omega]
   refine s.slot t fun j oj D d c=>?_
   have:=f j oj d c;subst this;exact l D
 ·have f:∀(j:Nat) (oj:Oper),ops[j]?=some oj->oj.dst=some t->j=i:=by
   intro j oj d c;by_cases e:j=i
   ·exact e
   ·exact wh ⟨j,oj,e,d,c⟩ G
  rw[Fz st u (pos i) (by omega) fun j oj d c x=>by
   have:=f j oj d c;subst this;omega]
  refine s.slot t fun j oj D d c=>?_
  have:=f j oj d c;subst this;exact z.fresh D
def Rest(ops:Array Oper)(pos:Nat->Nat)(S:Nat->Prop)(m:Nat):Prop:=m=0\/∃(k:Nat) (o:Oper),ops[k]?=some o/\Cw o=true/\S k/\m=pos k+1
theorem Ou(st:Stat ops anc ord pos sc)(u:Down anc S)(z:Inv C ops pos sc fr0 v Hh F p0 h0 w0 df S m fl p a w)(c:Rest ops pos S m){k:Nat}{o:Oper}(x:ops[k]?=some o)(r:¬S k):
  m<=pos k\/∃(i:Nat) (oi:Oper),ops[i]?=some oi/\Cw oi=true/\S i/\m=pos i+1/\pos k<pos i/\anc i k=false:=by
 by_cases d:m<=pos k
 ·exact .inl d
 ·right;rcases c with rfl|⟨i,oi,q,t,j,s⟩
  ·omega
  ·refine⟨i,oi,q,t,j,s,?_,?_⟩
   ·have g:k≠i:=fun e=>r<|e▸j
    have f:=(zc.1 x).1;have l:=(zc.1 q).1;have:pos k≠pos i:=fun e=>g (by rw[<-(st.posp k f).2,e,(st.posp i l).2])
    omega
   ·cases y:anc i k with
    |false=>rfl
    |true=>exact wh (u i k j y) r
theorem NH(st:Stat ops anc ord pos sc)(s:Inv C ops pos sc fr0 v Hh F p0 h0 w0 df S m fl p a w){i:Nat}{o:Oper}(r:ops[i]?=some o)(q:P0 anc S i)(d:Ce o=false){k:Nat}{ok:Oper}(j:ops[k]?=some ok)
  (l:Cw ok=true) (t:m<=pos k) (u:pos k<pos i):False:=by
 have f:¬S k:=fun h=>by have:=(s.mh k ok j l).1 h;omega
 have g:k≠i:=fun e=>by subst e;omega
 rcases kinds o with h|h|h
 ·rcases st.s2 k i ok o j r l h with c|c
  ·exact f<|q.all k c
  ·omega
 ·rw[d]at h;cases h
 ·rcases st.s1 k i ok o j r l h g with c|c
  ·have:=st.apos _ _ c;omega
  ·exact f<|q.all k c
theorem U8(st:Stat ops anc ord pos sc)(A:Canon C call ops anc ord pos fr0 h0 v Hh F)(G:Down anc S)(y:Inv C ops pos sc fr0 v Hh F p0 h0 w0 df S m fl p a w)(g:Rest ops pos S m){i:Nat}{o:Oper}(l:ops[i]?=some o)
  (t:P0 anc S i) (r:DW o=true) (s:A1 (F<|pos i) ops o=true) (c:FH C (F<|pos i) (Hh<|pos i) o=some (.val (v i)<|Hh<|pos i)):FH C (F<|pos i) (Hh m) o=some (.val (v i)<|Hh m):=by
 have e:=IG r;cases f:Ol o with
 |false=>exact aD r f c _
 |true=>
  rcases Ou st G y g l t.fresh with R|⟨k,ok,B,E,X,N,U,J⟩
  ·have x:=(zc.1 l).1;have O:=(st.posp i x).1;have key:∀d,m+d<=pos i->Hh (m+d)=Hh m:=by
    intro d;induction d with
    |zero=>intro _;rfl
    |succ d L=>
     intro z;have W:=L (by omega);obtain⟨D,j⟩:=st.ordp (m+d) (by omega);obtain⟨q,hq⟩:∃q,ops[ord<|m+d]?=some q:=⟨ops[ord<|m+d],by simp[D]⟩;rw[<-W,show m+(d+1)=m+d+1 from by omega];rcases A.step _ q hq with⟨_,_,u⟩|⟨_,⟨_,_,u⟩|⟨u1,_⟩|⟨u1,_⟩⟩
     ·rwa [j]at u
     ·rwa [j]at u
     ·obtain⟨k,ok,M,K,I,T⟩:=st.s5 i _ o q l hq r f u1 (by rw[j];omega);rw[j]at I;exact(NH st y l t e M K (by omega) T).elim
     ·exact(NH st y l t e hq u1 (by rw[j];omega)<|by rw[j];omega).elim
   have:=key (pos i-m) (by omega);rw[show m+(pos i-m)=pos i from by omega]at this;rw[this]at c;exact c
  ·rw[N];exact A.stable k i ok o B l E r f s U J
theorem Ds{a:Act}{d:Option Tmp}{x:Value}{t:Tmp}(h:d≠some t):(a.put d x).tmps.getD t undef=a.tmps.getD t undef:=by
 cases d with
 |none=>rfl
 |some s=>
  have:s≠t:=fun e=>h (by rw[e])
  simp only[Act.put,zk];rw[Array.getElem?_setIfInBounds_ne this]
theorem ET{a:Act}{x:Value}{t:Tmp}(h:t<a.tmps.size):(a.put (some t) x).tmps.getD t undef=x:=by
 simp[Act.put,h]
theorem Og{a:Act}{d:Option Tmp}{x:Value}:(a.put d x).tmps.size=a.tmps.size:=by cases d<;>simp[Act.put]
theorem OU{a:Act}{d:Option Tmp}{x:Value}:(a.put d x).defers=a.defers:=by cases d<;>rfl
theorem KV.put(st:Stat ops anc ord pos sc){S:Nat->Prop}{m q:Nat}{a:Act}(G:KV ops pos sc S m a){i:Nat}{o:Oper}(l:ops[i]?=some o)(c:¬S i)(O:P0 anc S i){x:Value}(X:m<=q)
  (N:∀(k:Nat) (ok:Oper) (t tk:Tmp),sc i=some k->ops[k]?=some ok->o.dst=some t->ok.dst=some tk->q<=pos i->(a.put o.dst x).tmps.getD t undef=a.tmps.getD tk undef):
  KV ops pos sc (fun k=>S k\/k=i) q (a.put o.dst x):=by
 refine⟨fun j k oj ok t tk E g y d r f I=>?_⟩;obtain⟨o1,U,t2,q1,D,Y,W,T,A,K⟩:=st.q1 j k y;rw[d]at D;cases D;rw[f]at A;cases A;by_cases e:j=i
 ·subst e;rw[l]at g;cases g;have B:S k:=O.all k K;refine⟨?_,.inl B⟩;rw[N k ok t tk y d r f I];have s:k≠j:=fun e=>c<|e▸B
  have:o.dst≠some tk:=(st.s6 k j ok o tk d l s f).1;rw[Ds this]
 ·have M:=E.resolve_right e;obtain⟨L,z⟩:=G.eq j k oj ok t tk M g y d r f (by omega);have u:k≠i:=fun h=>c<|h▸z
  have J:o.dst≠some t:=(st.s6 j i oj o t g l e r).1;have R:o.dst≠some tk:=(st.s6 k i ok o tk d l u f).1;rw[Ds J,Ds R];exact⟨L,.inl z⟩
theorem Inv.quiet(st:Stat ops anc ord pos sc)(cn:Canon C call ops anc ord pos fr0 h0 v Hh F)(g:Inv C ops pos sc fr0 v Hh F p0 h0 w0 df S m fl p a w){i:Nat}{o:Oper}(q:ops[i]?=some o)(I:¬S i)(G:Cw o=false)
  (z:Ce o=true->A1 (F<|pos i) ops o=false) {x:Value} (U:((sc i).isSome=true->A1 (F<|pos i) ops o=true->pos i<m)->Ab p (v i) x):Inv C ops pos sc fr0 v Hh F p0 h0 w0 df (fun k=>S k\/k=i) m fl p (a.put o.dst x) w:=by
 have l:∀(k:Nat) (ok:Oper) (t:Tmp),k≠i->ops[k]?=some ok->ok.dst=some t->o.dst≠some t:=fun k ok t O c d=>(st.s6 k i ok o t c q O d).1
 refine⟨g.ext,g.gl,g.mn,fun k ok c N=>?_,fun k ok c M K=>.inl<|g.ma k ok c M K,by rw[Og,g.sz],by rw[OU,g.df],fun t d=>?_,fun k ok t s c d T=>?_,fun k ok s c D r u=>?_,
  fun k j ok oj s R c L D B r A u E he=>?_⟩
 ·rw[<-g.mh k ok c N];refine⟨fun h=>h.elim id fun e=>?_,.inl⟩;subst e;rw[q]at c;cases c;rw[G]at N;cases N
 ·have J:o.dst≠some t:=d i o (.inr rfl) q;rw[Ds J];exact g.slot t fun k ok s c=>d k ok (.inl s) c
 ·by_cases e:k=i
  ·subst e;rw[q]at c;cases c;rw[d,ET<|by rw[g.sz];exact cn.dst k o t q d];exact U fun J X=>T (.inr J) X
  ·rw[Ds<|l k ok t e c d];exact g.slotw k ok t (s.resolve_right e) c d T
 ·have e:k≠i:=by
   rintro rfl;rw[q]at c;cases c;rw[z D]at r;cases r
  obtain⟨n,y,ob,f,v',k1,Z,Y,k4,W,k6,k7⟩:=g.flt k ok (s.resolve_right e) c D r u;exact⟨n,y,ob,f,v',k1,Z,Y,k4,W,k6,fun t d=>by rw[Ds<|l k ok t e c d];exact k7 t d⟩
 ·have e:k≠i:=by
   rintro rfl;rw[q]at c;cases c;rw[z D]at r;cases r
  have e':j≠i:=by
   rintro rfl;rw[q]at L;cases L;rw[z B]at A;cases A
  exact g.inj k j ok oj (s.resolve_right e) (R.resolve_right e') c L D B r A u E he
theorem Inv.made(st:Stat ops anc ord pos sc)(d:Inv C ops pos sc fr0 v Hh F p0 h0 w0 df S m fl p a w){i:Nat}{o:Oper}(B:ops[i]?=some o)(s:Ce o=true)(X:A1 (F<|pos i) ops o=true)(l:m<=pos i)
  (cn:Canon C call ops anc ord pos fr0 h0 v Hh F) {ob:O} {f:Nat->V} (J:Yo C (F<|pos i) o=some (ob,f)) {x:Obj} {n:Nat} {v':Value} (hx:GD p n ob x) (K:∀(q:Pl) b,q[b]?=some (w.heap.size,n)->Ab q (f b) v'):
  Inv C ops pos sc fr0 v Hh F p0 h0 w0 df (fun k=>S k\/k=i) m (fun k=>if k=i then w.heap.size else fl k) p (a.put o.dst v') { w with heap:=w.heap.push x }:=by
 have z:∀(k:Nat) (ok:Oper) (t:Tmp),k≠i->ops[k]?=some ok->ok.dst=some t->o.dst≠some t:=fun k ok t Z c g=>(st.s6 k i ok o t c B Z g).1
 have I:Cw o=false:=by simp[Cw,s]
 refine⟨d.ext.aside x,d.gl,d.mn,fun k ok c K=>?_,fun k ok c s r=>.inl<|d.ma k ok c s r,by rw[Og,d.sz],by rw[OU,d.df],fun t g=>?_,fun k ok t A c g hc=>?_,fun k ok A c N R l=>?_,
  fun k j ok oj A M c hj N G R L l u T=>?_⟩
 ·rw[<-d.mh k ok c K];refine⟨fun h=>h.elim id fun e=>?_,.inl⟩;subst e;rw[B]at c;cases c;rw[I]at K;cases K
 ·have h1:o.dst≠some t:=g i o (.inr rfl) B;rw[Ds h1];exact d.slot t fun k ok A c=>g k ok (.inl A) c
 ·by_cases e:k=i
  ·subst e;rw[B]at c;cases c;have:=hc (.inl s) X;omega
  ·rw[Ds<|z k ok t e c g];exact d.slotw k ok t (A.resolve_right e) c g hc
 ·by_cases e:k=i
  ·subst e;rw[B]at c;cases c;refine⟨n,x,ob,f,v',J,by simp,by simpa using d.ext.size,fun U=>?_,hx,by simpa using K,fun t g=>?_⟩
   ·have:=d.ext.rel.Wr U;simp at this
   ·rw[g,ET<|by rw[d.sz];exact cn.dst k o t B g]
  ·obtain⟨n',y,Y,f',W,k1,D,k3,k4,k5,k6,k7⟩:=d.flt k ok (A.resolve_right e) c N R l;have r:=(zc.1 D).1;refine⟨n',y,Y,f',W,k1,?_,by simpa [e]using k3,by simpa [e]using k4,k5,by simpa [e]using k6,fun t g=>by rw[Ds<|z k ok t e c g];exact k7 t g⟩;simp only[e,vf,zO];rw[wc<|by omega];exact D
 ·by_cases e:k=i<;>by_cases E:j=i
  ·rw[e,E]
  ·obtain⟨_,_,_,_,_,_,D,_⟩:=d.flt j oj (M.resolve_right E) hj G L u;have r:=(zc.1 D).1;simp only[e,wk,E,vf]at T;omega
  ·obtain⟨_,_,_,_,_,_,D,_⟩:=d.flt k ok (A.resolve_right e) c N R l;have r:=(zc.1 D).1;simp only[e,vf,E,wk]at T;omega
  ·simp only[e,vf,E]at T;exact d.inj k j ok oj (A.resolve_right e) (M.resolve_right E) c hj N G R L l u T
theorem Inv.wrote(st:Stat ops anc ord pos sc)(cn:Canon C call ops anc ord pos fr0 h0 v Hh F){i:Nat}{o:Oper}(g:Inv C ops pos sc fr0 v Hh F p0 h0 w0 df S (pos i) fl p a w)(z:ops[i]?=some o)(M:Cw o=true)(D:¬S i)
  {p':Pl} {w':World} {x:Value} (s:Ext p (Hh<|pos i) w p' (Hh<|pos i+1) w') (hx:Ab p' (v i) x):
  Inv C ops pos sc fr0 v Hh F p0 h0 w0 df (fun k=>S k\/k=i) (pos i+1) fl p' (a.put o.dst x) w':=by
 have l:∀(k:Nat) (ok:Oper) (t:Tmp),k≠i->ops[k]?=some ok->ok.dst=some t->o.dst≠some t:=fun k ok t R c d=>(st.s6 k i ok o t c z R d).1
 obtain⟨hnr,Z⟩:=O3 M;have B:=(zc.1 z).1;have u:∀ {k:Nat} {ok:Oper},ops[k]?=some ok->pos k=pos i->k=i:=fun {k ok} c e=>by
  have L:=(zc.1 c).1;rw[<-(st.posp k L).2,e,(st.posp i B).2]
 refine⟨g.ext.trans s,g.gl.ext s,(st.posp i B).1,fun k ok c hv=>?_,fun k ok c N A=>?_,by rw[Og,g.sz],by rw[OU,g.df],fun t d=>?_,fun k ok t r c d hc=>?_,fun k ok r c J K T=>?_,
  fun k j ok oj r W c hj J E K U T X O=>?_⟩
 ·constructor
  ·rintro(h|rfl)
   ·have:=(g.mh k ok c hv).1 h;omega
   ·omega
  ·intro h;by_cases e:pos k=pos i
   ·exact .inr<|u c e
   ·exact .inl ((g.mh k ok c hv).2 (by omega))
 ·by_cases e:pos k=pos i
  ·exact .inr<|u c e
  ·exact .inl (g.ma k ok c N<|by omega)
 ·have I:o.dst≠some t:=d i o (.inr rfl) z;rw[Ds I];exact s.bZ<|g.slot t fun k ok r c=>d k ok (.inl r) c
 ·by_cases e:k=i
  ·subst e;rw[z]at c;cases c;rw[d,ET<|by rw[g.sz];exact cn.dst k o t z d];exact hx
  ·rw[Ds<|l k ok t e c d];refine s.bZ<|g.slotw k ok t (r.resolve_right e) c d fun I h2=>?_;have:=hc I h2;have h3:pos k≠pos i:=fun e2=>e<|u c e2
   omega
 ·have e:k≠i:=by
   rintro rfl;omega
  obtain⟨n,y,ob,f,v',k1,Y,k3,k4,k5,k6,k7⟩:=g.flt k ok (r.resolve_right e) c J K (by omega);have A:=(zc.1 Y).1;obtain⟨q,rfl⟩:=s.pre;refine⟨n,y,ob,f,v',k1,by rw[s.same _ A k4];exact Y,k3,fun G=>?_,k5.mono _,k6,fun t d=>by rw[Ds<|l k ok t e c d];exact k7 t d⟩;rcases s.im _ G with h|h
  ·exact k4 h
  ·omega
 ·have e:k≠i:=by rintro rfl;omega
  have e':j≠i:=by rintro rfl;omega
  exact g.inj k j ok oj (r.resolve_right e) (W.resolve_right e') c hj J E K U (by omega) (by omega) O
theorem Inv.along(c:Inv C ops pos sc fr0 v Hh F p0 h0 w0 df S m fl p a w){p':Pl}{w':World}(d:Ext p (Hh m) w p' (Hh m) w'):Inv C ops pos sc fr0 v Hh F p0 h0 w0 df S m fl p' a w':=by
 refine⟨c.ext.trans d,c.gl.ext d,c.mn,c.mh,c.ma,c.sz,c.df,fun t s=>d.bZ<|c.slot t s,fun i o t u D J A=>d.bZ<|c.slotw i o t u D J A,fun k ok K E z B j=>?_,c.inj⟩;obtain⟨n,y,ob,f,v',M,l,I,r,x,G,L⟩:=c.flt k ok K E z B j;have e:=(zc.1 l).1;obtain⟨q,rfl⟩:=d.pre;refine⟨n,y,ob,f,v',M,by rw[d.same _ e r];exact l,I,fun g=>?_,x.mono _,G,L⟩;rcases d.im _ g with h|h
 ·exact r h
 ·omega
theorem dJ{o:Oper}(h:Ce o=true):∀c,o.op≠ .defer c:=by
 intro c e;unfold Ce at h;rw[e]at h;cases h
theorem up(hC:C.Ok P)(hcall:call.Ok C P)(st:Stat ops anc ord pos sc)(E:Canon C call ops anc ord pos fr0 h0 v Hh F)(G:Inv C ops pos sc fr0 v Hh F p0 h0 w0 df S m fl p a w)(X:KV ops pos sc S m a)(hd:Down anc S)(I:Rest ops pos S m)
  {i:Nat} {o:Oper} (g:ops[i]?=some o) (y:P0 anc S i) {Q:Exit->Act->World->Prop} {K:Act->World->Prop}
  (Y:∀m' fl' p' a' w',Inv C ops pos sc fr0 v Hh F p0 h0 w0 df (fun k=>S k\/k=i) m' fl' p' a' w'->KV ops pos sc (fun k=>S k\/k=i) m' a'->Rest ops pos (fun k=>S k\/k=i) m'->K a' w') {ro:Option Nat} {nn:Nat}:wpOpIn (FW ro) nn P ops Q i K a w:=by
 have hin:=(zc.1 g).1;have L:∀cs b,o.op≠ .select cs b:=fun cs b=>Region.noSelect_spec st.sel i o cs b g
 have r:Rest ops pos (fun k=>S k\/k=i) m:=by
  rcases I with h|⟨k,ok,T,h2,W,h4⟩
  ·exact .inl h
  ·exact .inr ⟨k,ok,T,h2,.inl W,h4⟩
 unfold wpOpIn;simp only[g];cases l:Cw o with
 |false=>
  by_cases hcp:(sc i).isSome=true/\m<=pos i
  ·
   obtain⟨k,hk⟩:=zY.1 hcp.1;obtain⟨o2,ok,t,q1,q2,N,q4,q5,q6,q7⟩:=st.q1 i k hk;rw[g]at q1;cases q1;have hw:Region.wanted o (yielded ops a.tmps)=true:=by unfold Region.wanted;rw[q4]
   simp only[hw,wk];refine⟨fun _ _=>trivial,?_⟩;have hrun:(execOp a.eval o).run P w=.ok (.value<|a.tmps.getD t undef) w:=by
    unfold execOp;rcases N with N|N<;>simp[N,Act.eval]
   rw[zP _ _ _ (fun c hc=>by rcases N with N|N<;>rw[N]at hc<;>cases hc),hrun,zQ];have J:Ce o=false:=by unfold Ce;rcases N with N|N<;>rw[N]
   refine Y m fl p _ w (G.quiet st E g y.fresh l (fun h=>by rw[J]at h;cases h) (fun h=>by have:=h hcp.1 (by unfold A1;rw[q4]);omega)) (X.put st g y.fresh y (zo _) fun k' ok' t' tk T h2 W h4 _=>?_) r;rw[hk]at T;cases T;rw[q2]at h2;cases h2;rw[q6]at h4;cases h4;rw[W,ET<|by rw[G.sz];exact E.dst i o t' g W]
  have Z:∀k,sc i=some k->pos i<m:=fun k hk=>by
   rcases z8 (pos i) m with h|h
   ·exact h
   ·exact wh ⟨by rw[hk];rfl,h⟩ hcp
  have hfl:∀(k:Nat) (ok:Oper) (t:Tmp),ops[k]?=some ok->(Ce ok=true\/(sc k).isSome=true)->ok.dst=some t->t∈reads ops o->anc i k=true->pos k<m:=by
   intro k ok t hk U hkt ht M;rcases st.s3 k i ok o t hk g U l hkt ht M with h|⟨j,oj,j1,j2,j3,j4⟩
   ·have:=Z k h;have:=st.apos _ _ M;omega
   ·have:=(G.mh j oj j1 j2).1<|y.all j j4;have:=st.apos _ _ j3;omega
  have B:∀x,KV ops pos sc (fun k=>S k\/k=i) m (a.put o.dst x):=fun x=>X.put st g y.fresh y (zo _) fun k ok t tk T _ _ _ h5=>by have:=Z k T;omega
  have D:=operands st E G hd g y hfl;rw[P6 D];rcases E.step i o g with⟨u1,u2,z⟩|⟨u1,u⟩
  ·simp only[u1,zu,vf];refine⟨fun _ _=>trivial,?_⟩;exact Y m fl p _ w (G.quiet st E g y.fresh l (fun _=>u1)<|fun _=>by rw[u2];simp[Ab,undef]) (B _) r
  ·simp only[u1,wk];refine⟨fun _ _=>trivial,?_⟩;rcases u with⟨u2,z,u4⟩|⟨u2,ob,f,z,u4,u5⟩|⟨u2,z⟩
   ·have hdop:=U8 st E hd G I g y u2 u1 z;obtain⟨v',p',w',R,O,g3⟩:=IS hC G.ext.rel G.gl D L hdop;rw[zP _ _ _<|Gm hdop,R,zQ];have hi2:=G.along g3;exact Y m fl p' _ w' (hi2.quiet st E g y.fresh l (fun h=>by rw[IG u2]at h;cases h) fun _=>O) (B _) r
   ·have hle:m<=pos i:=by
     rcases Ou st hd G I g y.fresh with h|⟨k,ok,T,h2,W,h4,h5,h6⟩
     ·exact h
     ·rcases st.s4 k i ok o T g h2 u2 with h7|h7
      ·rw[h6]at h7;cases h7
      ·omega
    obtain⟨x,n,v',R,O,g3⟩:=rB (P:=P) hC G.gl D z;rw[zP _ _ _<|dJ u2,R,zQ];exact Y m _ p _ _ (G.made st g u2 u1 hle E z O g3) (B _) r
   ·rw[l]at u2;cases u2
 |true=>
  obtain⟨hnr,J⟩:=O3 l;have hle:m<=pos i:=by
   rcases z8 (pos i) m with h|h
   ·exact wh ((G.mh i o g l).2 h) y.fresh
   ·exact h
  have hpn:=(st.posp i hin).1;obtain⟨p1,d⟩:=Inv.wA st E (pos i-m) m G X (by omega) (fun q T h2 oq hq=>by
   obtain⟨R,O⟩:=st.ordp q (by omega);refine⟨?_,fun U=>?_⟩
   ·cases hv:Cw oq with
    |false=>rfl
    |true=>exact(NH st G g y J hq hv (by rw[O];omega)<|by rw[O];omega).elim
   ·rcases st.s4 i (ord q) o oq g hq l U with W|W
    ·exact y.all _ W
    ·rw[O]at W;omega)
  rw[show m+(pos i-m)=pos i from by omega]at d;have D:=operands st E d hd g y fun k ok t hk U _ _ M=>st.apos _ _ M
  have B:∀x,KV ops pos sc (fun k=>S k\/k=i) (pos i+1) (a.put o.dst x):=fun x=>X.put st g y.fresh y (by omega) fun k ok t tk _ _ _ _ h5=>by omega
  rw[P6 D];have s:Rest ops pos (fun k=>S k\/k=i) (pos i+1):=.inr ⟨i,o,g,l,.inr rfl,rfl⟩;rcases E.step i o g with⟨u1,u2,z⟩|⟨u1,u⟩
  ·simp only[u1,zu,vf];refine⟨fun _ _=>trivial,?_⟩;have he:Ext p1 (Hh<|pos i) w p1 (Hh<|pos i+1) w:=by rw[z];exact zU d.ext.rel
   exact Y _ _ _ _ _ (d.wrote st E g l y.fresh he<|by rw[u2];simp[Ab,undef]) (B _) s
  ·simp only[u1,wk];refine⟨fun _ _=>trivial,?_⟩;rcases u with⟨u2,z,u4⟩|⟨u2,ob,f,z,u4,u5⟩|⟨u2,z⟩
   ·rw[hnr]at u2;cases u2
   ·rw[J]at u2;cases u2
   ·unfold Dh at z;split at z
    case h_4=>cases z
    case h_1=>
     rename_i vv hh A;simp only[ze,zl]at z;obtain⟨rfl,rfl⟩:=z;obtain⟨v',p',w',R,O,g3⟩:=IS hC d.ext.rel d.gl D L A;rw[zP _ _ _<|Gm A,R,zQ];exact Y _ _ _ _ _ (d.wrote st E g l y.fresh g3 O) (B _) s
    case h_2=>
     rename_i hh A;simp only[ze,zl]at z;obtain⟨u4,rfl⟩:=z;obtain⟨p',w',R,g3⟩:=IS hC d.ext.rel d.gl D L A;rw[zP _ _ _<|Gm A,R,Oper.uponIn_skip];exact Y _ _ _ _ _ (d.wrote st E g l y.fresh g3<|by rw[<-u4];simp[Ab,undef]) (B _) s
    case h_3=>
     rename_i f args A;obtain⟨args',R,O⟩:=IS hC d.ext.rel d.gl D L A;rw[zP _ _ _<|Gm A,R,Oper.uponIn_enter];split at z
     case h_2=>cases z
     rename_i x1 x2 hcl;cases z;refine⟨fun h=>(by simp[FW,zV]at h),U4.2<|(hcall.fn f args _ _ hcl p1 w args' d.ext.rel d.gl O).mono ?_⟩;rintro e w' ⟨v',h',x',p',hm,rfl,k1,k2⟩;rw[zf]at hm;cases hm;exact Y _ _ _ _ _ (d.wrote st E g l y.fresh k2 k1) (B _) s
theorem Inv.congr{c:Nat->Prop}(h:∀k,S k↔c k)(d:Inv C ops pos sc fr0 v Hh F p0 h0 w0 df S m fl p a w):Inv C ops pos sc fr0 v Hh F p0 h0 w0 df c m fl p a w:=by
 have e:S=c:=funext fun k=>propext<|h k
 exact e▸d
theorem KV.congr{c:Nat->Prop}(h:∀k,S k↔c k)(d:KV ops pos sc S m a):KV ops pos sc c m a:=by
 have e:S=c:=funext fun k=>propext<|h k
 exact e▸d
theorem Rest.congr{c:Nat->Prop}(h:∀k,S k↔c k)(d:Rest ops pos S m):Rest ops pos c m:=by
 have e:S=c:=funext fun k=>propext<|h k
 exact e▸d
def Ls(l:Array Bool)(k:Nat):Prop:=l.getD k false=true
theorem Sc{l:Array Bool}(n:Nat)(o:l.size=n){i:Nat}(g:i<n)(q:l.getD i true=false):
  ((zq n).filter fun k=> !(l.setIfInBounds i true).getD k true).length<((zq n).filter fun k=> !l.getD k true).length:=by
 have sub:∀k,(!(l.setIfInBounds i true).getD k true)=true->(!l.getD k true)=true:=by
  intro k j;by_cases e:i=k
  ·subst e;simp[o,g]at j
  ·rwa [getD_set_ne true e]at j
 have key:∀(L:List Nat),(L.filter fun k=> !(l.setIfInBounds i true).getD k true).length<=(L.filter fun k=> !l.getD k true).length/\(i∈L->(L.filter fun k=> !(l.setIfInBounds i true).getD k true).length<(L.filter fun k=> !l.getD k true).length):=by
  intro L;induction L with
  |nil=>simp
  |cons x L f=>
   simp only[List.filter_cons];constructor
   ·by_cases c:(!(l.setIfInBounds i true).getD x true)=true
    ·rw[wd c,wd<|sub x c];simp only[zt];have:=f.1;omega
    ·rw[wc c];have:=f.1;split<;>(try simp only[zt])<;>omega
   ·intro r;by_cases e:i=x
    ·subst e;rw[wc (by simp[o,g]),wd<|by simp[q]];simp only[zt];have:=f.1;omega
    ·have d:i∈L:=by simpa [e]using r
     by_cases c:(!(l.setIfInBounds i true).getD x true)=true
     ·rw[wd c,wd<|sub x c];simp only[zt];have:=f.2 d;omega
     ·rw[wc c];have:=f.2 d;split<;>(try simp only[zt])<;>omega
 exact(key<|zq n).2 (by simpa using g)
theorem Zn(hC:C.Ok P)(J:call.Ok C P)(st:Stat ops anc ord pos sc)(N:Canon C call ops anc ord pos fr0 h0 v Hh F){Q:Exit->Act->World->Prop}
  (hQ:∀p' X w',Cr p' (F ops.size) X->Ext p0 h0 w0 p' (Hh ops.size) w'->X.defers=df->Q .normal X w') {ro:Option Nat} {nn:Nat}:
  ∀(f:Nat) (l:Array Bool),l.size=ops.size->((zq ops.size).filter fun k=> !l.getD k true).length<=f->∀ {m:Nat} {fl:Nat->Nat} {p:Pl} {a:Act} {w:World},
   Inv C ops pos sc fr0 v Hh F p0 h0 w0 df (Ls l) m fl p a w->KV ops pos sc (Ls l) m a->Down anc (Ls l)->Rest ops pos (Ls l) m->wpAnyIn (FW ro) nn P .any ops Q f l a w:=by
 have fin:∀(l:Array Bool),l.size=ops.size->zT .any ops l=[]->∀ {m:Nat} {fl:Nat->Nat} {p:Pl} {a:Act} {w:World},
   Inv C ops pos sc fr0 v Hh F p0 h0 w0 df (Ls l) m fl p a w->KV ops pos sc (Ls l) m a->Q .normal a w:=by
  intro l L r m fl p a w A u;have all:∀q,q<=ops.size->∀k,k<ops.size->pos k<q->Ls l k:=by
   intro q;induction q with
   |zero=>intro _ k _ h;omega
   |succ q ih=>
    intro hq k c hlt;by_cases e:pos k=q
    ·apply zM;intro K;have G:k∈zT .any ops l:=by
      rw[mem_ready];refine⟨?_,ops[k],by simp[c],fun e' he' hb=>?_⟩
      ·unfold Ls at K;have:k<l.size:=by omega
       simp only[zk,zX this,z6]at K ⊢;simpa using K
      ·obtain⟨B,E⟩:=st.dir k _ e' (by simp[c]) he' hb;have h3:=st.apos _ _ B;exact ih (by omega) e'.on E (by omega)
     rw[r]at G;cases G
    ·exact ih (by omega) k c (by omega)
  have y:∀k,k<ops.size->Ls l k:=fun k c=>all ops.size (zo _) k c (st.posp k c).1
  obtain⟨p',d⟩:=Inv.wA st N (ops.size-m) m A u (by have:=A.mn;omega) (fun q B E o ho=>by
   obtain⟨O,g2⟩:=st.ordp q (by have:=A.mn;omega);refine⟨?_,fun _=>y _ O⟩;cases hv:Cw o with
   |false=>rfl
   |true=>have:=(A.mh _ o ho hv).1<|y _ O;omega)
  rw[show m+(ops.size-m)=ops.size from by have:=A.mn;omega]at d;refine hQ p' a w ⟨by rw[N.fn _<|zo _,d.sz],fun t=>?_⟩ d.ext d.df;by_cases hw:∃(k:Nat) (ok:Oper),ops[k]?=some ok/\ok.dst=some t
  ·obtain⟨k,ok,c,s⟩:=hw;have I:=(zc.1 c).1;rw[Fw st N c s _ (zo _) (st.posp k I).1];exact d.slotw k ok t (y k I) c s fun _ _=>(st.posp k I).1
  ·rw[Fz st N _ (zo _) fun k ok c s _=>hw ⟨k,ok,c,s⟩];exact d.slot t fun k ok _ c s=>hw ⟨k,ok,c,s⟩
 intro f;induction f with
 |zero=>
  intro l L M m fl p a w A u W z;have r:zT .any ops l=[]:=by
   cases hc:zT .any ops l with
   |nil=>rfl
   |cons k ks=>
    have hm:k∈zT .any ops l:=by rw[hc];simp
    obtain⟨B,o,E,_⟩:=mem_ready.1 hm;have c:=(zc.1 E).1;have:k∈(zq ops.size).filter fun k=> !l.getD k true:=List.mem_filter.2 ⟨by simpa using c,by simp[B]⟩
    have:=List.length_pos_of_mem this;omega
  exact⟨r,fin l L r A u⟩
 |succ f ih=>
  intro l L M m fl p a w A u W z;refine⟨fun r=>fin l L r A u,fun i hm=>?_⟩;obtain⟨B,o,E,h3⟩:=mem_ready.1 hm;have hin:=(zc.1 E).1;have U:i<l.size:=by omega
  have g:P0 anc (Ls l) i:=by
   refine⟨fun hs=>?_,fun k c=>?_⟩
   ·unfold Ls at hs;simp only[zk,zX U,z6]at hs B;rw[hs]at B;cases B
   ·obtain⟨o',e,O,g2,g3,g4⟩:=st.edge i k c;rw[E]at O;cases O;have R:=h3 e g2 g3;rcases g4 with g4|g4
    ·rw[<-g4];exact R
    ·exact W e.on k R g4
  refine up hC J st N A u W z E g fun m' fl' p' X w' d T D=>?_
  have Y:∀k,(Ls l k\/k=i)↔Ls (l.setIfInBounds i true) k:=by
   intro k;unfold Ls;by_cases e:k=i
   ·subst e;simp[U]
   ·rw[getD_set_ne false<|fun x=>e x.symm];simp[e]
  refine ih (l.setIfInBounds i true) (by simpa using L) ?_ (d.congr Y) (T.congr Y) ?_<|D.congr Y
  ·have:=Sc ops.size L hin B;omega
  ·intro j k Z c;rw[<-Y]at Z ⊢;rcases Z with Z|rfl
   ·exact .inl<|W j k Z c
   ·exact .inl<|g.all k c
theorem YB(x:C.Ok P)(d:call.Ok C P)(r:P.follows .mixedOrders=true)(st:Stat ops anc ord pos sc)(l:Canon C call ops anc ord pos fr0 h0 v Hh F){Q:Exit->Act->World->Prop}(y:R p h0 w)(q:Gl C p)(g:Cr p fr0 a)
  {id:Nat} (z:∀p' f w',Cr p' (F ops.size) f->Ext p h0 w p' (Hh ops.size) w'->f.defers=a.defers->Q .normal f w') {ro:Option Nat} {s:Nat}:(yc id ops true).wpIn (FW ro) s P Q a w:=by
 refine wpIn_region_any r ?_;have u:=Ext.drew y<|w.drawn+1;have c:∀k,¬Ls (ya ops.size false) k:=by
  intro k e;unfold Ls at e;rw[zk]at e;by_cases h:k<ops.size
  ·simp[h]at e
  ·rw[Array.getElem?_eq_none<|by simpa using h]at e;simp at e
 refine Zn (p0:=p) (h0:=h0) (w0:=w) (df:=a.defers) x d st l z ops.size _ (by simp) (by simpa using List.length_filter_le _ (zq ops.size)) (m:=0) (fl:=fun _=>0) (p:=p)
  ⟨by rw[l.h0];exact u,q,Nat.zero_le _,fun k o _ _=>⟨fun h=>wh h<|c k,fun h=>by omega⟩,fun k o _ _ h=>by omega,g.1.symm,rfl,fun t _=>g.2 t,fun i o t h=>wh h<|c i,fun i o h=>wh h<|c i,fun i j o o' h=>wh h<|c i⟩
  ⟨fun i k o ok t tk h=>wh h<|c i⟩ (fun i k h=>wh h<|c i) (.inl rfl)
end
structure Mc where
 anc:List Nat
 ord:List Nat
 pos:List Nat
 sc:List (Option Nat)
def tY(acc:List Nat)(o:Oper):Nat:=
 o.after.toList.foldl (fun s e=>bif zS .any e then s|||(2^e.on|||acc.getD e.on 0)else s) 0
def mV:List Oper->List Nat->List Nat
 |[],c=>c
 |o::os,c=>mV os<|c++[tY c o]
def tb(m i:Nat):Bool:=m.testBit i
def sub(a d:Nat):Bool:=zi (a&&&d) a
def IP(f:Nat->Oper->Bool):Nat->List Oper->Option Nat
 |_,[]=>none
 |i,o::os=>bif f i o then some i else IP f (i+1) os
def bH(f:Nat->Oper->Bool):Nat->List Oper->List Nat
 |_,[]=>[]
 |i,o::os=>bif f i o then i::bH f (i+1) os else bH f (i+1) os
def SK(ops:List Oper)(anc:List Nat):Nat->Nat->List Nat->List Nat
 |0,_,out=>out.reverse
 |fuel+1,d,out=>
  match IP (fun i o=>DW o&& !tb d i&&sub (anc.getD i 0) d) 0 ops with
  |some i=>SK ops anc fuel (d|||2^i) (i::out)
  |none=>
   match IP (fun i o=>Cw o&& !tb d i) 0 ops with
   |some k=>
    let c:=bH (fun i o=>Ce o&& !tb d i&&tb (anc.getD k 0) i) 0 ops
    bif c.isEmpty then SK ops anc fuel (d|||2^k) (k::out)
    else SK ops anc fuel (c.foldl (fun s i=>s|||2^i) d)<|c.reverse++out
   |none=>
    match IP (fun i o=>Ce o&& !tb d i) 0 ops with
    |some i=>SK ops anc fuel (d|||2^i) (i::out)
    |none=>out.reverse
def idx(l:List Nat)(i:Nat):Nat:=l.getD i 0
def sN(ord:List Nat)(n:Nat):List Nat:=(zq n).map fun i=>ord.idxOf i
def QZ(o:Oper):Option Tmp:=
 match o.guard,o.op with
 |none,.assign (.tmp t)=>some t
 |none,.move (.tmp t)=>some t
 |_,_=>none
def wL(ops:List Oper)(anc:List Nat)(i:Nat)(o:Oper):Option Nat:=
 match QZ o with
 |some t=>
  match IP (fun k x=>Ce x&&(x.dst==some t)&&tb (anc.getD i 0) k) 0 ops with
  |some k=>match IP (fun h x=>Cw x&&tb (anc.getD h 0) k&&tb (anc.getD i 0) h) 0 ops with
   |none=>some k
   |some _=>none
  |none=>none
 |none=>none
def Ed(ops:Array Oper):Mc:=
 let anc:=mV ops.toList []
 let ord:=SK ops.toList anc (3*ops.size+3) 0 []
 ⟨anc,ord,sN ord ops.size,ops.toList.zipIdx.map fun(o,i)=>wL ops.toList anc i o⟩
def Mc.s(pl:Mc)(i:Nat):Option Nat:=pl.sc.getD i none
def Mc.a(pl:Mc)(j i:Nat):Bool:=(idx pl.anc j).testBit i
def VN(ops:Array Oper)(f:Nat->Oper->Nat->Oper->Bool):Bool:=
 ops.toList.zipIdx.all fun(o,i)=>ops.toList.zipIdx.all fun(o',j)=>f i o j o'
def Hm(ops:Array Oper)(pl:Mc):Bool:=
 let n:=ops.size
 let A:=pl.a
 let pos:=idx pl.pos
 let ord:=idx pl.ord
 Region.noSelect ops&&
 ((zq n).all fun q=>zz (ord q) n&&zi (pos<|ord q) q)&&
 ((zq n).all fun i=>zz (pos i) n&&zi (ord<|pos i) i)&&
 (pl.anc.length==n)&&(pl.ord.length==n)&&
 (pl.sc.zipIdx.all fun(s,i)=>match s with
  |none=>true
  |some k=>match ops[i]?,ops[k]? with
   |some o,some ok=>match QZ o with
    |some t=>Ce ok&&(ok.dst==some t)&&A i k
    |none=>false
   |_,_=>false)&&
 (ops.toList.zipIdx.all fun(o,j)=>zz (idx pl.anc j) (2^n)&&
  ((zq n).all fun i=> !A j i||((o.after.toList.any fun e=>zS .any e&&(zi e.on i||A e.on i))&&zz (pos i) (pos j)))&&
  (o.after.toList.all fun e=> !zS .any e||(A j e.on&&zz e.on n)))&&
 (VN ops fun i o j o'=>
  (!(Cw o&&Cw o')||zi i j||A i j||A j i)&&
  (!(Cw o&&DW o')||A j i||zz (pos j) (pos i))&&
  (!((Ce o||(pl.s i).isSome)&& !Cw o')|| !A j i||(match o.dst with|some t=> !((reads ops o').contains t)|none=>true)||(pl.s j==some i)||(ops.toList.zipIdx.any fun(x,k)=>Cw x&&A k i&&A j k))&&
  (!(Cw o&&Ce o')||A i j||zz (pos i) (pos j))&&
  (!(DW o&&Ol o&&Ce o')|| !zz (pos j) (pos i)||(ops.toList.zipIdx.any fun(x,k)=>Cw x&&zz (pos j) (pos k)&&zz (pos k) (pos i)))&&
  (zi i j||(match o.dst with
   |none=>true
   |some t=> !(o'.dst==some t)&&(!((reads ops o').contains t)||A j i||A i j))))
theorem IT{ops:Array Oper}{i:Nat}{o:Oper}(h:ops[i]?=some o):(o,i)∈ops.toList.zipIdx:=by
 have:=(zc.1 h);obtain⟨c,d⟩:=this;rw[zw];simpa using h
theorem dI{ops:Array Oper}{i:Nat}{o:Oper}(h:(o,i)∈ops.toList.zipIdx):ops[i]?=some o:=by
 rw[zw]at h;simpa using h
theorem Sj{o:Oper}{t:Tmp}(h:QZ o=some t):(o.op=.assign (.tmp t)\/o.op=.move (.tmp t))/\o.guard=none:=by
 unfold QZ at h;split at h
 ·cases h;rename_i c d;exact⟨.inl d,c⟩
 ·cases h;rename_i c d;exact⟨.inr d,c⟩
 ·cases h
theorem WD{ops:Array Oper}{pl:Mc}(J:Hm ops pl=true):Stat ops pl.a (idx pl.ord) (idx pl.pos) pl.s:=by
 unfold Hm at J;simp only[zd]at J;obtain⟨⟨⟨⟨⟨⟨⟨h0,O⟩,R⟩,h3⟩,_⟩,L⟩,B⟩,h5⟩:=J;simp only[zm,yd,zd,z7,Bf,w5]at O R;simp only[zm]at B;have r:∀(i j:Nat) (o o':Oper),ops[i]?=some o->ops[j]?=some o'->_:=fun i j o o' g f=>zm.1 (zm.1 h5 (o,i)<|IT g) (o',j)<|IT f
 simp only[zd,zp,zx,Bf,w5,Gz,w9,Bool.and_eq_false_imp]at r;have l:∀(j i:Nat),pl.a j i=true->j<ops.size/\i<ops.size:=by
  intro j i h;have f:j<ops.size:=by
   rcases z8 j ops.size with c|c
   ·exact c
   ·have hl:pl.anc.length=ops.size:=by simpa using h3
    unfold Mc.a idx at h;rw[zy,List.getElem?_eq_none<|by omega]at h;simp at h
  refine⟨f,?_⟩;have c:=B (ops[j],j) (IT<|by simp[f]);simp only[zd,z7]at c;rcases z8 i ops.size with d|d
  ·exact d
  ·have A:=c.1.1;have h9:idx pl.anc j<2^i:=Nat.lt_of_lt_of_le A (Nat.pow_le_pow_right (by omega) d);unfold Mc.a at h;rw[Nat.testBit_lt_two_pow h9]at h;cases h
 refine⟨h0,fun q L=>O q L,fun i g=>R i g,fun j i h=>?_,fun j o e f M hb=>?_,fun j i h=>?_,fun i j o o' g f G Z D=>?_,fun i j o o' g f G T=>?_,fun i k h=>?_,fun j k o o' t f hk E G z u h=>?_,fun i j o o' g f G E=>?_,
  fun i j o o' g f T N E hlt=>?_,fun i j o o' t g f D z=>?_⟩
 ·obtain⟨f,g⟩:=l j i h;have c:=B (ops[j],j) (IT<|by simp[f]);simp only[zd,zm,yd,zp,zx]at c;rcases c.1.2 i g with d|d
  ·rw[h]at d;cases d
  ·obtain⟨e,M,A⟩:=zR.1 d.1;simp only[zd,zp,Bf,w5]at A;exact⟨ops[j],e,by simp[f],by simpa using M,A.1,A.2⟩
 ·have c:=B (o,j)<|IT f;simp only[zd,zm,zp,zx,z7]at c;rcases c.2 e (by simpa using M)with d|d
  ·rw[hb]at d;cases d
  ·exact d
 ·obtain⟨f,g⟩:=l j i h;have c:=B (ops[j],j) (IT<|by simp[f]);simp only[zd,zm,yd,zp,zx,z7]at c;rcases c.1.2 i g with d|d
  ·rw[h]at d;cases d
  ·exact d.2
 ·have:=(r i j o o' g f).1.1.1.1.1;simp_all
 ·have:=(r i j o o' g f).1.1.1.1.2;simp_all
 ·have u:(pl.s i,i)∈pl.sc.zipIdx:=by
   rw[zw];unfold Mc.s at h ⊢;rw[zy]at h ⊢;cases U:pl.sc[i]? with
   |none=>rw[U]at h;cases h
   |some x=>rfl
  have c:=zm.1 L _ u;simp only[h]at c;split at c
  case h_2=>cases c
  rename_i o ok Y K;split at c
  case h_2=>cases c
  rename_i t z;simp only[zd,wj]at c;obtain⟨W,X⟩:=Sj z;exact⟨o,ok,t,Y,K,W,X,c.1.1,c.1.2,c.2⟩
 ·have c:=(r j k o o' f hk).1.1.1.2;have y:(Ce o||(pl.s j).isSome)=true:=by simpa using E
  rw[G,h,z]at c;have hc:(reads ops o').contains t=true:=by simpa using u
  simp only[zp]at y;simp only[hc,Bool.not_false,Bool.not_true,zu,or_false,Bool.true_eq_false]at c;rcases c with(c|c)|c
  ·exact wh y (fun d=>by simpa using c d)
  ·exact .inl (by simpa using c)
  ·obtain⟨⟨x,i⟩,I,d⟩:=zR.1 c;simp only[zd]at d;exact .inr ⟨i,x,dI I,d.1.1,d.1.2,d.2⟩
 ·have:=(r i j o o' g f).1.1.2;simp_all
 ·have c:=(r i j o o' g f).1.2;rw[T,N,E]at c;simp only[ve,forall_const,Bool.true_eq_false,false_or]at c;rcases c with c|c
  ·omega
  ·obtain⟨⟨x,k⟩,u,d⟩:=zR.1 c;simp only[zd,w5]at d;exact⟨k,x,dI u,d.1.1,d.1.2,d.2⟩
 ·have c:=(r i j o o' g f).2;rcases c with c|c
  ·exact wh c D
  ·rw[z]at c;simp only[zd,zx,zp,wn]at c;refine⟨c.1,fun u=>?_⟩;rcases c.2 with(d|d)|d
   ·have:(reads ops o').contains t=true:=by simpa using u
    rw[this]at d;cases d
   ·exact .inl d
   ·exact .inr d
theorem gD{ops:Array Oper}{pl:Mc}(c:Hm ops pl=true):pl.ord.length=ops.size:=by
 unfold Hm at c;simp only[zd]at c;obtain⟨⟨⟨⟨⟨⟨⟨h0,e⟩,g⟩,f⟩,d⟩,l⟩,j⟩,i⟩:=c;simpa using d
mutual
def V.beq:V->V->Bool
 | .bool a,.bool b=>a==b
 | .int k a,.int l b=>k==l&&a==b
 | .str a,.str b=>a==b
 | .nilp,.nilp=>true
 | .ptr a i,.ptr b j=>zi a b&&zi i j
 | .nils,.nils=>true
 | .sl a b c d e,.sl r b' q o s=>zi a r&&zi b b'&&zi c q&&zi d o&&zi e s
 | .esl,.esl=>true
 | .es0,.es0=>true
 | .junk,.junk=>true
 | .nilm,.nilm=>true
 | .map a,.map b=>zi a b
 | .yld a,.yld b=>zi a b
 | .nilf,.nilf=>true
 | .nili,.nili=>true
 | .fn f a b,.fn g c d=>f==g&&V.JF a c&&V.JF b d
 | .iface t x,.iface u y=>zi t u&&V.beq x y
 | .agg a,.agg b=>V.JF a b
 | .tup a,.tup b=>V.JF a b
 |_,_=>false
def V.JF:List V->List V->Bool
 |[],[]=>true
 |a::c,b::d=>V.beq a b&&V.JF c d
 |_,_=>false
end
mutual
theorem V.beq_eq:∀ {a b:V},V.beq a b=true->a=b:=by
 intro a b h;cases a<;>cases b<;>simp only[V.beq]at h<;>first
  |(cases h;done)
  |rfl
  |(simp only[zd,wj,Bf,w5]at h;first|(obtain rfl:=h;rfl)|(obtain⟨rfl,rfl⟩:=h;rfl)|(obtain⟨⟨⟨⟨rfl,rfl⟩,rfl⟩,rfl⟩,rfl⟩:=h;rfl))
  |skip
 case fn.fn f a b g c d=>
  simp only[zd,wj]at h;rw[h.1.1,V.GG h.1.2,V.GG h.2]
 case iface.iface t x u y=>
  simp only[zd,Bf,w5]at h;rw[h.1,V.beq_eq h.2]
 case agg.agg a b=>rw[V.GG h]
 case tup.tup a b=>rw[V.GG h]
theorem V.GG:∀ {a b:List V},V.JF a b=true->a=b
 |[],[],_=>rfl
 |[],_::_,h=>by simp[V.JF]at h
 |_::_,[],h=>by simp[V.JF]at h
 |a::c,b::d,h=>by
  simp only[V.JF,zd]at h;rw[V.beq_eq h.1,V.GG h.2]
end
structure Rc where
 i:Nat
 o:Oper
 f:Fr
 v:V
structure St where
 f:Fr
 h:H
 r:List Rc
def still(C:Ctx)(anc:Nat->Nat->Bool)(i:Nat)(h:H)(r:Rc):Bool:=
 anc i r.i||(match FH C r.f h r.o with
  |some (.val x _)=>V.beq x r.v
  |_=>false)
def Hn(C:Ctx)(call:Dc)(ops:Array Oper)(anc:Nat->Nat->Bool)(i:Nat)(s:St):Option (V×St):=
 match ops[i]? with
 |none=>none
 |some o=>
  bif A1 s.f ops o then
   bif DW o then
    match FH C s.f s.h o with
    |some (.val v _)=>match s.f.put o.dst v with
     |some c=>some (v,⟨c,s.h,bif Ol o then⟨i,o,s.f,v⟩::s.r else s.r⟩)
     |none=>none
    |_=>none
   else bif Ce o then
    match Yo C s.f o with
    |some (ob,f)=>match s.f.put o.dst (f s.h.nx)with
     |some c=>some (f s.h.nx,⟨c,s.h.push ob,s.r⟩)
     |none=>none
    |none=>none
   else
    match Dh C call s.f s.h o with
    |some (v,h')=>match s.f.put o.dst v with
     |some c=>bif s.r.all (still C anc i h')then some (v,⟨c,h',s.r⟩)else none
     |none=>none
    |none=>none
  else
   match s.f.put o.dst (.tup [])with
   |some c=>bif Cw o then(bif s.r.all (still C anc i s.h)then some (.tup [],⟨c,s.h,s.r⟩)else none)else some (.tup [],⟨c,s.h,s.r⟩)
   |none=>none
def Sz(C:Ctx)(call:Dc)(ops:Array Oper)(anc:Nat->Nat->Bool):List Nat->St->Option St
 |[],s=>some s
 |i::c,s=>match Hn C call ops anc i s with
  |some (_,d)=>Sz C call ops anc c d
  |none=>none
def HG(C:Ctx)(call:Dc)(ops:Array Oper)(fr:Fr)(h:H):Option (Fr×H):=
 match Sz C call ops (Ed ops).a (Ed ops).ord ⟨fr,h,[]⟩with
 |some s=>some (s.f,s.h)
 |none=>none
def SH(C:Ctx)(call:Dc)(ops:Array Oper)(fr:Fr)(h:H):Option (Fr×H):=
 bif Hm ops (Ed ops)then HG C call ops fr h else none
def Dk:Code->Bool
 | .region _ ops dr=>bif dr then Hm ops (Ed ops)else true
 | .seq a b=>Dk a&&Dk b
 | .cond _ a b=>Dk a&&Dk b
 | .block _ b=>Dk b
 | .loop b=>Dk b
 | .scope b=>Dk b
 |_=>true
section
variable {C:Ctx}{P:Program}{call:Dc}{ops:Array Oper}{p:Pl}{h:H}{w:World}{fr:Fr}{a:Act}
theorem Ke{f g:Fr}{d:Option Nat}{v:V}(h:f.put d v=some g):g.n=f.n/\(∀t,g.get t=if d=some t then v else f.get t)/\∀t,d=some t->t<f.n:=by
 unfold Fr.put at h;cases d with
 |none=>cases h;exact⟨rfl,fun t=>by simp,fun t h=>by cases h⟩
 |some s=>
  simp only[Gz]at h;by_cases c:s<f.n
  ·simp only[c,decide_true,we,ze]at h;subst h;refine⟨rfl,fun t=>?_,fun t i=>by cases i;exact c⟩;unfold Fr.get;simp only[PM.CR];by_cases e:t=s
   ·subst e;simp
   ·have:¬s=t:=fun x=>e x.symm
    simp[e,this]
  ·simp[c]at h
theorem Dw{anc:Nat->Nat->Bool}{i:Nat}{s j:St}{v:V}(c:Hn C call ops anc i s=some (v,j)):∃o,ops[i]?=some o/\j.f.n=s.f.n/\(∀t,j.f.get t=if o.dst=some t then v else s.f.get t)/\(∀t,o.dst=some t->t<s.f.n)/\
  ((A1 s.f ops o=false/\v=.tup []/\j.h=s.h)\/
   (A1 s.f ops o=true/\
   ((DW o=true/\FH C s.f s.h o=some (.val v s.h)/\j.h=s.h)\/
    (Ce o=true/\∃ob f,Yo C s.f o=some (ob,f)/\v=f s.h.nx/\j.h=s.h.push ob)\/
    (Cw o=true/\Dh C call s.f s.h o=some (v,j.h)))))/\
  (∀r∈s.r,r∈j.r)/\(DW o=true->Ol o=true->A1 s.f ops o=true->⟨i,o,s.f,v⟩∈j.r)/\
  (Cw o=true->∀r∈s.r,still C anc i j.h r=true):=by
 unfold Hn at c;split at c
 case h_1=>cases c
 rename_i o J;refine⟨o,J,?_⟩;cases I:A1 s.f ops o with
 |false=>
  simp only[I,wg]at c;split at c
  case h_2=>cases c
  rename_i D x;obtain⟨u,q,l⟩:=Ke x;cases z:Cw o with
  |false=>
   simp only[z,wg,ze,zl]at c;obtain⟨rfl,rfl⟩:=c;exact⟨u,q,l,.inl ⟨rfl,rfl,rfl⟩,fun r d=>d,fun _ _ h=>(by cases h),fun h=>(by cases h)⟩
  |true=>
   simp only[z,we]at c;cases y:s.r.all (still C anc i s.h)with
   |false=>simp[y]at c
   |true=>
    simp only[y,we,ze,zl]at c;obtain⟨rfl,rfl⟩:=c;exact⟨u,q,l,.inl ⟨rfl,rfl,rfl⟩,fun r d=>d,fun _ _ h=>(by cases h),fun _ r d=>zm.1 y r d⟩
 |true=>
  simp only[I,we]at c;cases e:DW o with
  |true=>
   simp only[e,we]at c;split at c
   case h_2=>cases c
   rename_i v1 G A;split at c
   case h_2=>cases c
   rename_i D x;simp only[ze,zl]at c;obtain⟨rfl,rfl⟩:=c;obtain⟨u,q,l⟩:=Ke x;obtain⟨v2,hv2⟩:=rd_val e A;cases hv2;refine⟨u,q,l,.inr ⟨rfl,.inl ⟨rfl,A,rfl⟩⟩,fun r d=>?_,fun _ K _=>?_,fun z=>by rw[(O3 z).1]at e;cases e⟩
   ·cases Ol o<;>simp[d]
   ·simp[K]
  |false=>
   simp only[e,wg]at c;cases g:Ce o with
   |true=>
    simp only[g,we]at c;split at c
    case h_2=>cases c
    rename_i ob f B;split at c
    case h_2=>cases c
    rename_i D x;simp only[ze,zl]at c;obtain⟨rfl,rfl⟩:=c;obtain⟨u,q,l⟩:=Ke x;exact⟨u,q,l,.inr ⟨rfl,.inr<|.inl ⟨rfl,ob,f,B,rfl,rfl⟩⟩,fun r d=>d,fun h=>(by cases h),fun z=>by rw[(O3 z).2]at g;cases g⟩
   |false=>
    simp only[g,wg]at c;split at c
    case h_2=>cases c
    rename_i v1 G E;split at c
    case h_2=>cases c
    rename_i D x;obtain⟨u,q,l⟩:=Ke x;cases y:s.r.all (still C anc i G)with
    |false=>simp[y]at c
    |true=>
     simp only[y,we,ze,zl]at c;obtain⟨rfl,rfl⟩:=c;exact⟨u,q,l,.inr ⟨rfl,.inr<|.inr ⟨by simp[Cw,e,g],E⟩⟩,fun r d=>d,fun h=>(by cases h),fun _ r d=>zm.1 y r d⟩
theorem LQ{anc:Nat->Nat->Bool}:∀(L:List Nat) (s d:St),Sz C call ops anc L s=some d->
  ∃(c:Nat->St) (f:Nat->V),c 0=s/\c L.length=d/\∀(q i:Nat),L[q]?=some i->Hn C call ops anc i (c q)=some (f q,c<|q+1)
 |[],s,d,h=>by
  cases h;exact⟨fun _=>s,fun _=>.nilp,rfl,rfl,fun q i h=>by simp at h⟩
 |i::L,s,d,h=>by
  unfold Sz at h;split at h
  case h_2=>cases h
  rename_i v s1 o;obtain⟨c,f,h0,l,g⟩:=LQ L s1 d h;refine⟨fun q=>match q with|0=>s|q+1=>c q,fun q=>match q with|0=>v|q+1=>f q,rfl,by simpa using l,fun q j e=>?_⟩;cases q with
  |zero=>simp at e;subst e;simp only[h0];exact o
  |succ q=>simp at e;exact g q j e
theorem Yy{pl:Mc}(Y:Hm ops pl=true){W:St}(hd:Sz C call ops pl.a pl.ord ⟨fr,h,[]⟩=some W):
  ∃(v:Nat->V) (Hh:Nat->H) (F:Nat->Fr),Canon C call ops pl.a (idx pl.ord) (idx pl.pos) fr h v Hh F/\Hh ops.size=W.h/\F ops.size=W.f:=by
 have st:=WD Y;have hl:=gD Y;obtain⟨E,vq,h0,hn,hq⟩:=LQ pl.ord _ _ hd;have Dh:∀q,q<ops.size->Hn C call ops pl.a (idx pl.ord q) (E q)=some (vq q,E<|q+1):=by
  intro q l;refine hq q _ ?_;unfold idx;rw[zy,zZ<|by omega];rfl
 have M:∀q,q<=ops.size->(E q).f.n=fr.n:=by
  intro q;induction q with
  |zero=>intro _;rw[h0]
  |succ q U=>
   intro l;obtain⟨o,_,O,_⟩:=Dw (Dh q<|by omega);rw[O,U<|by omega]
 have D:∀q z,q<=z->z<=ops.size->∀r∈(E q).r,r∈(E z).r:=by
  intro q z hle;induction z with
  |zero=>
   intro _ r N;have:q=0:=by omega
   subst this;exact N
  |succ z U=>
   intro l r N;by_cases e:q=z+1
   ·subst e;exact N
   ·obtain⟨o,_,_,_,_,_,g,_⟩:=Dw (Dh z<|by omega);exact g r (U (by omega) (by omega) r N)
 refine⟨fun i=>vq<|idx pl.pos i,fun q=>(E q).h,fun q=>(E q).f,⟨by simp[h0],by simp[h0],M,fun q l o s t=>?_,fun i o t s ht=>?_,fun i o s=>?_,fun i j o oj s Z T L X hw hlt J=>?_⟩,by simp[<-hl,hn],by simp[<-hl,hn]⟩
 ·obtain⟨o',c,_,O,_⟩:=Dw<|Dh q l;rw[s]at c;cases c;simp only[(st.ordp q l).2];exact O t
 ·have d:=(zc.1 s).1;have I:=st.posp i d;obtain⟨o',c,_,_,g2,_⟩:=Dw<|Dh _ I.1;rw[I.2,s]at c;cases c;rw[<-M _ (yh I.1)];exact g2 t ht
 ·have d:=(zc.1 s).1;have I:=st.posp i d;obtain⟨o',c,_,_,_,g3,_⟩:=Dw<|Dh _ I.1;rw[I.2,s]at c;cases c;exact g3
 ·have d:=(zc.1 s).1;have R:=(zc.1 Z).1;have u:=st.posp i d;have A:=st.posp j R;obtain⟨o',c,_,_,_,_,_,g4,_⟩:=Dw<|Dh _ A.1;rw[A.2,Z]at c;cases c;have K:=D _ (idx pl.pos i) (by omega) (yh u.1) _<|g4 L X hw;obtain⟨o'',c,_,_,_,_,_,_,g5⟩:=Dw<|Dh _ u.1;rw[u.2,s]at c;cases c;have G:=g5 T _ K;unfold still at G;rw[A.2]at G;rw[u.2,J]at G;simp only[Bool.false_or]at G;split at G
  case h_2=>cases G
  rename_i x hx B;obtain⟨y,hy⟩:=rd_val L B;cases hy;rw[V.beq_eq G]at B;exact B
theorem N5(g:Hm ops (Ed ops)=true)(y:C.Ok P)(c:call.Ok C P)(q:P.follows .mixedOrders=true)(z:R p h w)(i:Gl C p)(o:Cr p fr a){fr':Fr}{h':H}(f:HG C call ops fr h=some (fr',h')){id:Nat}{ro:Option Nat}{t:Nat}{Q:Exit->Act->World->Prop}
  (A:∀p' e w',Cr p' fr' e->Ext p h w p' h' w'->e.defers=a.defers->Q .normal e w'):(yc id ops true).wpIn (FW ro) t P Q a w:=by
 unfold HG at f;split at f
 case h_2=>cases f
 rename_i s d;cases f;obtain⟨v,Hh,F,x,j,r⟩:=Yy g d;refine YB y c q (WD g) x z i o fun p' e w' l u B=>A p' e w' ?_ ?_ B
 ·rw[<-r];exact l
 ·rw[<-j];exact u
theorem XX(o:C.Ok P)(c:call.Ok C P)(j:P.follows .mixedOrders=true)(q:R p h w)(g:Gl C p)(i:Cr p fr a){fr':Fr}{h':H}(d:SH C call ops fr h=some (fr',h')){id:Nat}{ro:Option Nat}{l:Nat}{Q:Exit->Act->World->Prop}
  (r:∀p' f w',Cr p' fr' f->Ext p h w p' h' w'->f.defers=a.defers->Q .normal f w'):(yc id ops true).wpIn (FW ro) l P Q a w:=by
 unfold SH at d;cases e:Hm ops (Ed ops)with
 |false=>simp[e]at d
 |true=>
  simp only[e,we]at d;exact N5 e o c j q g i d r
end
section
variable {P:Program}{F:Fence}{n:Nat}{b:Frame}{a:Act}{k:List Item}{cs:List Frame}{w:World}{Q:Exit->Act->World->Prop}
theorem DE{c:Code}:step P (lone (b.atR a (.code (.scope c)::k)) cs w)=.next (lone (b.atR a (.code c:: .inScope c::k)) cs w):=
 step_lone_go (by simp[stepG,stepG.exec,Frame.atR])
theorem Pn{c:Code}:step P (lone (b.atR a (.inScope c::k)) cs w)=.next (lone (b.atR a k) cs w):=
 step_lone_go (by simp[stepG,stepG.exec,Frame.atR])
theorem IW{c:Code}(h:c.wpIn F n P (Exit.noGoto Q) a w):(Code.scope c).wpIn F n P Q a w:=by
 intro b k cs j r s;have h0:(lone (b.atR a (.code (.scope c)::k)) cs w).fenced P F:=fenced_calm r s rfl;obtain⟨e,g,f,i,d⟩:=h b (.inScope c::k) cs j r s;cases e with
 |normal=>exact⟨.normal,g,f,i,.head h0 DE<|StepsIn.trans d<|.one (fenced_calm r s rfl) Pn⟩
 |exit id=>
  have t:exitTo id (.inScope c::k)=exitTo id k:=by simp[exitTo]
  exact⟨.exit id,g,f,i,fun u q=>.head h0 DE (d.1 u<|by rw[t];exact q),
   fun o q=>let ⟨k₁,h1,h2⟩:=d.2 o (by rw[t];exact q);⟨k₁,h1,.head h0 DE h2⟩⟩
 |goto l=>exact i.elim
 |ret=>exact⟨_,g,f,i,.of_steps (.one h0 DE) d⟩
 |panic x=>exact⟨_,g,f,i,.of_steps (.one h0 DE) d⟩
 |outgrown=>exact⟨_,g,f,i,.of_steps (.one h0 DE) d⟩
end
structure X where
 e:DX
 fr:Fr
 h:H
 ds:List Nat
def UQ(ro:Option Nat)(fr:Fr)(h:H)(ps:Array Tmp)(asg body:Code)(ds:List Nat):Option (Nat×H×List Nat):=
 match ro with
 |none=>some (h.nx+1,(h.push<|.defd true).push<|.loop ⟨.ready,none,fr,ps,asg,body,h.nx⟩,h.nx::ds)
 |some b=>match h.get b with
  |some (.loop l)=>some (h.nx,h.push<|.loop ⟨.ready,none,fr,ps,asg,body,l.db⟩,ds)
  |_=>none
def By(C:Ctx)(call:Dc)(ro:Option Nat)(ct:Bool):Nat->Code->Fr->H->List Nat->Option (List X)
 |0,_,_,_,_=>none
 |m+1,c,fr,h,ds=>
  match c with
  | .skip| .label _=>some [⟨.normal,fr,h,ds⟩]
  | .region _ ops dr=>bif dr then(match (bif ct then HG C call ops fr h else SH C call ops fr h)with
    |some (fr',h')=>some [⟨.normal,fr',h',ds⟩]
    |none=>none)
   else(match Rn C call ops ops.toList fr h with
    |some l=>some<|l.map fun x=>⟨.normal,x.1,x.2,ds⟩
    |none=>none)
  | .seq a b=>match By C call ro ct m a fr h ds with
   |some l=>bl l fun x=>match x.e with
    | .normal=>By C call ro ct m b x.fr x.h x.ds
    |_=>some [x]
   |none=>none
  | .cond x a b=>match ev C fr x with
   |some (.bool true)=>By C call ro ct m a fr h ds
   |some (.bool false)=>By C call ro ct m b fr h ds
   |_=>none
  | .block id b=>match By C call ro ct m b fr h ds with
   |some l=>some<|l.map fun x=>match x.e with
    | .exit i=>bif zi i id then { x with e:=.normal }else x
    |_=>x
   |none=>none
  | .loop b=>match By C call ro ct m b fr h ds with
   |some l=>bl l fun x=>match x.e with
    | .normal=>By C call ro ct m (.loop b) x.fr x.h x.ds
    |_=>some [x]
   |none=>none
  | .exit i=>some [⟨.exit i,fr,h,ds⟩]
  | .ret=>some [⟨.ret,fr,h,ds⟩]
  | .scope b=>By C call ro ct m b fr h ds
  | .rangeFunc g ps asg body=>match UQ ro fr h ps asg body ds,ev C fr g with
   |some (b,j,d),some o=>match Kz C j o [.yld b]with
    |some (.enter f args)=>match call (.fn f args) j with
     |some l=>bl l fun x=>match x.2.get b with
      |some (.loop ls)=>match ls.st,ls.pend with
       | .busy,_=>none
       |_,none=>some [⟨.normal,fr,x.2.put b<|.loop { ls with st:=.exhausted },d⟩]
       |_,some c=>By C call ro false m c fr (x.2.put b<|.loop { ls with st:=.exhausted }) d
      |_=>none
     |none=>none
    |_=>none
   |_,_=>none
  |_=>none
def G7(p:Pl):List Nat->List Deferred->Prop
 |[],l=>l=[]
 |b::c,l=>∃r n l',p[b]?=some (r,n)/\l={ target:=.collected r,args:= #[] }::l'/\G7 p c l'
theorem GX{p:Pl}(q:Pl){b:Nat}{x:Nat×Nat}(h:p[b]?=some x):(p++q)[b]?=some x:=by
 rw[zL (List.getElem?_eq_some_iff.1 h).1];exact h
theorem G7.mono{p:Pl}(q:Pl):∀ {ds:List Nat} {l:List Deferred},G7 p ds l->G7 (p++q) ds l
 |[],_,h=>h
 |_b::_bs,_l,⟨r,n,l',c,e,d⟩=>⟨r,n,l',GX q c,e,d.mono q⟩
theorem G7.ext{p p':Pl}{h h':H}{w w':World}(e:Ext p h w p' h' w'){ds:List Nat}{l:List Deferred}(c:G7 p ds l):G7 p' ds l:=by
 obtain⟨q,rfl⟩:=e.pre;exact c.mono q
def Qb(p:Pl):Option Nat->Option Nat->Prop
 |none,none=>True
 |some b,some r=>∃n,p[b]?=some (r,n)
 |_,_=>False
theorem Qb.ext{p p':Pl}{h h':H}{w w':World}(e:Ext p h w p' h' w'){ro k:Option Nat}(c:Qb p ro k):Qb p' ro k:=by
 obtain⟨q,rfl⟩:=e.pre;cases ro with
 |none=>cases k with
  |none=>trivial
  |some r=>exact c.elim
 |some b=>
  cases k with
  |none=>exact c
  |some r=>obtain⟨n,d⟩:=c;exact⟨n,GX q d⟩
theorem Ext.at{p p':Pl}{h h':H}{w w':World}(e:Ext p h w p' h' w'){b:Nat}{x:Nat×Nat}(c:p[b]?=some x):p'[b]?=some x:=by
 obtain⟨q,rfl⟩:=e.pre;exact GX q c
section
variable {C:Ctx}{P:Program}{call:Dc}{ops:Array Oper}{p:Pl}{h:H}{w:World}{fr:Fr}{a:Act}
theorem Ii(e:R p h w)(y:Cr p fr a){ro k:Option Nat}(d:Qb p ro k){ps:Array Tmp}{asg body:Code}{ds i:List Nat}(j:G7 p ds a.defers){b:Nat}{f:H}
  (c:UQ ro fr h ps asg body ds=some (b,f,i)) (fn:FuncId):∃l mark z t n,(Instr.enterLoop fn a.tmps ps asg body k).run P w=.ok (l,mark) z/\Ext p h w t f z/\t[b]?=some (l,n)/\G7 t i (mark++a.defers):=by
 unfold UQ at c;cases ro with
 |none=>
  cases k with
  |some k=>exact d.elim
  |none=>
   simp only[ze,zl]at c;obtain⟨rfl,rfl,rfl⟩:=c;have A:=Ext.push (n:=0) e (o:=.defd true) (x:=.deferred<|some []) (by simp[GD]);have g:(p++[(w.heap.size,0)])[h.nx]?=some (w.heap.size,0):=by rw[<-e.len];simp
   have s:EA (p++[(w.heap.size,0)]) fr a.tmps:=EA.mono _ y;have q:=Ext.push (n:=0) A.rel (o:=.loop ⟨.ready,none,fr,ps,asg,body,h.nx⟩) (x:=.loop { state:=.ready,pending:=none,fn,tmps:=a.tmps,params:=ps,assign:=asg,body,defers:=w.heap.size })
    ⟨fn,a.tmps,_,_,s,g,rfl⟩
   refine⟨_,_,_,_,0,run_enterLoop_outer fn a.tmps ps asg body,A.trans q,?_,?_⟩
   ·have:h.nx+1=(p++[(w.heap.size,0)]).length:=by simp[e.len]
    rw[this,List.getElem?_append_right<|zo _];simp only[Nat.sub_self,List.getElem?_cons_zero,ze,zl,vc];simp
   ·exact⟨w.heap.size,0,a.defers,GX _ g,rfl,G7.mono _<|G7.mono _ j⟩
 |some D=>
  cases k with
  |none=>exact d.elim
  |some k=>
   simp only at c;split at c
   case h_2=>cases c
   rename_i B u;simp only[ze,zl]at c;obtain⟨rfl,rfl,rfl⟩:=c;obtain⟨n0,hn0⟩:=d;obtain⟨r',n',x,f,h2,f0,tmps,r,m,h3,h4,rfl⟩:=e.obj _ _ u;rw[hn0]at f;cases f;have q:=Ext.push (n:=0) e (o:=.loop ⟨.ready,none,fr,ps,asg,body,B.db⟩) (x:=.loop { state:=.ready,pending:=none,fn,tmps:=a.tmps,params:=ps,assign:=asg,body,defers:=r })
    ⟨fn,a.tmps,_,_,y,h4,rfl⟩
   refine⟨w.heap.size,[],_,_,0,?_,q,?_,?_⟩
   ·unfold Instr.enterLoop;simp only[zj,run_getLoop h2,run_newObj_alloc,zh,zn,World.alloc]
   ·rw[<-e.len];simp
   ·exact G7.mono _ j
theorem Result.TW{α d:Type}{r:Result α}{f:α->World->Result d}{b:d}{w':World}(h:r.andThen f=.ok b w'):∃a c,r=.ok a c/\f a c=.ok b w':=by
 cases r with
 |ok a c=>exact⟨a,c,rfl,h⟩
 |halt x c=>simp[Result.andThen]at h
theorem KJ(hC:C.Ok P)(G:call.Ok C P)(hm:P.follows .mixedOrders=true){ro k:Option Nat}{n:Nat}:∀(m:Nat) (ct:Bool) (c:Code) {fr:Fr} {h:H} {ds:List Nat} {L:List X},(ct=true->Dk c=true)->By C call ro ct m c fr h ds=some L->
  ∀(p:Pl) (a:Act) (w:World) (Q:Exit->Act->World->Prop),R p h w->Gl C p->Cr p fr a->G7 p ds a.defers->Qb p ro k->
   (∀x∈L,∀p' a' w',Cr p' x.fr a'->Ext p h w p' x.h w'->G7 p' x.ds a'.defers->Q x.e.Qn a' w')->
   c.wpIn (FW k) n P Q a w/\∀b,c=.loop b->Code.roundsIn (FW k) n P b Q m a w
 |0,ct,c,fr,h,ds,L,E,o=>by cases o
 |m+1,ct,c,fr,h,ds,L,E,o=>by
  intro p a w Q T M J B D K;have ih:∀ {ct:Bool} (c:Code) {fr:Fr} {h:H} {ds:List Nat} {L:List X},(ct=true->Dk c=true)->By C call ro ct m c fr h ds=some L->∀ {p:Pl} {a:Act} {w:World},R p h w->Gl C p->Cr p fr a->G7 p ds a.defers->Qb p ro k->
    ∀ {Q:Exit->Act->World->Prop},(∀x∈L,∀p' a' w',Cr p' x.fr a'->Ext p h w p' x.h w'->G7 p' x.ds a'.defers->Q x.e.Qn a' w')->
   c.wpIn (FW k) n P Q a w/\∀b,c=.loop b->Code.roundsIn (FW k) n P b Q m a w:=fun {ct} c {fr h ds L} E o {p a w} T M J B D {Q} K=>KJ hC G hm m ct c E o p a w Q T M J B D K
  cases c with
  |skip=>cases o;exact⟨wpIn_skip<|K _ (zf.2 rfl) p a w J (zU T) B,fun b I=>by cases I⟩
  |label l=>cases o;exact⟨wpIn_label<|K _ (zf.2 rfl) p a w J (zU T) B,fun b I=>by cases I⟩
  |region id ops dr=>
   refine⟨?_,fun b I=>by cases I⟩;simp only[By]at o;cases dr with
   |true=>
    simp only[we]at o;split at o
    case h_2=>cases o
    rename_i fr1 h1 hs;cases o;refine(show ∀ {Q':Exit->Act->World->Prop},(∀p' a' w',Cr p' fr1 a'->Ext p h w p' h1 w'->a'.defers=a.defers->Q' .normal a' w')->(yc id ops true).wpIn (FW k) n P Q' a w from fun {Q'} hq=>?_) fun O a1 N q j A=>K _ (zf.2 rfl) O a1 N q j<|A▸B.ext j
    cases ct with
    |false=>exact XX hC G hm T M J hs hq
    |true=>exact N5 (by simpa [Dk]using E rfl) hC G hm T M J hs hq
   |false=>
    simp only[wg]at o;split at o
    case h_2=>cases o
    rename_i l hs;cases o;exact Un hC G T M J hs fun x hx O a1 N q j A=>K _ (yi.2 ⟨x,hx,rfl⟩) O a1 N q j<|A▸B.ext j
  |seq x y=>
   refine⟨wpIn_seq ?_,fun b I=>by cases I⟩;simp only[By]at o;split at o
   case h_2=>cases o
   rename_i l hs;refine(ih x (fun e=>by have:=E e;simp[Dk]at this;exact this.1) hs T M J B D fun z hz O a1 N q j A=>?_).1;obtain⟨L1,Z,g2⟩:=H2 o z hz;cases t:z.e with
   |normal=>
    simp only[t]at Z;exact(ih y (fun e=>by have:=E e;simp[Dk]at this;exact this.2) Z j.rel (M.ext j) q A (D.ext j) fun u hu p2 a2 w2 U he2 Y=>K u (g2 u hu) p2 a2 w2 U (j.trans he2) Y).1
   |exit i=>
    simp only[t,ze]at Z;subst Z;have:=K z (g2 z<|zf.2 rfl) O a1 N q j A;rw[t]at this;exact this
   |ret=>
    simp only[t,ze]at Z;subst Z;have:=K z (g2 z<|zf.2 rfl) O a1 N q j A;rw[t]at this;exact this
  |cond x b1 b2=>
   refine⟨?_,fun b I=>by cases I⟩;simp only[By]at o;split at o
   case h_1=>
    rename_i hx;have hv:=AY M J hx;simp only[Ab]at hv;exact wpIn_cond_true hv (ih b1 (fun e=>by have:=E e;simp[Dk]at this;exact this.1) o T M J B D K).1
   case h_2=>
    rename_i hx;have hv:=AY M J hx;simp only[Ab]at hv;exact wpIn_cond_false hv (ih b2 (fun e=>by have:=E e;simp[Dk]at this;exact this.2) o T M J B D K).1
   case h_3=>cases o
  |block id b=>
   refine⟨wpIn_block ?_,fun b I=>by cases I⟩;simp only[By]at o;split at o
   case h_2=>cases o
   rename_i l hs;cases o;refine(ih b (fun e=>by have:=E e;simpa [Dk]using this) hs T M J B D fun z hz O a1 N q j A=>?_).1;have hq:=K _ (yi.2 ⟨z,hz,rfl⟩) O a1 N;cases t:z.e with
   |normal=>
    simp only[t]at hq;exact hq q j A
   |ret=>
    simp only[t]at hq;exact hq q j A
   |exit i=>
    simp only[t,Bf]at hq;by_cases ei:i=id
    ·simp only[ei,decide_true,we]at hq;simp only[DX.Qn,Exit.inBlock,ei,wk];exact hq q j A
    ·simp only[ei,decide_false,wg,t]at hq;simp only[DX.Qn,Exit.inBlock,ei,vf];exact hq q j A
  |loop b=>
   have key:Code.roundsIn (FW k) n P b Q (m+1) a w:=by
    rw[roundsIn_succ];simp only[By]at o;split at o
    case h_2=>cases o
    rename_i l hs;refine(ih b (fun e=>by have:=E e;simpa [Dk]using this) hs T M J B D fun z hz O a1 N q j A=>?_).1;obtain⟨L1,Z,g2⟩:=H2 o z hz;cases t:z.e with
    |normal=>
     simp only[t]at Z;exact(ih (.loop b) E Z j.rel (M.ext j) q A (D.ext j) fun u hu p2 a2 w2 U he2 Y=>K u (g2 u hu) p2 a2 w2 U (j.trans he2) Y).2 b rfl
    |exit i=>
     simp only[t,ze]at Z;subst Z;have:=K z (g2 z<|zf.2 rfl) O a1 N q j A;rw[t]at this;exact this
    |ret=>
     simp only[t,ze]at Z;subst Z;have:=K z (g2 z<|zf.2 rfl) O a1 N q j A;rw[t]at this;exact this
   exact⟨wpIn_loop_rounds (m+1) key,fun b' I=>by cases I;exact key⟩
  |exit i=>cases o;exact⟨wpIn_exit<|K _ (zf.2 rfl) p a w J (zU T) B,fun b I=>by cases I⟩
  |ret=>cases o;exact⟨wpIn_ret<|K _ (zf.2 rfl) p a w J (zU T) B,fun b I=>by cases I⟩
  |scope b=>
   refine⟨IW ?_,fun b I=>by cases I⟩;simp only[By]at o;refine(ih b (fun e=>by have:=E e;simpa [Dk]using this) o T M J B D fun z hz O a1 N q j A=>?_).1;have h1:=K z hz O a1 N q j A;cases t:z.e<;>rw[t]at h1<;>exact h1
  |rangeFunc g ps asg body=>
   refine⟨wpIn_rangeFunc fun fn _=>?_,fun b I=>by cases I⟩;simp only[By]at o;split at o
   case h_2=>cases o
   rename_i b h1 ds1 g' hen hgv;split at o
   case h_2=>cases o
   rename_i f args hdc;split at o
   case h_2=>cases o
   rename_i l hcl;obtain⟨r,mark,N,O,nb,q1,q2,q3,q4⟩:=Ii (P:=P) T J D B hen fn;have hyld:Aq O [.yld b] (#[Value.func (.yield r) #[] #[]]).toList:=by
    simp only[A5,Gb,vc];simp only[Ab];exact⟨r,nb,q3,rfl⟩
   obtain⟨args',s1,s2⟩:=Li hC q2.rel (M.ext q2) (q2.bZ<|AY M J hgv) hyld hdc;rw[zj]at s1;obtain⟨d,w1',s3,s4⟩:=Result.TW s1;refine⟨r,mark,N,d,w1',f,args',N,q1,?_,fun _ _=>trivial,s4,fun h=>(by simp[FW,zV]at h),U4.2<|(G.fn f args h1 l hcl O N args' q2.rel (M.ext q2) s2).mono ?_⟩
   ·unfold resolve;simpa [Act.eval]using s3
   ·rintro e w2 ⟨v,h2,v',p2,hmem,rfl,k1,k2⟩;obtain⟨L1,t1,t2⟩:=H2 o (v,h2) hmem;simp only at t1;split at t1
    case h_2=>cases t1
    rename_i ls hls;obtain⟨r',n',x,u1,u2,f0,tmps,rd,md,u3,u4,rfl⟩:=k2.rel.obj _ _ hls;have hpb:=k2.at q3;rw[hpb]at u1;cases u1;have hbusy:ls.st≠ .busy:=by
     intro e;rw[e]at t1;simp at t1
    obtain⟨W,hW,hput⟩:∃W,(Instr.endLoop r).run P w2=.ok ls.pend W/\Ext p2 h2 w2 p2 (h2.put b<|.loop { ls with st:=.exhausted }) W:=
     ⟨_,run_endLoop u2 hbusy,Ext.put k2.rel hls hpb (o':=.loop { ls with st:=.exhausted }) (x':=.loop { state:=.exhausted,pending:=ls.pend,fn:=f0,tmps,params:=ls.ps,assign:=ls.asg,body:=ls.body,defers:=rd }) ⟨f0,tmps,rd,md,u3,u4,rfl⟩ rfl rfl rfl rfl⟩
    have hex:=q2.trans<|k2.trans hput;refine⟨ls.pend,W,hW,?_⟩;have U:Cr p2 fr { a with defers:=mark++a.defers }:=Cr.ext (a:={ a with defers:=mark++a.defers }) J<|q2.trans k2;have Y:G7 p2 ds1 (mark++a.defers):=G7.ext k2 q4;split at t1
    case h_1=>cases t1
    case h_2=>
     rename_i hpe _;cases t1;simp only[hpe];exact K _ (t2 _<|zf.2 rfl) p2 _ _ U hex Y
    case h_3=>
     rename_i c hpe _;simp only[hpe];exact(ih c (fun e=>by cases e) t1 hput.rel (M.ext hex) U Y (D.ext hex) fun u hu p3 a3 w3 hf3 he3 hd3=>K u (t2 u hu) p3 a3 w3 hf3 (hex.trans he3) hd3).1
  |goto l=>simp[By]at o
  |refuse s=>simp[By]at o
end
section
variable {C:Ctx}{P:Program}{p:Pl}{h:H}{w:World}{fr:Fr}{a:Act}
def WE(C:Ctx)(fr:Fr)(h:H):ResultVar->Option V
 | .tmp t=>some<|fr.get t
 | .cell a t=>Ex C.T h t<|fr.get a
def MP(C:Ctx)(fr:Fr)(h:H):List ResultVar->Option (List V)
 |[]=>some []
 |r::c=>match WE C fr h r,MP C fr h c with
  |some v,some vs=>some (v::vs)
  |_,_=>none
def NA(C:Ctx)(fr:Fr)(h:H)(c:List ResultVar):Option V:=
 match MP C fr h c with
 |some [v]=>some v
 |some vs=>some<|.tup vs
 |none=>none
def jH(a:Act):ResultVar->Sem Value
 | .tmp t=>pure<|a.tmps.getD t undef
 | .cell x t=>do loadVar t (<-asAddr (a.tmps.getD x undef))
theorem UT(fn:Func)(a:Act):results fn a.tmps=(do let vs<-fn.results.mapM (jH a);pure (if h:vs.size=1 then vs[0]else .tuple vs)):=by
 unfold results;congr 1
theorem cP(l:C.T.Ok P)(s:R p h w)(g:Cr p fr a){r:ResultVar}{v:V}(c:WE C fr h r=some v):
  ∃v',(jH a r).run P w=.ok v' w/\Ab p v v':=by
 cases r with
 |tmp t=>cases c;exact⟨_,rfl,g.2 t⟩
 |cell x t=>
  simp only[WE]at c;obtain⟨v',j,o⟩:=SU (P:=P) l s (g.2 x) c;refine⟨v',?_,o⟩;have q:∃b i,fr.get x=.ptr b i:=by
   unfold Ex at c;split at c
   ·rename_i b off d i u y z;exact⟨b,off,u⟩
   ·cases c
  obtain⟨b,i,e⟩:=q;have f:=g.2 x;rw[e]at f;simp only[Ab]at f;obtain⟨r,n,_,f⟩:=f;rw[f]at j;simp only[jH,f];exact j
theorem R5(f:C.T.Ok P)(i:R p h w)(g:Cr p fr a):∀ {e:List ResultVar} {vs:List V},MP C fr h e=some vs->
  ∃c:List Value,(e.mapM<|jH a).run P w=.ok c w/\Aq p vs c
 |[],vs,d=>by cases d;exact⟨[],rfl,by simp⟩
 |r::e,vs,d=>by
  unfold MP at d;split at d
  case h_2=>cases d
  rename_i v s j o;cases d;obtain⟨v',l,q⟩:=cP (P:=P) f i g j;obtain⟨c,g3,g4⟩:=R5 f i g o;refine⟨v'::c,?_,(A5 ..).2 ⟨q,g4⟩⟩;rw[List.mapM_cons];simp only[zj];rw[l];simp only[zh,g3,zn]
theorem kW(j:C.T.Ok P)(r:R p h w)(o:Cr p fr a){fn:Func}{v:V}(d:NA C fr h fn.results.toList=some v):∃v',(results fn a.tmps).run P w=.ok v' w/\Ab p v v':=by
 unfold NA at d;cases g:MP C fr h fn.results.toList with
 |none=>simp[g]at d
 |some vs=>
  obtain⟨c,q,f⟩:=R5 (P:=P) j r o g;have i:=f.length;have e:(results fn a.tmps).run P w=.ok (if h:c.toArray.size=1 then c.toArray[0]else .tuple c.toArray) w:=by
   rw[UT];simp only[zj];rw[Array.mapM_eq_mapM_toList];simp only[Sem.run_map,q,zh,zn]
  refine⟨_,e,?_⟩;simp only[g]at d;cases vs with
  |nil=>
   cases d;have:c=[]:=List.length_eq_zero_iff.1 i.symm;subst this;simp[Ab]
  |cons x xs=>
   cases xs with
   |nil=>
    cases d;obtain⟨y,rfl,l⟩:=f.one;simpa using l
   |cons s xs=>
    cases d;rw[dif_neg<|by simp at i ⊢;omega];simp only[Ab];exact⟨_,rfl,f⟩
def SO:List V->Nat->PM V->PM V
 |[],_,m=>m
 |v::vs,i,m=>SO vs (i+1)<|m.set i<|some v
def Ly(n:Nat)(args:List V):Fr:=⟨args.length+(n-args.length),SO args 0 .leaf⟩
theorem KP:∀(vs:List V) (i:Nat) (m:PM V) (t:Nat),(SO vs i m).get t=if i<=t/\t<i+vs.length then vs[t-i]? else m.get t
 |[],i,m,t=>by simp[SO];omega
 |v::vs,i,m,t=>by
  unfold SO;rw[KP vs (i+1) _ t];by_cases e:t=i
  ·subst e;rw[wc (by omega),wd<|by simp];simp
  ·by_cases c:i+1<=t/\t<i+1+vs.length
   ·rw[wd c,wd<|by simp;omega];have:t-i=(t-(i+1))+1:=by omega
    rw[this];simp
   ·rw[wc c,wc<|by simp;omega];simp[e]
theorem cK{args:List V}{args':Array Value}(f:Aq p args args'.toList)(n:Nat):Cr p (Ly n args) { tmps:=args'++ya (n-args'.size) undef,defers:=[] }:=by
 have g:=f.length;simp at g;refine⟨by simp[Ly,g],fun t=>?_⟩;unfold Ly Fr.get;rw[KP];by_cases e:t<args.length
 ·rw[wd<|by omega];obtain⟨u,j,l⟩:=f.get (i:=t) (d:=args[t]) (by simp[e]);have c:args'[t]?=some u:=by simpa using j
  simp only[Nat.sub_zero,zZ e,z6];rw[zk,Array.getElem?_append_left (by omega),c];exact l
 ·rw[wc<|by omega];simp only[PM.CX,Option.getD_none];have:(args'++ya (n-args'.size) undef).getD t undef=undef:=by
   rw[zk,Array.getElem?_append_right<|by omega];rw[Array.getElem?_replicate];split<;>rfl
  rw[this];simp[Ab,undef]
def E8:List Nat->H->Option H
 |[],h=>some h
 |b::c,h=>match h.get b with
  |some (.defd true)=>E8 c<|h.put b<|.defd false
  |_=>none
theorem Pq{fn:Func}{tmps:Array Value}{n:Nat}:∀ {ds:List Nat} {l:List Deferred} {p:Pl} {h:H} {w:World} {g:H},G7 p ds l->R p h w->E8 ds h=some g->
  ∃e,Ext p h w p g e/\∀f:Ending->World->Prop,(∃v,(results fn tmps).run P e=.ok v e/\f (.returned v) e)->LeavesInM zV n P fn tmps f l .returning w
 |[],l,p,h,w,g,o,i,d=>by
  cases d;cases (show l=[]from o);exact⟨w,zU i,fun f hR=>hR⟩
 |b::t,l,p,h,w,g,o,i,d=>by
  unfold E8 at d;split at d
  case h_2=>cases d
  rename_i s;obtain⟨r,m,l',q,rfl,j⟩:=o;obtain⟨r',m',x,k1,k2,k3⟩:=i.obj _ _ s;rw[q]at k1;cases k1;simp only[GD,we]at k3;subst k3;have c:=Ext.put i s q (o':=.defd false) (x':=.deferred none) (by simp[GD]) (w':=w.putObj r<|.deferred none) rfl rfl rfl rfl;obtain⟨e,g1,g2⟩:=Pq (fn:=fn) (tmps:=tmps) (n:=n) j c.rel d;exact⟨e,c.trans g1,fun f hR=>⟨by simp,.inl ⟨r,_,rfl,run_takeDeferred k2,g2 f hR⟩⟩⟩
def Qr(C:Ctx)(m:Nat)(call:Dc)(b:Nat)(ls:LS)(fr:Fr)(h:H):Option (List<|V×H):=
 match By C call (some b) false m ls.asg fr h []with
 |some l=>bl l fun x=>match x.e,x.h.get b with
  | .normal,some (.loop d)=>match d.st with
   | .ready=>match By C call (some b) false m ls.body x.fr (x.h.put b<|.loop { d with st:=.busy }) x.ds with
    |some f=>bl f fun y=>match y.h.get b with
     |some (.loop c)=>match y.e with
      | .normal=>some [(.bool true,y.h.put b<|.loop { c with st:=.ready,pend:=none })]
      | .ret=>some [(.bool false,y.h.put b<|.loop { c with st:=.done,pend:=some .ret })]
      | .exit i=>some [(.bool false,y.h.put b<|.loop { c with st:=.done,pend:=some (.exit i) })]
     |_=>none
    |none=>none
   |_=>none
  |_,_=>none
 |none=>none
mutual
def KM:V->List Nat
 | .ptr b _| .sl b _ _ _ _| .map b| .yld b=>[b]
 | .fn _ a b=>HK a++HK b
 | .iface _ v=>KM v
 | .agg l| .tup l=>HK l
 |_=>[]
def HK:List V->List Nat
 |[]=>[]
 |v::vs=>KM v++HK vs
end
def hI:O->List Nat
 | .cells cs _ _=>HK cs
 | .map es _=>es.flatMap fun e=>KM e.1++KM e.2.1
 |_=>[]
def reach(h:H)(n0:Nat):Nat->List Nat->List Nat->List Nat
 |0,_,acc=>acc
 |_+1,[],acc=>acc
 |f+1,b::c,acc=>bif zz b n0||acc.any (zi b)then reach h n0 f c acc
  else match h.get b with
   |some o=>reach h n0 f (hI o++c) (b::acc)
   |none=>reach h n0 f c acc
def MC(Oy:List Nat):Nat->Nat->H->H
 |0,_,h=>h
 |f+1,b,h=>MC Oy f (b+1)<|bif Oy.any (zi b)then h else h.kill b
def ZI:O->Bool
 | .loop l=>match l.st with| .exhausted=>true|_=>false
 |_=>false
def S0:Option O->Option O
 |some o=>bif ZI o then none else some o
 |none=>none
def Q5:PM O->PM O
 | .leaf=>.leaf
 | .node l v r=>.node (Q5 l) (S0 v)<|Q5 r
theorem J8:∀(q:Gv) (m:PM O),q.get (Q5 m)=S0 (q.get m)
 |Gv.here,PM.leaf=>rfl
 |Gv.l _,PM.leaf=>rfl
 |Gv.r _,PM.leaf=>rfl
 |Gv.here,PM.node _ _ _=>rfl
 |Gv.l q,PM.node l _ _=>J8 q l
 |Gv.r q,PM.node _ _ r=>J8 q r
def H.Zo(h:H):H:=⟨Q5 h.m,h.nx⟩
theorem S5{p:Pl}{h:H}{w:World}(i:R p h w):Ext p h w p h.Zo w:=by
 have sub:∀b o,h.Zo.get b=some o->h.get b=some o:=by
  intro b o c;have:h.Zo.get b=S0 (h.get b):=J8 _ _;rw[this]at c;cases j:h.get b with
  |none=>rw[j]at c;cases c
  |some x=>
   rw[j]at c;unfold S0 at c;cases d:ZI x with
   |true=>simp[d]at c
   |false=>simpa [d]using c
 refine⟨⟨[],by simp⟩,⟨i.len,fun b o c=>i.obj b o<|sub b o c,fun b b' o o' r n n' c f=>i.inj b b' o o' r n n' (sub b o c)<|sub b' o' f⟩,zo _,fun _ _ _=>rfl,fun r d=>?_,rfl,rfl,rfl,fun r l q=>⟨rfl,?_⟩⟩
 ·obtain⟨b,o,n,e,g⟩:=d;exact .inl ⟨b,o,n,sub b o e,g⟩
 ·obtain⟨b,n,cs,t,fz,e,g,s⟩:=q;refine .inl ⟨b,n,cs,t,fz,?_,g,s⟩;rw[show h.Zo.get b=S0 (h.get b)from J8 _ _,e];rfl
def yR(n0:Nat)(x:V×H):V×H:=(x.1,MC (reach x.2 n0 1000 (KM x.1) []) (x.2.nx-n0) n0 x.2.Zo)
def Xz:List (V×V×Nat)->List (V×V×Nat)->Bool
 |[],[]=>true
 |(a,b,c)::l,(e,b',d)::l'=>V.beq a e&&V.beq b b'&&zi c d&&Xz l l'
 |_,_=>false
def NG:List Nat->List Nat->Bool
 |[],[]=>true
 |a::l,b::l'=>zi a b&&NG l l'
 |_,_=>false
def oV:O->O->Bool
 | .cells cs t fz,.cells cs' i fz'=>V.JF cs cs'&&zi t i&&zi fz.1 fz'.1&&zi fz.2 fz'.2
 | .map es c,.map d f=>Xz es d&&zi c f
 | .siter s n,.siter g n'=>s==g&&zi n n'
 | .miter none a l b,.miter none e l' b'=>zi a e&&NG l l'&&zi b b'
 | .miter (some m) a l b,.miter (some j) e l' b'=>zi m j&&zi a e&&NG l l'&&zi b b'
 | .defd a,.defd b=>a==b
 |_,_=>false
def P2:Option O->Option O->Bool
 |none,none=>true
 |some a,some b=>oV a b
 |_,_=>false
def On:PM O->PM O->Bool
 | .leaf,.leaf=>true
 | .node l v r,.node l' v' c=>P2 v v'&&On l l'&&On r c
 |_,_=>false
def Vh(x y:V×H):Bool:=V.beq x.1 y.1&&zi x.2.nx y.2.nx&&On x.2.m y.2.m
def dedup:List (V×H)->List (V×H)
 |[]=>[]
 |x::l=>let r:=dedup l;bif r.any (Vh x)then r else x::r
def OM(n0:Nat):List (V×H)->List (V×H)
 |[]=>[]
 |[x]=>[x]
 |l=>dedup<|l.map<|yR n0
theorem VY:∀ {a b:List (V×V×Nat)},Xz a b=true->a=b
 |[],[],_=>rfl
 |[],_::_,h=>by simp[Xz]at h
 |_::_,[],h=>by simp[Xz]at h
 |(a,b,c)::l,(e,b',d)::l',h=>by
  simp only[Xz,zd]at h;rw[V.beq_eq h.1.1.1,V.beq_eq h.1.1.2,zg h.1.2,VY h.2]
theorem M8:∀ {a b:List Nat},NG a b=true->a=b
 |[],[],_=>rfl
 |[],_::_,h=>by simp[NG]at h
 |_::_,[],h=>by simp[NG]at h
 |a::l,b::l',h=>by
  simp only[NG,zd]at h;rw[zg h.1,M8 h.2]
theorem VS{a b:O}(h:oV a b=true):a=b:=by
 unfold oV at h;split at h
 ·rename_i fz _ _ fz';simp only[zd]at h;obtain⟨⟨⟨c,f⟩,e⟩,d⟩:=h;rw[V.GG c,zg f,show fz=fz' from Prod.ext (zg e)<|zg d]
 ·simp only[zd]at h;rw[VY h.1,zg h.2]
 ·simp only[zd,wj]at h;rw[h.1,zg h.2]
 ·simp only[zd]at h;rw[zg h.1.1,M8 h.1.2,zg h.2]
 ·simp only[zd]at h;rw[zg h.1.1.1,zg h.1.1.2,M8 h.1.2,zg h.2]
 ·simp only[wj]at h;rw[h]
 ·cases h
theorem No:∀ {a b:PM O},On a b=true->a=b
 | .leaf,.leaf,_=>rfl
 | .leaf,.node _ _ _,h=>by simp[On]at h
 | .node _ _ _,.leaf,h=>by simp[On]at h
 | .node l v r,.node l' v' c,h=>by
  simp only[On,zd]at h;rw[No h.1.2,No h.2];congr 1;cases v<;>cases v'<;>first|rfl|exact wi some (VS h.1.1)|(simp[P2]at h)
theorem Yz{x y:V×H}(h:Vh x y=true):x=y:=by
 simp only[Vh,zd]at h;obtain⟨v,m,n⟩:=x;obtain⟨v',m',n'⟩:=y;have c:=V.beq_eq h.1.1;have d:=zg h.1.2;have e:=No h.2;simp only at c d e;rw[c,d,e]
theorem K4:∀ {l:List (V×H)} {x:V×H},x∈l->x∈dedup l
 |a::l,x,h=>by
  unfold dedup;simp only;cases c:(dedup l).any (Vh a)with
  |true=>
   simp only[we];rcases ye.1 h with rfl|h
   ·obtain⟨y,d,e⟩:=zR.1 c;rw[Yz e];exact d
   ·exact K4 h
  |false=>
   simp only[wg];rcases ye.1 h with rfl|h
   ·exact List.mem_cons_self
   ·exact List.mem_cons_of_mem _<|K4 h
theorem Ic(Oy:List Nat):∀(f b:Nat) {p:Pl} {h:H} {w:World},R p h w->Ext p h w p (MC Oy f b h) w
 |0,_,_,_,_,c=>zU c
 |f+1,b,p,h,w,c=>by
  unfold MC;cases Oy.any (zi b)with
  |true=>simp only[we];exact Ic Oy f (b+1) c
  |false=>simp only[wg];exact(Ext.kill c b).trans<|Ic Oy f (b+1)<|c.kill b
theorem F8.merge{l:List (V×H)}{n0:Nat}{e:Ending}{w':World}(i:F8 p h w l e w'):F8 p h w (OM n0 l) e w':=by
 obtain⟨v,h',v',p',d,g,f,c⟩:=i;unfold OM;split
 ·cases d
 ·exact⟨v,h',v',p',d,g,f,c⟩
 ·exact⟨v,(yR n0 (v,h')).2,v',p',K4<|yi.2 ⟨_,d,rfl⟩,g,f,c.trans<|(S5 c.rel).trans<|Ic _ _ _ (S5 c.rel).rel⟩
def Be(C:Ctx):Nat->Dc
 |0=>fun _ _=>none
 |n+1=>fun c h=>
  match c with
  | .rnd b ls fr=>Qr C n (Be C n) b ls fr h
  | .fn f args=>
   match C.spec f with
   |some q=>match q args h with
    |some x=>some [x]
    |none=>none
   |none=>
    match C.fn f with
    |none=>none
    |some i=>
     match By C (Be C n) none i.cert n i.body (Ly i.ntmps args) h []with
     |none=>none
     |some l=>match (bl l fun x=>match x.e with
      | .exit _=>none
      |_=>match E8 x.ds x.h with
       |some d=>match NA C x.fr d i.results.toList with
        |some v=>some [(v,d)]
        |none=>none
       |none=>none)with
      |some r=>some<|bif C.mg then OM h.nx r else r
      |none=>none
theorem LY(f:R p h w){b r n:Nat}{ls:LS}(e:h.get b=some (.loop ls))(d:p[b]?=some (r,n)):
  ∃rec:Loop,w.heap[r]?=some (.loop rec)/\rec.state=ls.st/\rec.pending=ls.pend/\∀(st:LoopState) (c:Option Code),Ext p h w p (h.put b<|.loop { ls with st:=st,pend:=c }) (w.putObj r<|.loop { rec with state:=st,pending:=c }):=by
 obtain⟨l,n',x,u1,u2,f0,tmps,rd,i,j,g,rfl⟩:=f.obj _ _ e;rw[d]at u1;cases u1;exact⟨_,u2,rfl,rfl,fun st c=>Ext.put f e d (o':=.loop { ls with st:=st,pend:=c }) ⟨f0,tmps,rd,i,j,g,rfl⟩ rfl rfl rfl rfl⟩
theorem PI(X:C.Ok P){call:Dc}(g:call.Ok C P)(W:P.follows .mixedOrders=true){b:Nat}{ls:LS}{l:List (V×H)}{k m E:Nat}(s:Qr C E call b ls fr h=some l){f:FuncId}{tmps:Array Value}
  (hr:R p h w) (O:Gl C p) (t:p[b]?=some (k,m)) (Z:EA p fr tmps):RoundIn zV 0 P k f tmps ls.asg ls.body w (F8 p h w l):=by
 unfold Qr at s;split at s
 case h_2=>cases s
 rename_i L hL;refine roundIn_of_wpIn trivial ?_;refine(KJ (k:=some k) (n:=0) X g W E false ls.asg (fun e=>by cases e) hL p { tmps:=tmps,defers:=[] } w _ hr O Z rfl ⟨m,t⟩ fun x Y D a1 U A c K=>?_).1;obtain⟨L1,o,z⟩:=H2 s x Y;split at o
 case h_2=>cases o
 rename_i G N u;split at o
 case h_2=>cases o
 rename_i M;split at o
 case h_2=>cases o
 rename_i L2 B;rw[N];obtain⟨rec,q1,q2,q3,q4⟩:=LY c.rel u<|c.at t;have e2:=q4 .busy G.pend;refine⟨_,run_beginRound q1<|q2.trans M,?_⟩;have r:Ext D x.h U D (x.h.put b<|.loop { G with st:=.busy }) (U.putObj k<|.loop { rec with state:=.busy }):=by
  have:({ rec with state:=.busy }:Loop)={ rec with state:=.busy,pending:=G.pend }:=by rw[<-q3]
  rw[this];exact e2
 have ex:=c.trans r;refine(KJ (k:=some k) (n:=0) X g W E false ls.body (fun e=>by cases e) B D a1 _ _ r.rel (O.ext ex) A K ⟨m,c.at t⟩ fun y hy J a2 w2 hf2 d hd2=>?_).1;obtain⟨L3,j,t2⟩:=H2 o y hy;split at j
 case h_2=>cases j
 rename_i l3 I;obtain⟨T,s1,s2,s3,s4⟩:=LY d.rel I<|d.at (c.at t);cases q:y.e with
 |normal=>
  simp only[q,ze]at j;subst j;exact⟨_,_,run_endRound none s1,.bool true,_,.bool true,J,z _<|t2 _<|zf.2 rfl,rfl,by simp[Ab],ex.trans<|d.trans<|s4 .ready none⟩
 |ret=>
  simp only[q,ze]at j;subst j;exact⟨_,_,run_endRound (some .ret) s1,.bool false,_,.bool false,J,z _<|t2 _<|zf.2 rfl,rfl,by simp[Ab],ex.trans<|d.trans<|s4 .done<|some .ret⟩
 |exit i=>
  simp only[q,ze]at j;subst j;exact⟨_,_,run_endRound (some<|.exit i) s1,.bool false,_,.bool false,J,z _<|t2 _<|zf.2 rfl,rfl,by simp[Ab],ex.trans<|d.trans<|s4 .done<|some<|.exit i⟩
def FI(C:Ctx):Prop:=∀f i,C.fn f=some i->i.cert=true->Dk i.body=true
theorem HY(s:C.Ok P)(t:FI C)(z:P.follows .mixedOrders=true):∀n,(Be C n).Ok C P
 |0=>⟨fun f args h l c=>(by cases c),fun b ls fr h l c=>(by cases c)⟩
 |n+1=>by
  refine⟨fun f args h l c p w args' A y O=>?_,fun b ls fr h l c p w k m f tmps A y hb Z W=>PI s (HY s t z n) z c A y Z W⟩;unfold Be at c;simp only at c;split at c
  case h_1=>
   rename_i q hq;split at c
   case h_2=>cases c
   rename_i x B;cases c;refine(s.spec f q hq p h w args args' x.1 x.2 A y O B).mono ?_;rintro e w' ⟨v',p',rfl,g,G⟩;exact⟨x.1,x.2,v',p',zf.2 rfl,rfl,g,G⟩
  case h_2=>
   split at c
   case h_1=>cases c
   rename_i i U;split at c
   case h_1=>cases c
   rename_i L X;split at c
   case h_2=>cases c
   rename_i J K;cases c;refine Calls.mono ?_ (fun e w' R=>(show F8 p h w (bif C.mg then OM h.nx J else J) e w' from by cases C.mg with|true=>exact F8.merge R|false=>exact R));have c:=K;generalize J=l at c;obtain⟨fn,r,Y,h3,h4,h5⟩:=s.fn f i U;have h6:=t f i U;refine callsIn_wide.1<|callsIn_of_wp_marks (F:=zV) (n:=0) r h3 trivial ?_;rw[h4];refine(KJ (k:=none) (n:=0) s (HY s t z n) z n i.cert i.body h6 X p _ w _ A y (cK O i.ntmps) rfl trivial fun x B p1 a1 w1 I u M=>?_).1;obtain⟨L1,g,G⟩:=H2 c x B;have fin:∀ {r:H} {v:V},E8 x.ds x.h=some r->NA C x.fr r i.results.toList=some v->L1=[(v,r)]->LeavesInM zV 0 P fn a1.tmps (F8 p h w l) a1.defers .returning w1:=by
    intro r v o d D;subst D;obtain⟨w2,q1,q2⟩:=Pq (P:=P) (fn:=fn) (tmps:=a1.tmps) (n:=0) M u.rel o;obtain⟨v',s1,s2⟩:=kW (P:=P) (fn:=fn) s.T q1.rel (I.ext q1) (by rw[h5];exact d);exact q2 _ ⟨v',s1,v,r,v',p1,G _<|zf.2 rfl,rfl,s2,u.trans q1⟩
   split at g
   case h_1=>cases g
   case h_2=>
    rename_i N;split at g
    case h_2=>cases g
    rename_i Y o;split at g
    case h_2=>cases g
    rename_i v d;cases g;cases E:x.e with
    |normal=>exact fin o d rfl
    |ret=>exact fin o d rfl
    |exit j=>exact wh E<|N j
end
def Za(P:Program)(t:TypeId):Option TI:=
 match P.info? t with
 |some i=>match i.zero with
  |some z=>match cv z with
   |some v=>some ⟨i.size,i.bytes,v⟩
   |none=>none
  |none=>none
 |none=>none
theorem aQ{P:Program}{t:TypeId}{i:TI}(h:Za P t=some i):∃j v,P.info? t=some j/\j.size=i.size/\j.bytes=i.bytes/\j.zero=some v/\∀p,Ab p i.zv v:=by
 unfold Za at h;split at h
 case h_2=>cases h
 rename_i j c;split at h
 case h_2=>cases h
 rename_i z d;split at h
 case h_2=>cases h
 rename_i v e;cases h;exact⟨j,z,c,rfl,rfl,d,fun p=>TN p e⟩
def jV(P:Program)(t:TypeId):Option FK:=
 match P.underlying t with
 |some (.int k)=>some<|.int k
 |some .string=>some .str
 |some .bool=>some .bool
 |_=>none
def Nw(P:Program):List Field->Nat->Option (List FK)
 |[],_=>some []
 | f :: fs, i => if f.name = "_" \/ f.offset ≠ i then none else match jV P f.type, Nw P fs (i + 1) with
  |some k,some ks=>some (k::ks)
  |_,_=>none
def U7(P:Program)(t:TypeId):Option (List FK):=
 match P.underlying t with
 |some (.struct fs)=>if P.stoodInHeld t=true\/P.eqGuardType P.depth t=true then none else Nw P fs.toList 0
 |_=>none
def dY:TypeDesc->Bool
 | .pointer _=>false
 |_=>true
def dQ(P:Program)(t:TypeId)(name:String):Option FuncId:=
 match P.info? t,P.underlying t with
 |some j,some d=>match j.methods.find? (·.name==name)with
  |some m=>match m.path,m.func with
   |⟨[]⟩,some (f,false)=>bif dY d then some f else none
   |_,_=>none
  |none=>none
 |_,_=>none
theorem Z3{P:Program}{t:TypeId}{name:String}{f:FuncId}(h:dQ P t name=some f):∃j m d,P.info? t=some j/\j.methods.find? (·.name==name)=some m/\m.path= #[]/\m.func=some (f,false)/\P.underlying t=some d/\∀e,d≠ .pointer e:=by
 unfold dQ at h;split at h
 case h_2=>cases h
 rename_i j d g l;split at h
 case h_2=>cases h
 rename_i m q;split at h
 case h_2=>cases h
 rename_i s i r;cases c:dY d with
 |false=>rw[c]at h;cases h
 |true=>
  rw[c]at h;simp only[we,ze]at h;subst h;exact⟨j,m,d,g,q,i,r,l,fun e o=>by subst o;cases c⟩
def mA(P:Program):BR:=⟨P.underlying,Za P,U7 P,dQ P⟩
section
variable {P:Program}{p:Pl}
theorem Nx{t:TypeId}{k:FK}(h:jV P t=some k):∃d,P.underlying t=some d/\DB d=false/\(∀f,d≠ .interface f)/\match k with
  | .int k=>d=.int k
  | .str=>d=.string
  | .bool=>d=.bool:=by
 unfold jV at h;split at h
 case h_1=>rename_i c;cases h;exact⟨_,c,rfl,fun _ e=>(by cases e),rfl⟩
 case h_2=>rename_i c;cases h;exact⟨_,c,rfl,fun _ e=>(by cases e),rfl⟩
 case h_3=>rename_i c;cases h;exact⟨_,c,rfl,fun _ e=>(by cases e),rfl⟩
 case h_4=>cases h
theorem NV{t:TypeId}{d:TypeDesc}(f:P.underlying t=some d)(e:DB d=false){cs:Array Value}{i:Nat}{v:Value}(g:cs[i]?=some v)(w:World):(part t cs i).run P w=.ok v w:=by
 unfold part isAgg;have c:(underlying t).run P w=.ok d w:=by unfold underlying;simp[f]
 simp only[zj,c,zh];cases d<;>first|(cases e;done)|simp[g]
theorem V3{t:TypeId}{k:FK}(h:jV P t=some k){a b:V}{o b':Value}(f:k.ok a=true)(g:k.ok b=true)(e:Ab p a o)(c:Ab p b b'){r:Bool}(j:Dj a b=some r)(d:Nat)(w:World):
  (Op.equalIn (d+1) t o b').run P w=.ok r w:=by
 obtain⟨D,l,_,_,i⟩:=Nx h;cases k with
 |int k=>
  simp only at i;subst i;cases a<;>simp only[FK.ok]at f<;>try (cases f;done)
  cases b<;>simp only[FK.ok]at g<;>try (cases g;done)
  simp only[Ab]at e c;subst e c;simp at f g;subst f g;simp[Dj]at j;rw[run_equalIn_int w d t _ _ _ _ l,j]
 |str=>
  simp only at i;subst i;cases a<;>simp only[FK.ok]at f<;>try (cases f;done)
  cases b<;>simp only[FK.ok]at g<;>try (cases g;done)
  simp only[Ab]at e c;subst e c;simp only[Dj,ze]at j;rw[run_equalIn_string w d t _ _ l,Fl,Fl,j]
 |bool=>
  simp only at i;subst i;cases a<;>simp only[FK.ok]at f<;>try (cases f;done)
  cases b<;>simp only[FK.ok]at g<;>try (cases g;done)
  simp only[Ab]at e c;subst e c;simp only[Dj,ze]at j;rw[run_equalIn_bool' w d t _ _ l,j]
theorem QS:∀ {ks:List FK} {x:List V},fit ks x=true->ks.length=x.length
 |[],[],_=>rfl
 |[],_::_,h=>by simp[fit]at h
 |_::_,[],h=>by simp[fit]at h
 |k::ks,v::vs,h=>by
  unfold fit at h;cases c:k.ok v with
  |false=>simp[c]at h
  |true=>simp only[c,we]at h;simp[QS h]
theorem JL(d:Nat){w:World}{x' y':Array Value}:∀ {fs:List Field} {i:Nat} {ks:List FK},Nw P fs i=some ks->∀ {x y:List V} {u v:List Value},fit ks x=true->fit ks y=true->Aq p x u->Aq p y v->
  (∀j a,u[j]?=some a->x'[i+j]?=some a)->(∀j a,v[j]?=some a->y'[i+j]?=some a)->∀ {r:Bool},BK x y=some r->(Op.eqFields (d+1) x' y' fs).run P w=.ok r w
 |[],i,ks,g,x,y,u,v,t,o,_,_,_,_,r,l=>by
  cases g;cases x with
  |cons _ _=>simp[fit]at t
  |nil=>cases y with
   |cons _ _=>simp[fit]at o
   |nil=>simp[BK]at l;subst l;simp[Op.eqFields]
 |f::fs,i,ks,g,x,y,u,v,t,o,W,U,R,T,r,l=>by
  unfold Nw at g;split at g
  case isTrue=>cases g
  rename_i E;have G : f.name ≠ "_" := fun e => E (.inl e)
  have z:f.offset=i:=zM fun e=>E (.inr e)
  split at g
  case h_2=>cases g
  rename_i k B I X;cases g;cases x with
  |nil=>simp[fit]at t
  |cons a x=>cases y with
   |nil=>simp[fit]at o
   |cons b y=>
    simp only[Aq]at W U;obtain⟨Y,u',rfl,A,K⟩:=W;obtain⟨b',v',rfl,hv1,hv2⟩:=U;have M:k.ok a=true:=by unfold fit at t;cases g:k.ok a with|false=>simp[g]at t|true=>rfl
    have L:k.ok b=true:=by unfold fit at o;cases g:k.ok b with|false=>simp[g]at o|true=>rfl
    have Z:fit B x=true:=by unfold fit at t;rw[M]at t;exact t
    have fy:fit B y=true:=by unfold fit at o;rw[L]at o;exact o
    obtain⟨D,s,q,_,_⟩:=Nx I;have O:=NV s q (R 0 Y rfl) w;have pb:=NV s q (T 0 b' rfl) w;simp only[yj]at O pb;simp only[Op.eqFields,G,wm,not_false_eq_true,wk,zj,z,O,pb,zh];unfold BK at l;split at l
    case h_1=>
     rename_i N;rw[V3 I M L A hv1 N];simp only[zh,Bool.not_true,zu,vf];exact JL d X Z fy K hv2 (fun j c J=>by have:=R (j+1) c (by simpa using J);rwa [show i+1+j=i+(j+1)from by omega]) (fun j c J=>by have:=T (j+1) c (by simpa using J);rwa [show i+1+j=i+(j+1)from by omega]) l
    case h_2=>
     rename_i N;rw[V3 I M L A hv1 N];split at l
     ·cases l;simp
     ·cases l
    case h_3=>cases l
theorem Je{b:Bool}{w:World}{x':Array Value}:∀ {fs:List Field} {i:Nat} {ks:List FK},Nw P fs i=some ks->∀ {x:List V} {u:List Value},fit ks x=true->Aq p x u->
  (∀j a,u[j]?=some a->x'[i+j]?=some a)->
  (forIn (m := Sem) fs PUnit.unit fun f _ => if f.name ≠ "_" then do
    zW b 9999 f.type (<-part f.type x' f.offset)
    pure (ForInStep.yield yf)
   else do
    pure yf
    pure (ForInStep.yield yf)).run P w=.ok yf w
 |[],i,ks,d,x,u,q,_,_=>by simp
 |f::fs,i,ks,d,x,u,q,K,I=>by
  unfold Nw at d;split at d
  case isTrue=>cases d
  rename_i s;have t : f.name ≠ "_" := fun e => s (.inl e)
  have r:f.offset=i:=zM fun e=>s (.inr e)
  split at d
  case h_2=>cases d
  rename_i k y L M;cases d;cases x with
  |nil=>simp[fit]at q
  |cons a x=>
   simp only[Aq]at K;obtain⟨E,U,rfl,N,z⟩:=K;have R:k.ok a=true:=by unfold fit at q;cases d:k.ok a with|false=>simp[d]at q|true=>rfl
   have T:fit y x=true:=by unfold fit at q;rw[R]at q;exact q
   obtain⟨D,l,g,A,_⟩:=Nx L;have G:=NV l g (I 0 E rfl) w;simp only[yj]at G;have B:(zW b 9999 f.type E).run P w=.ok () w:=by
    unfold zW;have o:(underlying f.type).run P w=.ok D w:=by unfold underlying;simp[l]
    simp only[zj,o,zh];cases D<;>first|rfl|(cases g;done)|exact wh rfl (A _)
   have J:=Je (b:=b) (w:=w) (x':=x') M T z (fun j c O=>by have:=I (j+1) c (by simpa using O);rwa [show i+1+j=i+(j+1)from by omega]);simp only[List.forIn_cons,t,wm,not_false_eq_true,wk,zj,r,G,B,zh,zn]at J ⊢;exact J
theorem qP(P:Program):(mA P).Ok P:=by
 have key:∀t ks,U7 P t=some ks->∃fs,P.underlying t=some (.struct fs)/\P.stoodInHeld t=false/\P.eqGuardType P.depth t=false/\Nw P fs.toList 0=some ks:=by
  intro t ks h;unfold U7 at h;split at h
  case h_2=>cases h
  rename_i fs c;split at h
  case isTrue=>cases h
  rename_i g;refine⟨fs,c,?_,?_,h⟩
  ·cases A:P.stoodInHeld t with
   |false=>rfl
   |true=>exact wh (.inl A) g
  ·cases A:P.eqGuardType P.depth t with
   |false=>rfl
   |true=>exact wh (.inr A) g
 refine⟨fun t d h=>h,fun t i h=>aQ h,?_,?_,?_,?_,fun t name f h=>Z3 h⟩
 ·intro t ks h p x y x' y' r w B G s E D;obtain⟨fs,c,u,z,q⟩:=key t ks h;have o:P.fieldsOf t=fs:=by unfold Program.fieldsOf;rw[c]
  unfold Op.equal Op.maxDepth;rw[run_equalIn_struct w 9999 t x' y' (by rw[o];exact c) u,o];exact JL 9998 q B G s E (fun j a l=>by simpa using l) (fun j a l=>by simpa using l) D
 ·intro t ks h;obtain⟨fs,c,u,z,q⟩:=key t ks h;exact z
 ·intro t ks h p x x' b w B s;obtain⟨fs,c,u,z,q⟩:=key t ks h;unfold zW;have e:(underlying t).run P w=.ok (.struct fs) w:=by unfold underlying;simp[c]
  simp only[zj,e,zh];rw[<-Array.forIn_toList];have:=Je (b:=b) (w:=w) (x':=x') q B s (fun j a l=>by simpa using l);simp only[this,zh,zn]
 ·intro t ks h;obtain⟨fs,c,_⟩:=key t ks h;exact⟨fs,c⟩
end
def O7(P:Program)(ct:FuncId->Bool)(f:FuncId):Option Fn:=
 match P.funcs[f]? with
 |some fn=>match fn.body with
  | some b => if fn.name = "runtime.NumGoroutine" then none else some ⟨fn.ntmps, fn.results, b, ct f⟩
  |none=>none
 |none=>none
theorem lD {P : Program} {ct : FuncId -> Bool} {f : FuncId} {i : Fn} (h : O7 P ct f = some i) : ∃ fn, P.funcs[f]? = some fn /\ fn.name ≠ "runtime.NumGoroutine" /\ fn.body = some i.body /\ fn.ntmps = i.ntmps /\ fn.results = i.results := by
 unfold O7 at h;split at h
 case h_2=>cases h
 rename_i fn c;split at h
 case h_2=>cases h
 rename_i b e;split at h
 case isTrue=>cases h
 rename_i d;cases h;exact⟨fn,c,d,e,rfl,rfl⟩
inductive PK where
 |indexByte
 |add64
 |sub64
 |count
 |noEsc
def OH:Array Value->Sem Value:=fun args=>do
 let (x, y, b) <- Extern.MathBitsCarry.three "Sub64" args
 pure (zN ((x+zr-y-b) % zr) (if x<y+b then 1 else 0))
def PK.entry:PK->Array Value->Sem Value
 | .indexByte=>Extern.BytealgIndexByte.indexByte
 | .add64=>add64Entry
 | .sub64=>OH
 | .count=>Extern.BytealgCount.count
 | .noEsc=>Extern.AbiNoEscape.same
def RX:Option Nat->V
 |some i=>i64 i
 |none=>.int .i64<| -1
def Yl:Nat:=18446744073709551616
def PK.run:PK->List V->H->Option (V×H)
 | .indexByte,[.str s,.int .u8 c],h=>some (RX<|s.findIdx? fun x=>x==c.toNat.toUInt8,h)
 | .add64,[.int .u64<|.ofNat x,.int .u64<|.ofNat y,.int .u64<|.ofNat c],h=>
  bif yg c 1 then some (.tup [.int .u64<|.ofNat<|(x+y+c) % Yl,.int .u64<|.ofNat<|(x+y+c)/Yl],h)else none
 | .sub64,[.int .u64<|.ofNat x,.int .u64<|.ofNat y,.int .u64<|.ofNat c],h=>
  bif yg c 1 then some (.tup [.int .u64<|.ofNat<|(x+Yl-y-c) % Yl,.int .u64<|.ofNat<|bif zz x (y+c)then 1 else 0],h)else none
 | .count,[.str s,.int .u8 c],h=>some (.int .i64 (s.foldl (fun n x=>bif x==c.toNat.toUInt8 then Nat.add n 1 else n) 0:Nat),h)
 | .noEsc,[.ptr b o],h=>some (.ptr b o,h)
 |_,_,_=>none
theorem O8(s:Z)(c:UInt8):((zq (bytesOf s).size).find? fun i=>(bytesOf s)[i]! ==c)=s.findIdx? fun x=>x==c:=by
 have key:∀(l pre:Z),pre++l=s->((List.range' pre.length l.length).find? fun i=>(bytesOf s)[i]! ==c)=(l.findIdx? fun x=>x==c).map (· +pre.length):=by
  intro l;induction l with
  |nil=>intro pre _;simp
  |cons a l g=>
   intro pre e;have d:(bytesOf s)[pre.length]! =a:=by
    subst e;rw[getElem!_pos _ _<|by simp[Bv]];simp[bytesOf,ByteArray.getElem_eq_getElem_data]
   rw[zt,List.range'_succ,List.find?_cons,d,List.findIdx?_cons];cases f:a==c with
   |true=>simp
   |false=>
    have:=g (pre++[a]) (by simpa using e);simp only[List.length_append,List.length_singleton]at this;simp only[this,zu,vf,Option.map_map];congr 1;funext k;simp;omega
 have:=key s [] rfl;simp only[List.length_nil,yj]at this;rw[List.range_eq_range',Bv,this];simp
theorem Aq.three{p:Pl}{a b c:V}{l:List Value}(h:Aq p [a,b,c] l):∃x y z,l=[x,y,z]/\Ab p a x/\Ab p b y/\Ab p c z:=by
 simp only[Aq]at h;obtain⟨x,j,rfl,d,y,i,rfl,e,z,g,rfl,f,rfl⟩:=h;exact⟨x,y,z,rfl,d,e,f⟩
theorem PK.zI{P:Program}{k:PK}{p:Pl}{h:H}{w:World}{args:List V}{args':Array Value}{v:V}{h':H}(i:Aq p args args'.toList)(d:k.run args h=some (v,h')):
  h'=h/\∃v',(k.entry args').run P w=.ok v' w/\Ab p v v':=by
 unfold PK.run at d;split at d
 case h_6=>cases d
 case h_5=>
  rename_i b o;cases d;obtain⟨x,g,e⟩:=i.one;have:args'= #[x]:=zK.1 g;subst this;exact⟨rfl,x,Lib.run_noEscape w x,e⟩
 case h_1=>
  rename_i s c;cases d;obtain⟨x,y,g,e,f⟩:=i.two;have:args'= #[x,y]:=zK.1 g;subst this;simp only[Ab]at e f;subst e f;refine⟨rfl,_,run_indexByte_string (bytesOf s) c w,?_⟩;unfold firstIdx;rw[O8];cases s.findIdx? fun x=>x==c.toNat.toUInt8<;>simp[RX,i64,Ab]
 case h_2=>
  rename_i x y c;rw[show yg c 1=decide (c<=1)from by rw[Bool.eq_iff_iff];simp]at d;by_cases j:c<=1
  ·simp only[j,decide_true,we,ze,zl]at d;obtain⟨rfl,rfl⟩:=d;obtain⟨x',y',z',g,e,f,h3⟩:=i.three;have:args'= #[x',y',z']:=zK.1 g;subst this;simp only[Ab]at e f h3;subst e f h3;refine⟨rfl,_,run_add64 x y c (by omega) (by omega) (by omega) (by omega) w,?_⟩;simp only[Ab];refine⟨_,rfl,?_⟩;simp only[A5,Gb,vc,Ab];exact⟨by simp[Yl],by simp[Yl]⟩
  ·simp[j]at d
 case h_3=>
  rename_i x y c;rw[show yg c 1=decide (c<=1)from by rw[Bool.eq_iff_iff];simp]at d;by_cases j:c<=1
  ·simp only[j,decide_true,we,ze,zl]at d;obtain⟨rfl,rfl⟩:=d;obtain⟨x',y',z',g,e,f,h3⟩:=i.three;have:args'= #[x',y',z']:=zK.1 g;subst this;simp only[Ab]at e f h3;subst e f h3;have key:(OH #[.int .u64 x,.int .u64 y,.int .u64 c]).run P w=
     .ok (zN ((x+zr-y-c) % zr)<|if x<y+c then 1 else 0) w:=by
    have:c=0\/c=1:=by omega
    rcases this with rfl|rfl<;>rfl
   refine⟨rfl,_,key,?_⟩;simp only[Ab,zN];refine⟨_,rfl,?_⟩;simp only[A5,Gb,vc,Ab];refine⟨rfl,?_⟩;rw[Gz];by_cases q:x<y+c<;>simp[q]
  ·simp[j]at d
 case h_4=>
  rename_i s c;cases d;obtain⟨x,y,g,e,f⟩:=i.two;have:args'= #[x,y]:=zK.1 g;subst this;simp only[Ab]at e f;subst e f;refine⟨rfl,_,Lib.run_countString (bytesOf s) c w,?_⟩;have key:∀(l:Z) (n:Nat),l.foldl (fun n x=>bif x==c.toNat.toUInt8 then Nat.add n 1 else n) n=n+Lib.countByte l c.toNat.toUInt8:=by
   intro l;induction l with
   |nil=>intro n;simp[Lib.countByte]
   |cons x l r=>
    intro n;rw[List.foldl_cons,r];unfold Lib.countByte;rw[List.count_cons];cases t:x==c.toNat.toUInt8 with
    |true=>simp only[we,wk];show n+1+_=_;omega
    |false=>simp
  simp only[Ab,key,Nat.zero_add];simp[bytesOf]
def Rg(L:List (FuncId×PK))(f:FuncId):Option (List V->H->Option (V×H)):=
 match L with
 |[]=>none
 |(g,k)::L=>bif zi g f then some k.run else Rg L f
structure Jk(P:Program)(x:FuncId×PK):Prop where
 ok : ∃ fn, P.funcs[x.1]? = some fn /\ (fn.name == "runtime.NumGoroutine") = false /\ fn.body.isNone = true /\ Extern.findNext fn = none /\ Extern.find fn = some x.2.entry
theorem Vk{P:Program}:∀ {L:List (FuncId×PK)},(∀x∈L,Jk P x)->∀f q,Rg L f=some q->∀(p:Pl) (h:H) (w:World) (args:List V) (args':Array Value) v h',R p h w->Aq p args args'.toList->q args h=some (v,h')->
  ∃v' p' w',(callFunc f args').run P w=.ok (.value v') w'/\Ab p' v v'/\Ext p h w p' h' w'
 |[],_,f,q,c,_,_,_,_,_,_,_,_,_,_=>by cases c
 |(g,k)::L,i,f,q,c,p,h,w,args,args',v,h',l,d,j=>by
  unfold Rg at c;rw[Bf]at c;by_cases e:g=f
  ·subst e;simp only[decide_true,we,ze]at c;subst c;obtain⟨fn,r,s,u,t,y⟩:=(i (g,k)<|by simp).ok;obtain⟨rfl,v',g1,g2⟩:=PK.zI (P:=P) (w:=w) d j;refine⟨v',p,w,?_,g2,zU l⟩;rw[run_callFunc_extern r s u t y,g1];rfl
  ·simp only[e,decide_false,wg]at c;exact Vk (fun x o=>i x<|by simp[o]) f q c p h w args args' v h' l d j
def sX:Option (List<|V×H)->Option V
 |some [(v,_)]=>some v
 |_=>none
def Vr(C:Ctx)(n:Nat)(f:FuncId)(args:List V)(v:V):Bool:=match sX (Be C n (.fn f args) hG)with
 |some x=>V.beq x v
 |none=>false
theorem Vd{C C':Ctx}{P:Program}(T:C.Ok P)(D:FI C)(M:P.follows .mixedOrders=true){n:Nat}{f:FuncId}{args:List V}{v:V}
  (z:Vr C n f args v=true) (J:V.HX args=true) (B:v.flat=true) {p:Pl} {h:H} {w:World} {args':Array Value} (i:R p h w) (j:Gl C' p) (L:Gh h) (d:Aq p args args'.toList):
  Calls P f args' w fun e w'=>∃v' p',e=.returned v'/\Ab p' v v'/\Ext p h w p' h w':=by
 unfold Vr at z;split at z
 case h_2=>cases z
 rename_i x t;have A:x=v:=V.beq_eq z;subst A;unfold sX at t;split at t
 case h_2=>cases t
 rename_i l G O;cases t;have j:Gp p:=j;refine((HY T D M n).fn f args hG _ O _ w args' (qG i j L) j.take<|V.Is J d).mono ?_;rintro e w' ⟨u,h',v',p',s,rfl,I,q⟩;cases zf.1 s;have g:∀r,r<w.heap.size->w'.heap[r]?=w.heap[r]?:=fun r i=>q.F5 j.take r i
 refine⟨v',p,rfl,V.CM B I,⟨⟨[],by simp⟩,⟨i.len,fun b o N=>?_,i.inj⟩,q.size,fun r c _=>g r c,fun r U=>.inl U,q.os,q.out,q.tape,fun r c G=>⟨g r c,.inl G⟩⟩⟩;obtain⟨r,m,y,K,E,W⟩:=i.obj b o N;exact⟨r,m,y,K,by rw[g r (zc.1 E).1];exact E,W⟩
def eK(h:H):List (Nat×O)->Bool
 |[]=>true
 |(i,o)::l=>P2 (h.get i) (some o)&&eK h l
theorem WC{h:H}:∀ {l:List (Nat×O)},eK h l=true->∀x∈l,h.get x.1=some x.2
 |[],_,x,c=>by cases c
 |(i,o)::l,d,x,c=>by
  simp only[eK,zd]at d;rcases ye.1 c with rfl|c
  ·have:=d.1;cases e:h.get i with
   |none=>rw[e]at this;simp[P2]at this
   |some q=>rw[e]at this;rw[VS (a:=q) (b:=o)<|by simpa [P2]using this]
  ·exact WC d.2 x c
def vL:List (Nat×O)->Bool
 |[]=>true
 |(_,o)::l=>P2 (some o) (some o)&&vL l
theorem XL:vL F5=true:=by kernel_rfl
theorem oN{h:H}(g:Gh h):eK h F5=true:=by
 have key:∀l:List (Nat×O),(∀x∈l,h.get x.1=some x.2)->vL l=true->eK h l=true:=by
  intro l;induction l with
  |nil=>exact fun _ _=>rfl
  |cons x l f=>
   intro d c;simp only[vL,zd]at c;simp only[eK,zd];exact⟨by rw[d x List.mem_cons_self];exact c.1,f (fun y e=>d y<|List.mem_cons_of_mem _ e) c.2⟩
 exact key F5 g XL
abbrev Cy:=List<|FuncId×List V×V
def HF:Cy->FuncId->List V->Option V
 |[],_,_=>none
 |(g,a,v)::l,f,args=>bif zi g f&&V.JF a args then some v else HF l f args
def Rz:Cy->FuncId->Bool
 |[],_=>false
 |(g,_,_)::l,f=>bif zi g f then true else Rz l f
def Ji(L:Cy)(f:FuncId):Option (List V->H->Option (V×H)):=
 bif Rz L f then some (fun args h=>bif eK h F5 then(match HF L f args with|some v=>some (v,h)|none=>none)else none)else none
def AS(C:Ctx)(n:Nat):Cy->Bool
 |[]=>true
 |(f,a,v)::l=>Vr C n f a v&&V.HX a&&v.flat&&AS C n l
theorem XS{L:Cy}{f:FuncId}{args:List V}{v:V}(h:HF L f args=some v){C:Ctx}{n:Nat}(c:AS C n L=true):Vr C n f args v=true/\V.HX args=true/\v.flat=true:=by
 induction L with
 |nil=>cases h
 |cons x l j=>
  obtain⟨g,a,u⟩:=x;simp only[AS,zd]at c;unfold HF at h;cases d:(zi g f&&V.JF a args)with
  |false=>rw[d]at h;exact j h c.2
  |true=>
   rw[d]at h;cases h;simp only[zd]at d;have i:g=f:=zg d.1;have e:a=args:=V.GG d.2;subst i;subst e;exact⟨c.1.1.1,c.1.1.2,c.1.2⟩
theorem lJ{C C':Ctx}{P:Program}(z:C.Ok P)(j:FI C)(x:P.follows .mixedOrders=true){n:Nat}{L:Cy}(r:AS C n L=true):
  ∀f q,Ji L f=some q->∀(p:Pl) (h:H) (w:World) (args:List V) (args':Array Value) v h',R p h w->Gl C' p->Aq p args args'.toList->q args h=some (v,h')->
  Calls P f args' w fun e w'=>∃v' p',e=.returned v'/\Ab p' v v'/\Ext p h w p' h' w':=by
 intro f q i p h w args args' v h' y o g c;unfold Ji at i;cases l:Rz L f with
 |false=>rw[l]at i;cases i
 |true=>
  rw[l]at i;cases i;simp only at c;cases d:eK h F5 with
  |false=>rw[d]at c;cases c
  |true=>
  rw[d]at c;simp only[we]at c;split at c
  case h_2=>cases c
  rename_i u A;cases c;obtain⟨s,t,B⟩:=XS A r;exact Vd (C':=C') z j x s t B y o (WC d) g
end Go.Det
