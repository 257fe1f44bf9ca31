import Derived.Test.YtlohiljbghionaaGreatDoorX02
import Derived.Laws.StructEq
import Derived.Lib.Bytealg
import Derived.Laws.Externs
/- A part of a proof; no law is stated here. -/
noncomputable section
open Array renaming getElem?_eq_some_iff -> zc, getD_eq_getD_getElem? -> zk, toList_inj -> z6, getElem?_push -> yb, getElem?_eq_getElem -> yk, replicate -> yr
open Bool renaming and_eq_true -> zd, or_eq_true -> zp, false_eq_true -> zu, not_eq_true' -> zx
open Option.some renaming injEq -> ze
open List renaming mem_singleton -> zf, all_eq_true -> zm, range -> zq, length_cons -> zt, mem_zipIdx_iff_getElem? -> zw, getD_eq_getElem?_getD -> zy, getElem?_append_left -> z7, any_eq_true -> ye, getElem?_eq_getElem -> yn, mem_range -> yv, mem_cons -> yw, mem_map -> y7
open Nat renaming eq_of_beq_eq_true -> zg, beq -> zi, le_refl -> zo, blt -> zz, blt_eq -> yp, lt_or_ge -> yq, ble -> yy, le_of_lt -> yz, add_zero -> y8
open Go.Result renaming andThen_ok -> zh
open Go.Sem renaming run_bind -> zj, run_pure -> zn
open Prod.mk renaming injEq -> zl
open Go.Extern.MathBitsCarry renaming m64 -> zr, pair -> ya
open Classical renaming byContradiction -> z8
open Go.Oper renaming semAt_eq -> yc, uponIn_value -> yd
open Go.Region renaming binds -> yf, ready -> yg
open Go.Det.Ext renaming refl -> yh
open Go.Fence renaming wide -> yi
open Go.Instr renaming checkKey -> yj
open Option renaming isSome_iff_exists -> ym, getD_some -> yo
open Go.Op renaming operands -> yt
open Go.Code renaming region -> yu
open PUnit renaming unit -> yx
namespace Go.Det
section
variable {C:Ctx}{P:Program}{p:Pl}{h:H}{w:World}{fr:Fr}{a:Act}
def Xa(T:B6)(t:TypeId)(len:Nat)(c:List (Nat×V)):Option (List V×TypeId):=
 match T.und t with
 |some (.slice e)=>match T.inf e with
  |some i=>
   bif yy (len*i.size) 16777216&&zz 0 (i.zero.length)&&zi i.zero.length i.size then
    (I8 (fun k=>some (k*i.size,i.size)) (Ff i.zero<|len*i.size) c).map fun cs=>(cs,e)
   else none
  |none=>none
 |_=>none
def eA(C:Ctx)(fr:Fr)(o:Oper):Option (O×(Nat->V)):=
 match o.op with
 | .alloc t=>match C.T.inf t with
  |some i=>some (.cells i.zero t (0,0),fun b=>.ptr b 0)
  |none=>none
 | .box t x=>match ev C fr x with
  |some v=>some (.cells v.cells t (0,0),fun b=>.ptr b 0)
  |none=>none
 | .buildSlice t n c=>match W8 C fr c.toList with
  |some ps=>match Xa C.T t n ps with
   |some (cs,e)=>some (.cells cs e (0,0),fun b=>.sl b 0 n n 0)
   |none=>none
  |none=>none
 |_=>none
theorem kJ{o:Oper}{r:O×(Nat->V)}(c:eA C fr o=some r):CA o=true:=by
 unfold eA at c;unfold CA;split at c<;>simp_all
theorem Aa7(I:C.Ok P)(R:Gl C p){ops:Array Oper}{o:Oper}(W:FOn p fr a (reads ops o)){ob:O}{f:Nat->V}(r:eA C fr o=some (ob,f)):
  ∃x n v',(execOp a.eval o).run P w=.ok (.value v') { w with heap:=w.heap.push x }/\G8 p n ob x/\∀(q:Pl) b,q[b]?=some (w.heap.size,n)->Ac q (f b) v':=by
 have D:∀cs b,o.op≠ .select cs b:=by
  intro cs b e;have:=kJ r;simp[CA,e]at this
 have hE:∀(P:Program) (w:World),(execOp (Ix (reads ops o) a).eval o).run P w=(execOp a.eval o).run P w:=fun P w=>by rw[execOp_congr o D fun x s=>Jm s]
 have U:=W.OM;have j:∀(t:TypeId) (cs:List V) (c:Array Value),At p cs c.toList->G8 p c.size (.cells cs t (0,0)) (.cells c t):=by
  intro t cs c s;refine⟨c,(0,0),rfl,rfl,by have:=s.length;simp at this;omega,?_,fun i _ E M=>⟨E,M⟩⟩;have:=s.length;rw[List.take_of_length_le<|by simp at this ⊢;omega];exact s.toC
 unfold eA at r;split at r
 case h_4=>cases r
 case h_1=>
  rename_i t u;split at r
  case h_2=>cases r
  rename_i i G;cases r;obtain⟨z,K,y⟩:=EM I.T G;refine⟨.cells z.cells t,_,.pointer<|some ⟨w.heap.size,0,none⟩,?_,j _ _ _<|y p,fun q b A=>by simp only[Ac];exact⟨_,_,A,rfl⟩⟩;unfold execOp;simp only[u];unfold Instr.alloc newVar;simp only[zj,K,zh,Cv,zn]
 case h_2=>
  rename_i t x u;split at r
  case h_2=>cases r
  rename_i v hv;cases r;have s:Ac p v (a.eval x):=by
   have:=A8 (C:=C) R U (x:=x) (v:=v) (by rw[T3<|by simp[u,yt]];exact hv);rwa [Jm<|by simp[u,yt]]at this
  refine⟨.cells (a.eval x).cells t,_,.pointer<|some ⟨w.heap.size,0,none⟩,?_,j _ _ _ s.cells,fun q b A=>by simp only[Ac];exact⟨_,_,A,rfl⟩⟩;unfold execOp;simp only[u];unfold Instr.box newVar;simp only[zj,zh,Cv,zn]
 case h_3=>
  rename_i t len d u;split at r
  case h_2=>cases r
  rename_i ps L;split at r
  case h_2=>cases r
  rename_i cs e l;cases r;have hp:U7 p ps (d.map fun(i,x)=>(i,a.eval x)).toList:=by
   have:=N3 (C:=C) (fr:=QA (reads ops o) fr) R U (xs:=d.toList) (vs:=ps) (by
    rw[Jl (fr':=fr) fun x s=>T3<|by rw[u];simp[yt];exact⟨x.1,by simpa using s⟩];exact L)
   have X:(d.toList.map fun(i,x)=>(i,(Ix (reads ops o) a).eval x))=(d.map fun(i,x)=>(i,a.eval x)).toList:=by
    rw[Array.toList_map];apply List.map_congr_left;rintro⟨i,x⟩ hm;simp only;rw[Jm<|by rw[u];simp[yt];exact⟨i,by simpa using hm⟩]
   rwa [X]at this
  unfold Xa at l;split at l
  case h_2=>cases l
  rename_i Z Y;split at l
  case h_2=>cases l
  rename_i i G;cases g:(yy (len*i.size) 16777216&&zz 0 (i.zero.length)&&zi i.zero.length i.size)with
  |false=>simp[g]at l
  |true=>
   simp only[g,we,Option.map_eq_some_iff,zl]at l;obtain⟨cs',B,rfl,rfl⟩:=l;simp only[zd,Nat.ble_eq,yp,Bp,w5]at g;obtain⟨⟨c1,c2⟩,c3⟩:=g;obtain⟨z,K,y⟩:=EM I.T G;have N:=(y p).length;simp at N;obtain⟨oo,E,M⟩:=LZ (p:=p) (place:=fun k=>some (k*i.size,i.size)) hp (Jz (y p) c2<|len*i.size) B;refine⟨.cells oo Z,_,.slice (some ⟨w.heap.size,0,none⟩) len len,?_,j _ _ _ M,fun q b A=>by simp only[Ac];exact⟨_,_,len,A,rfl,zo _,zo _,fun _=>rfl,by simp⟩⟩;unfold execOp;simp only[u];unfold Instr.buildSlice;simp only[zj,Ay I.T Y,zh,Bw I.T G];rw[wc ae];by_cases h0:len*i.size=0
   ·rw[wd h0];simp only[zj,zn,zh];have e1:(Array.map (fun x=>(#[]:Array Value)[x % (#[]:Array Value).size]!)<|Array.range<|len*i.size)=Array.map (fun J=>z.cells[J % z.cells.size]!) (Array.range<|len*i.size):=by simp[h0]
    rw[e1,E];simp only[zj,Cv,zh,zn]
   ·simp only[h0,vg,zj,K,zh,zn,E,Cv]
theorem Ext.kK{D p:Pl}{B h:H}{l w:World}(A:Ext D B l p h w){r n:Nat}{o:O}{x:Obj}(hx:w.heap[r]?=some x)(ho:G8 p n o x)(Y:¬Im p h r)(M:l.heap.size<=r):
  Ext D B l (p++[(r,n)]) (h.push o) w:=by
 have hr:=A.rel;have f:(p++[(r,n)])[h.nx]?=some (r,n):=by rw[<-hr.len];simp
 have d:∀b,b<h.nx->(p++[(r,n)])[b]?=p[b]?:=fun b hb=>z7 (by rw[hr.len];exact hb)
 have i:∀c g,(h.push o).get c=some g->(c=h.nx/\g=o)\/(c<h.nx/\h.get c=some g):=by
  intro c g z;rw[H.BI]at z;by_cases e:c=h.nx
  ·rw[wd e]at z;cases z;exact .inl ⟨e,rfl⟩
  ·rw[wc e]at z;exact .inr ⟨hr.lt z,z⟩
 refine⟨?_,⟨by simp[hr.len],fun c g z=>?_,fun c L g I s m Z z X u K=>?_⟩,A.size,A.same,fun s W=>?_,A.os,A.out,A.tape,fun s W hl=>?_⟩
 ·obtain⟨q,rfl⟩:=A.pre;exact⟨q++[(r,n)],by simp⟩
 ·rcases i c g z with⟨rfl,rfl⟩|⟨G,J⟩
  ·exact⟨r,n,x,f,hx,ho.mono _⟩
  ·obtain⟨s,m,y,E,j,T⟩:=hr.obj c g J;exact⟨s,m,y,by rw[d c G];exact E,j,T.mono _⟩
 ·rcases i c g z with⟨rfl,rfl⟩|⟨G,J⟩<;>rcases i L I X with⟨rfl,rfl⟩|⟨R,N⟩
  ·rfl
  ·rw[f]at u;cases u;rw[d L R]at K;exact wh ⟨L,I,Z,N,K⟩ Y
  ·rw[f]at K;cases K;rw[d c G]at u;exact wh ⟨c,g,m,J,u⟩ Y
  ·rw[d c G]at u;rw[d L R]at K;exact hr.inj c L g I s m Z J N u K
 ·obtain⟨c,g,m,E,j⟩:=W;rcases i c g E with⟨rfl,rfl⟩|⟨G,J⟩
  ·rw[f]at j;cases j;exact .inr M
  ·rw[d c G]at j;exact A.im s ⟨c,g,m,J,j⟩
 ·obtain⟨G,u⟩:=A.lock s W hl;refine⟨G,?_⟩;rcases u with⟨c,m,cs,t,fz,E,j,T⟩|u
  ·have U:=hr.lt E;exact .inl ⟨c,m,cs,t,fz,by rw[H.BI,wc ae];exact E,by rw[d c U];exact j,T⟩
  ·refine .inr ?_;rintro⟨c,g,m,E,j⟩;rcases i c g E with⟨rfl,rfl⟩|⟨R,N⟩
   ·rw[f]at j;cases j;omega
   ·rw[d c R]at j;exact u ⟨c,g,m,N,j⟩
theorem Ext.aside{e p:Pl}{d h:H}{f w:World}(c:Ext e d f p h w)(x:Obj):Ext e d f p h { w with heap:=w.heap.push x }:=by
 have hr:=c.rel;refine⟨c.pre,⟨hr.len,fun b o s=>?_,hr.inj⟩,by have:=c.size;simp;omega,fun r g q=>?_,c.im,c.os,c.out,c.tape,fun r g t=>?_⟩
 ·obtain⟨r,n,y,i,j,l⟩:=hr.obj b o s;have:=(zc.1 j).1;exact⟨r,n,y,i,by simp[yb,Nat.ne_of_lt this,j],l⟩
 ·have i:=c.same r g q;have:=c.size;simp only[yb];rw[wc ae];exact i
 ·obtain⟨i,j⟩:=c.lock r g t;have:=c.size;refine⟨?_,j⟩;simp only[yb];rw[wc ae];exact i
end
def DR(C:Ctx)(call:DH)(fr:Fr)(h:H)(o:Oper):Option (V×H):=
 match GI C fr h o with
 |some (.val v h')=>some (v,h')
 |some (.skip h')=>some (.tup [],h')
 |some (.enter f args)=>match call (.fn f args) h with
  |some [x]=>some x
  |_=>none
 |_=>none
def CQ(o:Oper):Bool:= !EG o&& !CA o
structure Stat(ops:Array Oper)(anc:Nat->Nat->Bool)(ord pos:Nat->Nat)(sc:Nat->Option Nat):Prop where
 sel:Region.noSelect ops=true
 ordp:∀q,q<ops.size->ord q<ops.size/\pos (ord q)=q
 posp:∀i,i<ops.size->pos i<ops.size/\ord (pos i)=i
 edge:∀j i,anc j i=true->∃(o:Oper) (e:Edge),ops[j]?=some o/\e∈o.after/\yf .any e=true/\(e.on=i\/anc e.on i=true)
 dir:∀(j:Nat) (o:Oper) (e:Edge),ops[j]?=some o->e∈o.after->yf .any e=true->anc j e.on=true/\e.on<ops.size
 apos:∀j i,anc j i=true->pos i<pos j
 s1:∀(i j:Nat) (o o':Oper),ops[i]?=some o->ops[j]?=some o'->CQ o=true->CQ o'=true->i≠j->anc i j=true\/anc j i=true
 s2:∀(i j:Nat) (o o':Oper),ops[i]?=some o->ops[j]?=some o'->CQ o=true->EG o'=true->anc j i=true\/pos j<pos i
 q1:∀(i k:Nat),sc i=some k->∃(o ok:Oper) (t:Tmp),ops[i]?=some o/\ops[k]?=some ok/\(o.op=.assign (.tmp t)\/o.op=.move (.tmp t))/\o.guard=none/\CA ok=true/\ok.dst=some t/\anc i k=true
 s3:∀(j k:Nat) (o o':Oper) (t:Tmp),ops[j]?=some o->ops[k]?=some o'->(CA o=true\/(sc j).isSome=true)->CQ o'=false->o.dst=some t->t∈reads ops o'->anc k j=true->
  sc k=some j\/∃(i:Nat) (oi:Oper),ops[i]?=some oi/\CQ oi=true/\anc i j=true/\anc k i=true
 s4:∀(i j:Nat) (o o':Oper),ops[i]?=some o->ops[j]?=some o'->CQ o=true->CA o'=true->anc i j=true\/pos i<pos j
 s5:∀(i j:Nat) (o o':Oper),ops[i]?=some o->ops[j]?=some o'->EG o=true->PN o=true->CA o'=true->pos j<pos i->∃(k:Nat) (ok:Oper),ops[k]?=some ok/\CQ ok=true/\pos j<pos k/\pos k<pos i
 s6:∀(i j:Nat) (o o':Oper) (t:Tmp),ops[i]?=some o->ops[j]?=some o'->i≠j->o.dst=some t->o'.dst≠some t/\(t∈reads ops o'->anc j i=true\/anc i j=true)
structure Canon(C:Ctx)(call:DH)(ops:Array Oper)(anc:Nat->Nat->Bool)(ord pos:Nat->Nat)(fr0:Fr)(h0:H)(v:Nat->V)(Hh:Nat->H)(F:Nat->Fr):Prop where
 h0:Hh 0=h0
 f0:F 0=fr0
 fn:∀q,q<=ops.size->(F q).n=fr0.n
 fget:∀q,q<ops.size->∀(o:Oper),ops[ord q]?=some o->∀t,(F (q+1)).get t=if o.dst=some t then v (ord q)else(F q).get t
 dst:∀(i:Nat) (o:Oper) (t:Tmp),ops[i]?=some o->o.dst=some t->t<fr0.n
 step:∀(i:Nat) (o:Oper),ops[i]?=some o->
  (Bd (F (pos i)) ops o=false/\v i=.tup []/\Hh (pos i+1)=Hh (pos i))\/
  (Bd (F (pos i)) ops o=true/\
   ((EG o=true/\GI C (F (pos i)) (Hh (pos i)) o=some (.val (v i) (Hh (pos i)))/\Hh (pos i+1)=Hh (pos i))\/
    (CA o=true/\∃ob f,eA C (F (pos i)) o=some (ob,f)/\v i=f (Hh (pos i)).nx/\Hh (pos i+1)=(Hh (pos i)).push ob)\/
    (CQ o=true/\DR C call (F (pos i)) (Hh (pos i)) o=some (v i,Hh (pos i+1)))))
 stable:∀(i j:Nat) (o oj:Oper),ops[i]?=some o->ops[j]?=some oj->CQ o=true->EG oj=true->PN oj=true->Bd (F (pos j)) ops oj=true->pos j<pos i->anc i j=false->
  GI C (F (pos j)) (Hh (pos i+1)) oj=some (.val (v j) (Hh (pos i+1)))
theorem kinds(o:Oper):EG o=true\/CA o=true\/CQ o=true:=by
 unfold CQ;cases EG o<;>cases CA o<;>simp
theorem JK{o:Oper}(h:EG o=true):CA o=false:=by
 unfold EG at h;unfold CA;split at h<;>simp_all
theorem QP{o:Oper}(h:CQ o=true):EG o=false/\CA o=false:=by
 unfold CQ at h;simpa using h
section
variable {C:Ctx}{P:Program}{call:DH}{ops:Array Oper}{anc:Nat->Nat->Bool}{ord pos:Nat->Nat}{sc:Nat->Option Nat}{fr0:Fr}{h0:H}{v:Nat->V}{Hh:Nat->H}{F:Nat->Fr}
theorem Fw(st:Stat ops anc ord pos sc)(r:Canon C call ops anc ord pos fr0 h0 v Hh F){k:Nat}{o:Oper}{t:Tmp}(d:ops[k]?=some o)(g:o.dst=some t):
  ∀q,q<=ops.size->pos k<q->(F q).get t=v k
 |0,_,h=>by omega
 |q+1,x,h=>by
  have c:q<ops.size:=ae
  obtain⟨l,u⟩:=st.ordp q c;rw[r.fget q c (ops[ord q]) (by simp[l]) t];have j:=(zc.1 d).1;by_cases e:pos k=q
  ·have f:ord q=k:=by rw[<-e];exact(st.posp k j).2
   have s:ops[ord q]=o:=by have:=(zc.1 d).2;simp only[f];exact this
   rw[s,wd g,f]
  ·have i:ord q≠k:=fun f=>e (by rw[<-f,u])
   have:=(st.s6 k (ord q) o (ops[ord q]) t d (by simp[l]) (Ne.symm i) g).1;rw[wc this];exact Fw st r d g q ae ae
theorem Fz(st:Stat ops anc ord pos sc)(d:Canon C call ops anc ord pos fr0 h0 v Hh F){t:Tmp}:
  ∀q,q<=ops.size->(∀k o,ops[k]?=some o->o.dst=some t->¬pos k<q)->(F q).get t=fr0.get t
 |0,_,_=>by rw[d.f0]
 |q+1,j,h=>by
  have c:q<ops.size:=ae
  obtain⟨f,l⟩:=st.ordp q c;rw[d.fget q c (ops[ord q]) (by simp[f]) t,wc]
  ·exact Fz st d q ae fun k o g e i=>h k o g e ae
  ·intro e;exact h (ord q) _ (by simp[f]) e ae
theorem Aat(st:Stat ops anc ord pos sc)(g:Canon C call ops anc ord pos fr0 h0 v Hh F){i k:Nat}(h:sc i=some k):v i=v k:=by
 obtain⟨o,ok,t,f,x,c,l,y,r,q⟩:=st.q1 i k h;have e:=(zc.1 f).1;have s:=Fw st g x r (pos i) (yz (st.posp i e).1)<|st.apos i k q;have j:Bd (F<|pos i) ops o=true:=by unfold Bd;rw[l]
 have d:EG o=true:=by unfold EG;rcases c with c|c<;>rw[c]
 rcases g.step i o f with⟨u,_⟩|⟨_,⟨_,u,_⟩|⟨u,_⟩|⟨u,_⟩⟩
 ·rw[j]at u;cases u
 ·have:GI C (F<|pos i) (Hh<|pos i) o=some (.val ((F<|pos i).get t)<|Hh<|pos i):=by
   rw[Dc];unfold G1;rcases c with c|c<;>simp only[c,ev,Bx]
  rw[this,s]at u;simp only[ze,OR.val.injEq]at u;exact u.1.symm
 ·rw[JK d]at u;cases u
 ·rw[(QP u).1]at d;cases d
structure Inv(C:Ctx)(ops:Array Oper)(pos:Nat->Nat)(sc:Nat->Option Nat)(fr0:Fr)(v:Nat->V)(Hh:Nat->H)(F:Nat->Fr)(p0:Pl)(h0:H)(w0:World)(df:List Deferred)
  (S:Nat->Prop) (m:Nat) (fl:Nat->Nat) (p:Pl) (a:Act) (w:World):Prop where
 ext:Ext p0 h0 w0 p (Hh m) w
 gl:Gl C p
 mn:m<=ops.size
 mh:∀(k:Nat) (o:Oper),ops[k]?=some o->CQ o=true->(S k↔pos k<m)
 ma:∀(k:Nat) (o:Oper),ops[k]?=some o->CA o=true->pos k<m->S k
 sz:a.tmps.size=fr0.n
 df:a.defers=df
 slot:∀t,(∀(i:Nat) (o:Oper),S i->ops[i]?=some o->o.dst≠some t)->Ac p (fr0.get t) (a.tmps.getD t undef)
 slotw:∀(i:Nat) (o:Oper) (t:Tmp),S i->ops[i]?=some o->o.dst=some t->((CA o=true\/(sc i).isSome=true)->Bd (F (pos i)) ops o=true->pos i<m)->Ac p (v i) (a.tmps.getD t undef)
 flt:∀(i:Nat) (o:Oper),S i->ops[i]?=some o->CA o=true->Bd (F (pos i)) ops o=true->m<=pos i->
  ∃n x ob f v',eA C (F (pos i)) o=some (ob,f)/\w.heap[fl i]?=some x/\w0.heap.size<=fl i/\¬Im p (Hh m) (fl i)/\G8 p n ob x/\
   (∀(q:Pl) b,q[b]?=some (fl i,n)->Ac q (f b) v')/\(∀t,o.dst=some t->a.tmps.getD t undef=v')
 inj:∀(i j:Nat) (o o':Oper),S i->S j->ops[i]?=some o->ops[j]?=some o'->CA o=true->CA o'=true->Bd (F (pos i)) ops o=true->Bd (F (pos j)) ops o'=true->
  m<=pos i->m<=pos j->fl i=fl j->i=j
structure MU(ops:Array Oper)(pos:Nat->Nat)(sc:Nat->Option Nat)(S:Nat->Prop)(m:Nat)(a:Act):Prop where
 eq:∀(i k:Nat) (o ok:Oper) (t tk:Tmp),S i->ops[i]?=some o->sc i=some k->ops[k]?=some ok->o.dst=some t->ok.dst=some tk->m<=pos i->a.tmps.getD t undef=a.tmps.getD tk undef/\S k
theorem Inv.adv(st:Stat ops anc ord pos sc)(cn:Canon C call ops anc ord pos fr0 h0 v Hh F){p0:Pl}{w0:World}{df:List Deferred}{S:Nat->Prop}{fl:Nat->Nat}{a:Act}{w:World}:
  ∀(d m:Nat) {p:Pl},Inv C ops pos sc fr0 v Hh F p0 h0 w0 df S m fl p a w->MU ops pos sc S m a->m+d<=ops.size->
  (∀q,m<=q->q<m+d->∀(o:Oper),ops[ord q]?=some o->CQ o=false/\(CA o=true->S (ord q)))->
  ∃p',Inv C ops pos sc fr0 v Hh F p0 h0 w0 df S (m+d) fl p' a w
 |0,m,p,g,_,_,_=>⟨p,g⟩
 |d+1,m,p,g,Z,hn,hq=>by
  have hm:m<ops.size:=ae
  obtain⟨g1,T⟩:=st.ordp m hm;obtain⟨W,hj⟩:∃W,ops[ord m]?=some W:=⟨ops[ord m],by simp[g1]⟩;obtain⟨q1,q2⟩:=hq m (zo _) ae _ hj;have one:∃p',Inv C ops pos sc fr0 v Hh F p0 h0 w0 df S (m+1) fl p' a w:=by
   have U:∀(k:Nat) (o:Oper),ops[k]?=some o->CQ o=true->(S k↔pos k<m+1):=by
    intro k o u hv;rw[g.mh k o u hv];constructor
    ·intro h;omega
    ·intro h;by_cases e:pos k=m
     ·have I:=(zc.1 u).1;have y:ord m=k:=by rw[<-e];exact(st.posp k I).2
      subst y;rw[hj]at u;cases u;simp[q1]at hv
     ·omega
   have R:∀(k:Nat) (o:Oper),ops[k]?=some o->CA o=true->pos k<m+1->S k:=by
    intro k o u z hlt;by_cases e:pos k=m
    ·have I:=(zc.1 u).1;have y:ord m=k:=by rw[<-e];exact(st.posp k I).2
     subst y;rw[hj]at u;cases u;exact q2 z
    ·exact g.ma k o u z ae
   have same:Hh (m+1)=Hh m->(CA W=true->Bd (F<|pos<|ord m) ops W=false)->(Bd (F<|pos<|ord m) ops W=false->v (ord m)=.tup [])->
     Inv C ops pos sc fr0 v Hh F p0 h0 w0 df S (m+1) fl p a w:=by
    intro hh z _;refine⟨by rw[hh];exact g.ext,g.gl,by omega,U,R,g.sz,g.df,g.slot,fun i o t s c E hc=>?_,fun i o s c l r B=>?_,fun i j o o' s L c K l D r J B hle' he=>?_⟩
    ·by_cases Y:(sc i).isSome=true/\pos i=m
     ·obtain⟨k,u⟩:=ym.1 Y.1;obtain⟨o2,ok,tk,N,h2,h3,h4,h5,h6,h7⟩:=st.q1 i k u;rw[c]at N;cases N;obtain⟨e1,y⟩:=Z.eq i k o ok t tk s c u h2 E h6 ae;rw[Aat st cn u,e1];have:=st.apos _ _ h7;exact g.slotw k ok tk y h2 h6 fun _ _=>by omega
     ·refine g.slotw i o t s c E fun l r=>?_
      have N:=hc l r;by_cases e:pos i=m
      ·have G:=(zc.1 c).1;have y:ord m=i:=by rw[<-e];exact(st.posp i G).2
       subst y;rw[hj]at c;cases c;rcases l with l|l
       ·rw[z l]at r;cases r
       ·exact wh ⟨l,e⟩ Y
      ·omega
    ·obtain⟨n,x,ob,f,v',k1,k2,k3,k4,k5⟩:=g.flt i o s c l r ae;exact⟨n,x,ob,f,v',k1,k2,k3,by rw[hh];exact k4,k5⟩
    ·exact g.inj i j o o' s L c K l D r J ae ae he
   rcases cn.step (ord m) _ hj with⟨u1,u2,M⟩|⟨u1,⟨u2,M,O⟩|⟨u2,ob,f,M,O,u5⟩|⟨u2,M⟩⟩
   ·rw[T]at M;exact⟨p,same M (fun _=>u1)<|fun _=>u2⟩
   ·rw[T]at O;exact⟨p,same O (fun h=>by rw[JK u2]at h;cases h)<|fun h=>by rw[u1]at h;cases h⟩
   ·
    obtain⟨n,x,X,f',v',k1,k2,k3,k4,k5,k6,k7⟩:=g.flt (ord m) _ (q2 u2) hj u2 u1 ae;rw[M]at k1;cases k1;rw[T]at O u5;have hx:=g.ext.kK k2 k5 k4 k3;rw[<-u5]at hx;have A:(p++[(fl<|ord m,n)])[(Hh m).nx]?=some (fl<|ord m,n):=by rw[<-g.ext.rel.len];simp
    have hv:Ac (p++[(fl<|ord m,n)]) (v<|ord m) v':=by rw[O];exact k6 _ _ A
    refine⟨p++[(fl<|ord m,n)],hx,?_,by omega,U,R,g.sz,g.df,fun t E=>(g.slot t E).mono _,fun i o t s c E hc=>?_,fun i o s c l r B=>?_,fun i j o o' s L c K l D r J B hle' he=>?_⟩
    ·exact Gp.app g.gl _
    ·by_cases e:i=ord m
     ·subst e;rw[hj]at c;cases c;rw[k7 t E];exact hv
     ·refine(g.slotw i o t s c E fun l r=>?_).mono _;have N:=hc l r;have G:=(zc.1 c).1;have:pos i≠m:=fun y=>e (by rw[<-y];exact(st.posp i G).2.symm)
      omega
    ·obtain⟨n',x',X,f',v'',l1,l2,l3,l4,l5,l6,l7⟩:=g.flt i o s c l r ae;refine⟨n',x',X,f',v'',l1,l2,l3,?_,l5.mono _,l6,l7⟩;rintro⟨b,ob2,n2,m1,m2⟩;rw[u5,H.BI]at m1;by_cases e:b=(Hh m).nx
     ·subst e;rw[A]at m2;have:fl (ord m)=fl i:=(Prod.mk.inj<|Option.some.inj m2).1;have:=g.inj (ord m) i _ o (q2 u2) s hj c u2 l u1 r ae ae this;subst this;omega
     ·rw[wc e]at m1;have hb:=g.ext.rel.lt m1;rw[z7<|by rw[g.ext.rel.len];exact hb]at m2;exact l4 ⟨b,ob2,n2,m1,m2⟩
    ·exact g.inj i j o o' s L c K l D r J ae ae he
   ·rw[q1]at u2;cases u2
  obtain⟨p',c⟩:=one;obtain⟨p'',hi''⟩:=Inv.adv st cn d (m+1) c ⟨fun i k o ok t tk g1 T g3 g4 g5 g6 g7=>Z.eq i k o ok t tk g1 T g3 g4 g5 g6 ae⟩ ae (fun q N h2=>hq q ae ae);exact⟨p'',by rw[show m+(d+1)=m+1+d from by omega];exact hi''⟩
end
section
variable {C:Ctx}{P:Program}{call:DH}{ops:Array Oper}{anc:Nat->Nat->Bool}{ord pos:Nat->Nat}{sc:Nat->Option Nat}{fr0:Fr}{h0:H}{v:Nat->V}{Hh:Nat->H}{F:Nat->Fr}
 {p0:Pl} {w0:World} {df:List Deferred} {S:Nat->Prop} {m:Nat} {fl:Nat->Nat} {p:Pl} {a:Act} {w:World}
structure R0(anc:Nat->Nat->Bool)(S:Nat->Prop)(i:Nat):Prop where
 fresh:¬S i
 all:∀k,anc i k=true->S k
def Down(anc:Nat->Nat->Bool)(S:Nat->Prop):Prop:=∀i k,S i->anc i k=true->S k
theorem operands(st:Stat ops anc ord pos sc)(s:Canon C call ops anc ord pos fr0 h0 v Hh F)(u:Inv C ops pos sc fr0 v Hh F p0 h0 w0 df S m fl p a w)(I:Down anc S){i:Nat}{o:Oper}(G:ops[i]?=some o)(hr:R0 anc S i)
  (y:∀(k:Nat) (ok:Oper) (t:Tmp),ops[k]?=some ok->(CA ok=true\/(sc k).isSome=true)->ok.dst=some t->t∈reads ops o->anc i k=true->pos k<m):FOn p (F<|pos i) a (reads ops o):=by
 have x:=(zc.1 G).1;have J:=(st.posp i x).1;refine⟨by rw[s.fn _ ae,u.sz],fun t E=>?_⟩;by_cases D:∃(k:Nat) (ok:Oper),k≠i/\ops[k]?=some ok/\ok.dst=some t
 ·obtain⟨k,ok,A,r,d⟩:=D;rcases(st.s6 k i ok o t r G A d).2 E with q|q
  ·have l:=hr.all k q;rw[Fw st s r d (pos i) ae<|st.apos i k q];exact u.slotw k ok t l r d fun K _=>y k ok t r K d E q
  ·have l:¬S k:=fun h=>hr.fresh<|I k i h q
   have f:∀(j:Nat) (oj:Oper),ops[j]?=some oj->oj.dst=some t->j=k:=by
    intro j oj g c;by_cases e:j=k
    ·exact e
    ·exact wh c (st.s6 k j ok oj t r g (fun h=>e h.symm) d).1
   rw[Fz st s (pos i) ae fun j oj g c B=>by
    have:=f j oj g c;subst this;have:=st.apos _ _ q;omega]
   refine u.slot t fun j oj z g c=>?_
   have:=f j oj g c;subst this;exact l z
 ·have f:∀(j:Nat) (oj:Oper),ops[j]?=some oj->oj.dst=some t->j=i:=by
   intro j oj g c;by_cases e:j=i
   ·exact e
   ·exact wh ⟨j,oj,e,g,c⟩ D
  rw[Fz st s (pos i) ae fun j oj g c B=>by
   have:=f j oj g c;subst this;omega]
  refine u.slot t fun j oj z g c=>?_
  have:=f j oj g c;subst this;exact hr.fresh z
def Rest(ops:Array Oper)(pos:Nat->Nat)(S:Nat->Prop)(m:Nat):Prop:=m=0\/∃(k:Nat) (o:Oper),ops[k]?=some o/\CQ o=true/\S k/\m=pos k+1
theorem QK(st:Stat ops anc ord pos sc)(s:Down anc S)(y:Inv C ops pos sc fr0 v Hh F p0 h0 w0 df S m fl p a w)(c:Rest ops pos S m){k:Nat}{o:Oper}(r:ops[k]?=some o)(hr:¬S k):
  m<=pos k\/∃(i:Nat) (oi:Oper),ops[i]?=some oi/\CQ oi=true/\S i/\m=pos i+1/\pos k<pos i/\anc i k=false:=by
 by_cases l:m<=pos k
 ·exact .inl l
 ·right;rcases c with rfl|⟨i,oi,q,t,d,u⟩
  ·omega
  ·refine⟨i,oi,q,t,d,u,?_,?_⟩
   ·have g:k≠i:=fun e=>hr<|e▸d
    have j:=(zc.1 r).1;have f:=(zc.1 q).1;have:pos k≠pos i:=fun e=>g (by rw[<-(st.posp k j).2,e,(st.posp i f).2])
    omega
   ·cases x:anc i k with
    |false=>rfl
    |true=>exact wh (s i k d x) hr
theorem QH(st:Stat ops anc ord pos sc)(r:Inv C ops pos sc fr0 v Hh F p0 h0 w0 df S m fl p a w){i:Nat}{o:Oper}(q:ops[i]?=some o)(hr:R0 anc S i)(f:CA o=false){k:Nat}{ok:Oper}(l:ops[k]?=some ok)
  (j:CQ ok=true) (s:m<=pos k) (t:pos k<pos i):False:=by
 have d:¬S k:=fun h=>by have:=(r.mh k ok l j).1 h;omega
 have g:k≠i:=fun e=>by subst e;omega
 rcases kinds o with h|h|h
 ·rcases st.s2 k i ok o l q j h with c|c
  ·exact d<|hr.all k c
  ·omega
 ·rw[f]at h;cases h
 ·rcases st.s1 k i ok o l q j h g with c|c
  ·have:=st.apos _ _ c;omega
  ·exact d<|hr.all k c
theorem W2(st:Stat ops anc ord pos sc)(y:Canon C call ops anc ord pos fr0 h0 v Hh F)(N:Down anc S)(x:Inv C ops pos sc fr0 v Hh F p0 h0 w0 df S m fl p a w)(g:Rest ops pos S m){i:Nat}{o:Oper}(j:ops[i]?=some o)
  (hr:R0 anc S i) (r:EG o=true) (t:Bd (F<|pos i) ops o=true) (c:GI C (F<|pos i) (Hh<|pos i) o=some (.val (v i)<|Hh<|pos i)):GI C (F<|pos i) (Hh m) o=some (.val (v i)<|Hh m):=by
 have e:=JK r;cases f:PN o with
 |false=>exact oD r f c _
 |true=>
  rcases QK st N x g j hr.fresh with B|⟨k,ok,A,R,W,E,T,L⟩
  ·have s:=(zc.1 j).1;have O:=(st.posp i s).1;have key:∀d,m+d<=pos i->Hh (m+d)=Hh m:=by
    intro d;induction d with
    |zero=>intro _;rfl
    |succ d I=>
     intro z;have J:=I ae;obtain⟨K,l⟩:=st.ordp (m+d) ae;obtain⟨q,hq⟩:∃q,ops[ord<|m+d]?=some q:=⟨ops[ord<|m+d],by simp[K]⟩;rw[<-J,show m+(d+1)=m+d+1 from by omega];rcases y.step _ q hq with⟨_,_,u⟩|⟨_,⟨_,_,u⟩|⟨u1,_⟩|⟨u1,_⟩⟩
     ·rwa [l]at u
     ·rwa [l]at u
     ·obtain⟨k,ok,M,U,G,D⟩:=st.s5 i _ o q j hq r f u1 (by rw[l];omega);rw[l]at G;exact(QH st x j hr e M U ae D).elim
     ·exact(QH st x j hr e hq u1 (by rw[l];omega)<|by rw[l];omega).elim
   have:=key (pos i-m) ae;rw[show m+(pos i-m)=pos i from by omega]at this;rw[this]at c;exact c
  ·rw[E];exact y.stable k i ok o A j R r f t T L
theorem D3{a:Act}{d:Option Tmp}{x:Value}{t:Tmp}(h:d≠some t):(a.put d x).tmps.getD t undef=a.tmps.getD t undef:=by
 cases d with
 |none=>rfl
 |some s=>
  have:s≠t:=fun e=>h (by rw[e])
  simp only[Act.put,zk];rw[Array.getElem?_setIfInBounds_ne this]
theorem FQ{a:Act}{x:Value}{t:Tmp}(h:t<a.tmps.size):(a.put (some t) x).tmps.getD t undef=x:=by
 simp[Act.put,h]
theorem Qo{a:Act}{d:Option Tmp}{x:Value}:(a.put d x).tmps.size=a.tmps.size:=by cases d<;>simp[Act.put]
theorem Pd{a:Act}{d:Option Tmp}{x:Value}:(a.put d x).defers=a.defers:=by cases d<;>rfl
theorem MU.put(st:Stat ops anc ord pos sc){S:Nat->Prop}{m u:Nat}{a:Act}(K:MU ops pos sc S m a){i:Nat}{o:Oper}(g:ops[i]?=some o)(c:¬S i)(hr:R0 anc S i){x:Value}(W:m<=u)
  (O:∀(k:Nat) (ok:Oper) (t tk:Tmp),sc i=some k->ops[k]?=some ok->o.dst=some t->ok.dst=some tk->u<=pos i->(a.put o.dst x).tmps.getD t undef=a.tmps.getD tk undef):
  MU ops pos sc (fun k=>S k\/k=i) u (a.put o.dst x):=by
 refine⟨fun j k oj ok t tk E l s f q d J=>?_⟩;obtain⟨o1,T,t2,q1,D,X,U,R,z,L⟩:=st.q1 j k s;rw[f]at D;cases D;rw[d]at z;cases z;by_cases e:j=i
 ·subst e;rw[g]at l;cases l;have B:S k:=hr.all k L;refine⟨?_,.inl B⟩;rw[O k ok t tk s f q d J];have y:k≠j:=fun e=>c<|e▸B
  have:o.dst≠some tk:=(st.s6 k j ok o tk f g y d).1;rw[D3 this]
 ·have N:=E.resolve_right e;obtain⟨M,A⟩:=K.eq j k oj ok t tk N l s f q d ae;have r:k≠i:=fun h=>c<|h▸A
  have G:o.dst≠some t:=(st.s6 j i oj o t l g e q).1;have I:o.dst≠some tk:=(st.s6 k i ok o tk f g r d).1;rw[D3 G,D3 I];exact⟨M,.inl A⟩
theorem Inv.quiet(st:Stat ops anc ord pos sc)(cn:Canon C call ops anc ord pos fr0 h0 v Hh F)(d:Inv C ops pos sc fr0 v Hh F p0 h0 w0 df S m fl p a w){i:Nat}{o:Oper}(l:ops[i]?=some o)(I:¬S i)(G:CQ o=false)
  (u:CA o=true->Bd (F<|pos i) ops o=false) {x:Value} (U:((sc i).isSome=true->Bd (F<|pos i) ops o=true->pos i<m)->Ac p (v i) x):Inv C ops pos sc fr0 v Hh F p0 h0 w0 df (fun k=>S k\/k=i) m fl p (a.put o.dst x) w:=by
 have q:∀(k:Nat) (ok:Oper) (t:Tmp),k≠i->ops[k]?=some ok->ok.dst=some t->o.dst≠some t:=fun k ok t N c g=>(st.s6 k i ok o t c l N g).1
 refine⟨d.ext,d.gl,d.mn,fun k ok c M=>?_,fun k ok c K L=>.inl<|d.ma k ok c K L,by rw[Qo,d.sz],by rw[Pd,d.df],fun t g=>?_,fun k ok t A c g T=>?_,fun k ok A c B r s=>?_,
  fun k j ok oj A R c O B D r z s E he=>?_⟩
 ·rw[<-d.mh k ok c M];refine⟨fun h=>h.elim id fun e=>?_,.inl⟩;subst e;rw[l]at c;cases c;rw[G]at M;cases M
 ·have J:o.dst≠some t:=g i o (.inr rfl) l;rw[D3 J];exact d.slot t fun k ok A c=>g k ok (.inl A) c
 ·by_cases e:k=i
  ·subst e;rw[l]at c;cases c;rw[g,FQ<|by rw[d.sz];exact cn.dst k o t l g];exact U fun J h2=>T (.inr J) h2
  ·rw[D3<|q k ok t e c g];exact d.slotw k ok t (A.resolve_right e) c g T
 ·have e:k≠i:=by
   rintro rfl;rw[l]at c;cases c;rw[u B]at r;cases r
  obtain⟨n,y,ob,f,v',k1,k2,Y,X,k5,k6,W⟩:=d.flt k ok (A.resolve_right e) c B r s;exact⟨n,y,ob,f,v',k1,k2,Y,X,k5,k6,fun t g=>by rw[D3<|q k ok t e c g];exact W t g⟩
 ·have e:k≠i:=by
   rintro rfl;rw[l]at c;cases c;rw[u B]at r;cases r
  have Z:j≠i:=by
   rintro rfl;rw[l]at O;cases O;rw[u D]at z;cases z
  exact d.inj k j ok oj (A.resolve_right e) (R.resolve_right Z) c O B D r z s E he
theorem Inv.made(st:Stat ops anc ord pos sc)(d:Inv C ops pos sc fr0 v Hh F p0 h0 w0 df S m fl p a w){i:Nat}{o:Oper}(B:ops[i]?=some o)(r:CA o=true)(U:Bd (F<|pos i) ops o=true)(l:m<=pos i)
  (cn:Canon C call ops anc ord pos fr0 h0 v Hh F) {ob:O} {f:Nat->V} (I:eA C (F<|pos i) o=some (ob,f)) {x:Obj} {n:Nat} {v':Value} (hx:G8 p n ob x) (K:∀(q:Pl) b,q[b]?=some (w.heap.size,n)->Ac q (f b) v'):
  Inv C ops pos sc fr0 v Hh F p0 h0 w0 df (fun k=>S k\/k=i) m (fun k=>if k=i then w.heap.size else fl k) p (a.put o.dst v') { w with heap:=w.heap.push x }:=by
 have z:∀(k:Nat) (ok:Oper) (t:Tmp),k≠i->ops[k]?=some ok->ok.dst=some t->o.dst≠some t:=fun k ok t Y c g=>(st.s6 k i ok o t c B Y g).1
 have L:CQ o=false:=by simp[CQ,r]
 refine⟨d.ext.aside x,d.gl,d.mn,fun k ok c K=>?_,fun k ok c r s=>.inl<|d.ma k ok c r s,by rw[Qo,d.sz],by rw[Pd,d.df],fun t g=>?_,fun k ok t u c g hc=>?_,fun k ok u c R N l=>?_,
  fun k j ok oj u M c hj R G N J l A T=>?_⟩
 ·rw[<-d.mh k ok c K];refine⟨fun h=>h.elim id fun e=>?_,.inl⟩;subst e;rw[B]at c;cases c;rw[L]at K;cases K
 ·have h1:o.dst≠some t:=g i o (.inr rfl) B;rw[D3 h1];exact d.slot t fun k ok u c=>g k ok (.inl u) c
 ·by_cases e:k=i
  ·subst e;rw[B]at c;cases c;have:=hc (.inl r) U;omega
  ·rw[D3<|z k ok t e c g];exact d.slotw k ok t (u.resolve_right e) c g hc
 ·by_cases e:k=i
  ·subst e;rw[B]at c;cases c;refine⟨n,x,ob,f,v',I,by simp,by simpa using d.ext.size,fun X=>?_,hx,by simpa using K,fun t g=>?_⟩
   ·have:=d.ext.rel.Zp X;simp at this
   ·rw[g,FQ<|by rw[d.sz];exact cn.dst k o t B g]
  ·obtain⟨n',y,W,f',Z,k1,E,k3,k4,k5,k6,k7⟩:=d.flt k ok (u.resolve_right e) c R N l;have s:=(zc.1 E).1;refine⟨n',y,W,f',Z,k1,?_,by simpa [e]using k3,by simpa [e]using k4,k5,by simpa [e]using k6,fun t g=>by rw[D3<|z k ok t e c g];exact k7 t g⟩;simp only[e,vg,yb];rw[wc ae];exact E
 ·by_cases e:k=i<;>by_cases D:j=i
  ·rw[e,D]
  ·obtain⟨_,_,_,_,_,_,E,_⟩:=d.flt j oj (M.resolve_right D) hj G J A;have s:=(zc.1 E).1;simp only[e,wk,D,vg]at T;omega
  ·obtain⟨_,_,_,_,_,_,E,_⟩:=d.flt k ok (u.resolve_right e) c R N l;have s:=(zc.1 E).1;simp only[e,vg,D,wk]at T;omega
  ·simp only[e,vg,D]at T;exact d.inj k j ok oj (u.resolve_right e) (M.resolve_right D) c hj R G N J l A T
theorem Inv.wrote(st:Stat ops anc ord pos sc)(cn:Canon C call ops anc ord pos fr0 h0 v Hh F){i:Nat}{o:Oper}(d:Inv C ops pos sc fr0 v Hh F p0 h0 w0 df S (pos i) fl p a w)(A:ops[i]?=some o)(I:CQ o=true)(D:¬S i)
  {p':Pl} {w':World} {x:Value} (u:Ext p (Hh<|pos i) w p' (Hh<|pos i+1) w') (hx:Ac p' (v i) x):
  Inv C ops pos sc fr0 v Hh F p0 h0 w0 df (fun k=>S k\/k=i) (pos i+1) fl p' (a.put o.dst x) w':=by
 have l:∀(k:Nat) (ok:Oper) (t:Tmp),k≠i->ops[k]?=some ok->ok.dst=some t->o.dst≠some t:=fun k ok t U c g=>(st.s6 k i ok o t c A U g).1
 obtain⟨hnr,X⟩:=QP I;have z:=(zc.1 A).1;have r:∀ {k:Nat} {ok:Oper},ops[k]?=some ok->pos k=pos i->k=i:=fun {k ok} c e=>by
  have M:=(zc.1 c).1;rw[<-(st.posp k M).2,e,(st.posp i z).2]
 refine⟨d.ext.trans u,d.gl.ext u,(st.posp i z).1,fun k ok c Z=>?_,fun k ok c L B=>?_,by rw[Qo,d.sz],by rw[Pd,d.df],fun t g=>?_,fun k ok t s c g hc=>?_,fun k ok s c K G J=>?_,
  fun k j ok oj s W c hj K N G O J hle' R=>?_⟩
 ·constructor
  ·rintro(h|rfl)
   ·have:=(d.mh k ok c Z).1 h;omega
   ·omega
  ·intro h;by_cases e:pos k=pos i
   ·exact .inr<|r c e
   ·exact .inl ((d.mh k ok c Z).2 ae)
 ·by_cases e:pos k=pos i
  ·exact .inr<|r c e
  ·exact .inl (d.ma k ok c L ae)
 ·have E:o.dst≠some t:=g i o (.inr rfl) A;rw[D3 E];exact u.mG<|d.slot t fun k ok s c=>g k ok (.inl s) c
 ·by_cases e:k=i
  ·subst e;rw[A]at c;cases c;rw[g,FQ<|by rw[d.sz];exact cn.dst k o t A g];exact hx
  ·rw[D3<|l k ok t e c g];refine u.mG<|d.slotw k ok t (s.resolve_right e) c g fun E h2=>?_;have:=hc E h2;have h3:pos k≠pos i:=fun e2=>e<|r c e2
   omega
 ·have e:k≠i:=by
   rintro rfl;omega
  obtain⟨n,y,ob,f,v',k1,k2,k3,Y,k5,k6,k7⟩:=d.flt k ok (s.resolve_right e) c K G ae;have B:=(zc.1 k2).1;obtain⟨q,rfl⟩:=u.pre;refine⟨n,y,ob,f,v',k1,by rw[u.same _ B Y];exact k2,k3,fun T=>?_,k5.mono _,k6,fun t g=>by rw[D3<|l k ok t e c g];exact k7 t g⟩;rcases u.im _ T with h|h
  ·exact Y h
  ·omega
 ·have e:k≠i:=by rintro rfl;omega
  have e':j≠i:=by rintro rfl;omega
  exact d.inj k j ok oj (s.resolve_right e) (W.resolve_right e') c hj K N G O ae ae R
theorem Inv.along(c:Inv C ops pos sc fr0 v Hh F p0 h0 w0 df S m fl p a w){p':Pl}{w':World}(d:Ext p (Hh m) w p' (Hh m) w'):Inv C ops pos sc fr0 v Hh F p0 h0 w0 df S m fl p' a w':=by
 refine⟨c.ext.trans d,c.gl.ext d,c.mn,c.mh,c.ma,c.sz,c.df,fun t B=>d.mG<|c.slot t B,fun i o t s G u J=>d.mG<|c.slotw i o t s G u J,fun k ok D A I x e=>?_,c.inj⟩;obtain⟨n,y,ob,f,v',z,r,M,l,K,L,E⟩:=c.flt k ok D A I x e;have j:=(zc.1 r).1;obtain⟨q,rfl⟩:=d.pre;refine⟨n,y,ob,f,v',z,by rw[d.same _ j l];exact r,M,fun g=>?_,K.mono _,L,E⟩;rcases d.im _ g with h|h
 ·exact l h
 ·omega
theorem nF{o:Oper}(h:CA o=true):∀c,o.op≠ .defer c:=by
 intro c e;unfold CA at h;rw[e]at h;cases h
theorem up(hC:C.Ok P)(hcall:call.Ok C P)(st:Stat ops anc ord pos sc)(D:Canon C call ops anc ord pos fr0 h0 v Hh F)(G:Inv C ops pos sc fr0 v Hh F p0 h0 w0 df S m fl p a w)(W:MU ops pos sc S m a)(hd:Down anc S)(E:Rest ops pos S m)
  {i:Nat} {o:Oper} (g:ops[i]?=some o) (hr:R0 anc S i) {Q:Exit->Act->World->Prop} {K:Act->World->Prop}
  (X:∀m' fl' p' a' w',Inv C ops pos sc fr0 v Hh F p0 h0 w0 df (fun k=>S k\/k=i) m' fl' p' a' w'->MU ops pos sc (fun k=>S k\/k=i) m' a'->Rest ops pos (fun k=>S k\/k=i) m'->K a' w') {ro:Option Nat} {nn:Nat}:wpOpIn (FW ro) nn P ops Q i K a w:=by
 have hin:=(zc.1 g).1;have I:∀cs b,o.op≠ .select cs b:=fun cs b=>Region.noSelect_spec st.sel i o cs b g
 have r:Rest ops pos (fun k=>S k\/k=i) m:=by
  rcases E with h|⟨k,ok,R,h2,U,h4⟩
  ·exact .inl h
  ·exact .inr ⟨k,ok,R,h2,.inl U,h4⟩
 unfold wpOpIn;simp only[g];cases l:CQ o with
 |false=>
  by_cases hcp:(sc i).isSome=true/\m<=pos i
  ·
   obtain⟨k,hk⟩:=ym.1 hcp.1;obtain⟨o2,ok,t,q1,q2,M,q4,q5,q6,q7⟩:=st.q1 i k hk;rw[g]at q1;cases q1;have hw:Region.wanted o (yielded ops a.tmps)=true:=by unfold Region.wanted;rw[q4]
   simp only[hw,wk];refine⟨fun _ _=>trivial,?_⟩;have hrun:(execOp a.eval o).run P w=.ok (.value<|a.tmps.getD t undef) w:=by
    unfold execOp;rcases M with M|M<;>simp[M,Act.eval]
   rw[yc _ _ _ (fun c hc=>by rcases M with M|M<;>rw[M]at hc<;>cases hc),hrun,yd];have J:CA o=false:=by unfold CA;rcases M with M|M<;>rw[M]
   refine X m fl p _ w (G.quiet st D g hr.fresh l (fun h=>by rw[J]at h;cases h) (fun h=>by have:=h hcp.1 (by unfold Bd;rw[q4]);omega)) (W.put st g hr.fresh hr (zo _) fun k' ok' t' tk R h2 U h4 _=>?_) r;rw[hk]at R;cases R;rw[q2]at h2;cases h2;rw[q6]at h4;cases h4;rw[U,FQ<|by rw[G.sz];exact D.dst i o t' g U]
  have Y:∀k,sc i=some k->pos i<m:=fun k hk=>by
   rcases yq (pos i) m with h|h
   ·exact h
   ·exact wh ⟨by rw[hk];rfl,h⟩ hcp
  have hfl:∀(k:Nat) (ok:Oper) (t:Tmp),ops[k]?=some ok->(CA ok=true\/(sc k).isSome=true)->ok.dst=some t->t∈reads ops o->anc i k=true->pos k<m:=by
   intro k ok t hk T hkt ht L;rcases st.s3 k i ok o t hk g T l hkt ht L with h|⟨j,oj,j1,j2,j3,j4⟩
   ·have:=Y k h;have:=st.apos _ _ L;omega
   ·have:=(G.mh j oj j1 j2).1<|hr.all j j4;have:=st.apos _ _ j3;omega
  have B:∀x,MU ops pos sc (fun k=>S k\/k=i) m (a.put o.dst x):=fun x=>W.put st g hr.fresh hr (zo _) fun k ok t tk R _ _ _ h5=>by have:=Y k R;omega
  have z:=operands st D G hd g hr hfl;rw[Re z];rcases D.step i o g with⟨u1,u2,y⟩|⟨u1,u⟩
  ·simp only[u1,zu,vg];refine⟨fun _ _=>trivial,?_⟩;exact X m fl p _ w (G.quiet st D g hr.fresh l (fun _=>u1)<|fun _=>by rw[u2];simp[Ac,undef]) (B _) r
  ·simp only[u1,wk];refine⟨fun _ _=>trivial,?_⟩;rcases u with⟨u2,y,u4⟩|⟨u2,ob,f,y,u4,u5⟩|⟨u2,y⟩
   ·have Z:=W2 st D hd G E g hr u2 u1 y;obtain⟨v',p',w',O,N,g3⟩:=Jn hC G.ext.rel G.gl z I Z;rw[yc _ _ _<|Hm Z,O,yd];have hi2:=G.along g3;exact X m fl p' _ w' (hi2.quiet st D g hr.fresh l (fun h=>by rw[JK u2]at h;cases h) fun _=>N) (B _) r
   ·have hle:m<=pos i:=by
     rcases QK st hd G E g hr.fresh with h|⟨k,ok,R,h2,U,h4,h5,h6⟩
     ·exact h
     ·rcases st.s4 k i ok o R g h2 u2 with h7|h7
      ·rw[h6]at h7;cases h7
      ·omega
    obtain⟨x,n,v',O,N,g3⟩:=Aa7 (P:=P) hC G.gl z y;rw[yc _ _ _<|nF u2,O,yd];exact X m _ p _ _ (G.made st g u2 u1 hle D y N g3) (B _) r
   ·rw[l]at u2;cases u2
 |true=>
  obtain⟨hnr,J⟩:=QP l;have hle:m<=pos i:=by
   rcases yq (pos i) m with h|h
   ·exact wh ((G.mh i o g l).2 h) hr.fresh
   ·exact h
  have hpn:=(st.posp i hin).1;obtain⟨p1,d⟩:=Inv.adv st D (pos i-m) m G W ae (fun q R h2 oq hq=>by
   obtain⟨O,N⟩:=st.ordp q ae;refine⟨?_,fun T=>?_⟩
   ·cases hv:CQ oq with
    |false=>rfl
    |true=>exact(QH st G g hr J hq hv (by rw[N];omega)<|by rw[N];omega).elim
   ·rcases st.s4 i (ord q) o oq g hq l T with U|U
    ·exact hr.all _ U
    ·rw[N]at U;omega)
  rw[show m+(pos i-m)=pos i from by omega]at d;have z:=operands st D d hd g hr fun k ok t hk T _ _ L=>st.apos _ _ L
  have B:∀x,MU ops pos sc (fun k=>S k\/k=i) (pos i+1) (a.put o.dst x):=fun x=>W.put st g hr.fresh hr ae fun k ok t tk _ _ _ _ h5=>by omega
  rw[Re z];have s:Rest ops pos (fun k=>S k\/k=i) (pos i+1):=.inr ⟨i,o,g,l,.inr rfl,rfl⟩;rcases D.step i o g with⟨u1,u2,y⟩|⟨u1,u⟩
  ·simp only[u1,zu,vg];refine⟨fun _ _=>trivial,?_⟩;have he:Ext p1 (Hh<|pos i) w p1 (Hh<|pos i+1) w:=by rw[y];exact yh d.ext.rel
   exact X _ _ _ _ _ (d.wrote st D g l hr.fresh he<|by rw[u2];simp[Ac,undef]) (B _) s
  ·simp only[u1,wk];refine⟨fun _ _=>trivial,?_⟩;rcases u with⟨u2,y,u4⟩|⟨u2,ob,f,y,u4,u5⟩|⟨u2,y⟩
   ·rw[hnr]at u2;cases u2
   ·rw[J]at u2;cases u2
   ·unfold DR at y;split at y
    case h_4=>cases y
    case h_1=>
     rename_i vv hh A;simp only[ze,zl]at y;obtain⟨rfl,rfl⟩:=y;obtain⟨v',p',w',O,N,g3⟩:=Jn hC d.ext.rel d.gl z I A;rw[yc _ _ _<|Hm A,O,yd];exact X _ _ _ _ _ (d.wrote st D g l hr.fresh g3 N) (B _) s
    case h_2=>
     rename_i hh A;simp only[ze,zl]at y;obtain⟨u4,rfl⟩:=y;obtain⟨p',w',O,g3⟩:=Jn hC d.ext.rel d.gl z I A;rw[yc _ _ _<|Hm A,O,Oper.uponIn_skip];exact X _ _ _ _ _ (d.wrote st D g l hr.fresh g3<|by rw[<-u4];simp[Ac,undef]) (B _) s
    case h_3=>
     rename_i f args A;obtain⟨args',O,N⟩:=Jn hC d.ext.rel d.gl z I A;rw[yc _ _ _<|Hm A,O,Oper.uponIn_enter];split at y
     case h_2=>cases y
     rename_i x1 x2 hcl;cases y;refine⟨fun h=>(by simp[FW,yi]at h),XR.2<|(hcall.fn f args _ _ hcl p1 w args' d.ext.rel d.gl N).mono ?_⟩;rintro e w' ⟨v',h',x',p',hm,rfl,k1,k2⟩;rw[zf]at hm;cases hm;exact X _ _ _ _ _ (d.wrote st D g l hr.fresh k2 k1) (B _) s
theorem Inv.congr{c:Nat->Prop}(h:∀k,S k↔c k)(d:Inv C ops pos sc fr0 v Hh F p0 h0 w0 df S m fl p a w):Inv C ops pos sc fr0 v Hh F p0 h0 w0 df c m fl p a w:=by
 have e:S=c:=funext fun k=>propext<|h k
 exact e▸d
theorem MU.congr{c:Nat->Prop}(h:∀k,S k↔c k)(d:MU ops pos sc S m a):MU ops pos sc c m a:=by
 have e:S=c:=funext fun k=>propext<|h k
 exact e▸d
theorem Rest.congr{c:Nat->Prop}(h:∀k,S k↔c k)(d:Rest ops pos S m):Rest ops pos c m:=by
 have e:S=c:=funext fun k=>propext<|h k
 exact e▸d
def Ls(l:Array Bool)(k:Nat):Prop:=l.getD k false=true
theorem Vq{l:Array Bool}(n:Nat)(o:l.size=n){i:Nat}(g:i<n)(q:l.getD i true=false):
  ((zq n).filter fun k=> !(l.setIfInBounds i true).getD k true).length<((zq n).filter fun k=> !l.getD k true).length:=by
 have sub:∀k,(!(l.setIfInBounds i true).getD k true)=true->(!l.getD k true)=true:=by
  intro k j;by_cases e:i=k
  ·subst e;simp[o,g]at j
  ·rwa [getD_set_ne true e]at j
 have key:∀(L:List Nat),(L.filter fun k=> !(l.setIfInBounds i true).getD k true).length<=(L.filter fun k=> !l.getD k true).length/\(i∈L->(L.filter fun k=> !(l.setIfInBounds i true).getD k true).length<(L.filter fun k=> !l.getD k true).length):=by
  intro L;induction L with
  |nil=>simp
  |cons x L f=>
   simp only[List.filter_cons];constructor
   ·by_cases c:(!(l.setIfInBounds i true).getD x true)=true
    ·rw[wd c,wd<|sub x c];simp only[zt];have:=f.1;omega
    ·rw[wc c];have:=f.1;split<;>(try simp only[zt])<;>omega
   ·intro r;by_cases e:i=x
    ·subst e;rw[wc (by simp[o,g]),wd<|by simp[q]];simp only[zt];have:=f.1;omega
    ·have d:i∈L:=by simpa [e]using r
     by_cases c:(!(l.setIfInBounds i true).getD x true)=true
     ·rw[wd c,wd<|sub x c];simp only[zt];have:=f.2 d;omega
     ·rw[wc c];have:=f.2 d;split<;>(try simp only[zt])<;>omega
 exact(key<|zq n).2 (by simpa using g)
theorem oU(hC:C.Ok P)(I:call.Ok C P)(st:Stat ops anc ord pos sc)(T:Canon C call ops anc ord pos fr0 h0 v Hh F){Q:Exit->Act->World->Prop}
  (hQ:∀p' W w',CM p' (F ops.size) W->Ext p0 h0 w0 p' (Hh ops.size) w'->W.defers=df->Q .normal W w') {ro:Option Nat} {nn:Nat}:
  ∀(d:Nat) (l:Array Bool),l.size=ops.size->((zq ops.size).filter fun k=> !l.getD k true).length<=d->∀ {m:Nat} {fl:Nat->Nat} {p:Pl} {a:Act} {w:World},
   Inv C ops pos sc fr0 v Hh F p0 h0 w0 df (Ls l) m fl p a w->MU ops pos sc (Ls l) m a->Down anc (Ls l)->Rest ops pos (Ls l) m->wpAnyIn (FW ro) nn P .any ops Q d l a w:=by
 have fin:∀(l:Array Bool),l.size=ops.size->yg .any ops l=[]->∀ {m:Nat} {fl:Nat->Nat} {p:Pl} {a:Act} {w:World},
   Inv C ops pos sc fr0 v Hh F p0 h0 w0 df (Ls l) m fl p a w->MU ops pos sc (Ls l) m a->Q .normal a w:=by
  intro l L s m fl p a w A u;have all:∀q,q<=ops.size->∀k,k<ops.size->pos k<q->Ls l k:=by
   intro q;induction q with
   |zero=>intro _ k _ h;omega
   |succ q X=>
    intro hq k c hlt;by_cases e:pos k=q
    ·apply z8;intro J;have E:k∈yg .any ops l:=by
      rw[mem_ready];refine⟨?_,ops[k],by simp[c],fun e' he' hb=>?_⟩
      ·unfold Ls at J;have:k<l.size:=ae
       simp only[zk,yk this,yo]at J ⊢;simpa using J
      ·obtain⟨B,G⟩:=st.dir k _ e' (by simp[c]) he' hb;have h3:=st.apos _ _ B;exact X ae e'.on G ae
     rw[s]at E;cases E
    ·exact X ae k c ae
  have z:∀k,k<ops.size->Ls l k:=fun k c=>all ops.size (zo _) k c (st.posp k c).1
  obtain⟨p',f⟩:=Inv.adv st T (ops.size-m) m A u (by have:=A.mn;omega) (fun q B G o ho=>by
   obtain⟨R,g2⟩:=st.ordp q (by have:=A.mn;omega);refine⟨?_,fun _=>z _ R⟩;cases hv:CQ o with
   |false=>rfl
   |true=>have:=(A.mh _ o ho hv).1<|z _ R;omega)
  rw[show m+(ops.size-m)=ops.size from by have:=A.mn;omega]at f;refine hQ p' a w ⟨by rw[T.fn _<|zo _,f.sz],fun t=>?_⟩ f.ext f.df;by_cases hw:∃(k:Nat) (ok:Oper),ops[k]?=some ok/\ok.dst=some t
  ·obtain⟨k,ok,c,r⟩:=hw;have K:=(zc.1 c).1;rw[Fw st T c r _ (zo _) (st.posp k K).1];exact f.slotw k ok t (z k K) c r fun _ _=>(st.posp k K).1
  ·rw[Fz st T _ (zo _) fun k ok c r _=>hw ⟨k,ok,c,r⟩];exact f.slot t fun k ok _ c r=>hw ⟨k,ok,c,r⟩
 intro d;induction d with
 |zero=>
  intro l L U m fl p a w A u Y y;have s:yg .any ops l=[]:=by
   cases hc:yg .any ops l with
   |nil=>rfl
   |cons k ks=>
    have hm:k∈yg .any ops l:=by rw[hc];simp
    obtain⟨B,o,G,_⟩:=mem_ready.1 hm;have c:=(zc.1 G).1;have:k∈(zq ops.size).filter fun k=> !l.getD k true:=List.mem_filter.2 ⟨by simpa using c,by simp[B]⟩
    have:=List.length_pos_of_mem this;omega
  exact⟨s,fin l L s A u⟩
 |succ d X=>
  intro l L U m fl p a w A u Y y;refine⟨fun s=>fin l L s A u,fun i hm=>?_⟩;obtain⟨B,o,G,h3⟩:=mem_ready.1 hm;have hin:=(zc.1 G).1;have N:i<l.size:=ae
  have g:R0 anc (Ls l) i:=by
   refine⟨fun hs=>?_,fun k c=>?_⟩
   ·unfold Ls at hs;simp only[zk,yk N,yo]at hs B;rw[hs]at B;cases B
   ·obtain⟨o',e,R,g2,g3,g4⟩:=st.edge i k c;rw[G]at R;cases R;have O:=h3 e g2 g3;rcases g4 with g4|g4
    ·rw[<-g4];exact O
    ·exact Y e.on k O g4
  refine up hC I st T A u Y y G g fun m' fl' p' W w' f M D=>?_
  have Z:∀k,(Ls l k\/k=i)↔Ls (l.setIfInBounds i true) k:=by
   intro k;unfold Ls;by_cases e:k=i
   ·subst e;simp[N]
   ·rw[getD_set_ne false<|fun x=>e x.symm];simp[e]
  refine X (l.setIfInBounds i true) (by simpa using L) ?_ (f.congr Z) (M.congr Z) ?_<|D.congr Z
  ·have:=Vq ops.size L hin B;omega
  ·intro j k hj c;rw[<-Z]at hj ⊢;rcases hj with hj|rfl
   ·exact .inl<|Y j k hj c
   ·exact .inl<|g.all k c
theorem gK(s:C.Ok P)(d:call.Ok C P)(y:P.follows .mixedOrders=true)(st:Stat ops anc ord pos sc)(g:Canon C call ops anc ord pos fr0 h0 v Hh F){Q:Exit->Act->World->Prop}(hr:R p h0 w)(q:Gl C p)(l:CM p fr0 a)
  {id:Nat} (u:∀p' f w',CM p' (F ops.size) f->Ext p h0 w p' (Hh ops.size) w'->f.defers=a.defers->Q .normal f w') {ro:Option Nat} {x:Nat}:(yu id ops true).wpIn (FW ro) x P Q a w:=by
 refine wpIn_region_any y ?_;have r:=Ext.drew hr<|w.drawn+1;have c:∀k,¬Ls (yr ops.size false) k:=by
  intro k e;unfold Ls at e;rw[zk]at e;by_cases h:k<ops.size
  ·simp[h]at e
  ·rw[Array.getElem?_eq_none<|by simpa using h]at e;simp at e
 refine oU (p0:=p) (h0:=h0) (w0:=w) (df:=a.defers) s d st g u ops.size _ (by simp) (by simpa using List.length_filter_le _ (zq ops.size)) (m:=0) (fl:=fun _=>0) (p:=p)
  ⟨by rw[g.h0];exact r,q,Nat.zero_le _,fun k o _ _=>⟨fun h=>wh h<|c k,fun h=>by omega⟩,fun k o _ _ h=>by omega,l.1.symm,rfl,fun t _=>l.2 t,fun i o t h=>wh h<|c i,fun i o h=>wh h<|c i,fun i j o o' h=>wh h<|c i⟩
  ⟨fun i k o ok t tk h=>wh h<|c i⟩ (fun i k h=>wh h<|c i) (.inl rfl)
end
structure NH where
 anc:List Nat
 ord:List Nat
 pos:List Nat
 sc:List (Option Nat)
def Acv(acc:List Nat)(o:Oper):Nat:=
 o.after.toList.foldl (fun s e=>bif yf .any e then s|||(2^e.on|||acc.getD e.on 0)else s) 0
def yF:List Oper->List Nat->List Nat
 |[],c=>c
 |o::os,c=>yF os<|c++[Acv c o]
def tb(m i:Nat):Bool:=m.testBit i
def sub(a d:Nat):Bool:=zi (a&&&d) a
def Jv(f:Nat->Oper->Bool):Nat->List Oper->Option Nat
 |_,[]=>none
 |i,o::os=>bif f i o then some i else Jv f (i+1) os
def oN(f:Nat->Oper->Bool):Nat->List Oper->List Nat
 |_,[]=>[]
 |i,o::os=>bif f i o then i::oN f (i+1) os else oN f (i+1) os
def UW(ops:List Oper)(anc:List Nat):Nat->Nat->List Nat->List Nat
 |0,_,out=>out.reverse
 |fuel+1,d,out=>
  match Jv (fun i o=>EG o&& !tb d i&&sub (anc.getD i 0) d) 0 ops with
  |some i=>UW ops anc fuel (d|||2^i) (i::out)
  |none=>
   match Jv (fun i o=>CQ o&& !tb d i) 0 ops with
   |some k=>
    let c:=oN (fun i o=>CA o&& !tb d i&&tb (anc.getD k 0) i) 0 ops
    bif c.isEmpty then UW ops anc fuel (d|||2^k) (k::out)
    else UW ops anc fuel (c.foldl (fun s i=>s|||2^i) d)<|c.reverse++out
   |none=>
    match Jv (fun i o=>CA o&& !tb d i) 0 ops with
    |some i=>UW ops anc fuel (d|||2^i) (i::out)
    |none=>out.reverse
def idx(l:List Nat)(i:Nat):Nat:=l.getD i 0
def AcE(ord:List Nat)(n:Nat):List Nat:=(zq n).map fun i=>ord.idxOf i
def Tz(o:Oper):Option Tmp:=
 match o.guard,o.op with
 |none,.assign (.tmp t)=>some t
 |none,.move (.tmp t)=>some t
 |_,_=>none
def AeV(ops:List Oper)(anc:List Nat)(i:Nat)(o:Oper):Option Nat:=
 match Tz o with
 |some t=>
  match Jv (fun k x=>CA x&&(x.dst==some t)&&tb (anc.getD i 0) k) 0 ops with
  |some k=>match Jv (fun h x=>CQ x&&tb (anc.getD h 0) k&&tb (anc.getD i 0) h) 0 ops with
   |none=>some k
   |some _=>none
  |none=>none
 |none=>none
def EY(ops:Array Oper):NH:=
 let anc:=yF ops.toList []
 let ord:=UW ops.toList anc (3*ops.size+3) 0 []
 ⟨anc,ord,AcE ord ops.size,ops.toList.zipIdx.map fun(o,i)=>AeV ops.toList anc i o⟩
def NH.s(pl:NH)(i:Nat):Option Nat:=pl.sc.getD i none
def NH.a(pl:NH)(j i:Nat):Bool:=(idx pl.anc j).testBit i
def YU(ops:Array Oper)(f:Nat->Oper->Nat->Oper->Bool):Bool:=
 ops.toList.zipIdx.all fun(o,i)=>ops.toList.zipIdx.all fun(o',j)=>f i o j o'
def Ii(ops:Array Oper)(pl:NH):Bool:=
 let n:=ops.size
 let A:=pl.a
 let pos:=idx pl.pos
 let ord:=idx pl.ord
 Region.noSelect ops&&
 ((zq n).all fun q=>zz (ord q) n&&zi (pos<|ord q) q)&&
 ((zq n).all fun i=>zz (pos i) n&&zi (ord<|pos i) i)&&
 (pl.anc.length==n)&&(pl.ord.length==n)&&
 (pl.sc.zipIdx.all fun(s,i)=>match s with
  |none=>true
  |some k=>match ops[i]?,ops[k]? with
   |some o,some ok=>match Tz o with
    |some t=>CA ok&&(ok.dst==some t)&&A i k
    |none=>false
   |_,_=>false)&&
 (ops.toList.zipIdx.all fun(o,j)=>zz (idx pl.anc j) (2^n)&&
  ((zq n).all fun i=> !A j i||((o.after.toList.any fun e=>yf .any e&&(zi e.on i||A e.on i))&&zz (pos i) (pos j)))&&
  (o.after.toList.all fun e=> !yf .any e||(A j e.on&&zz e.on n)))&&
 (YU ops fun i o j o'=>
  (!(CQ o&&CQ o')||zi i j||A i j||A j i)&&
  (!(CQ o&&EG o')||A j i||zz (pos j) (pos i))&&
  (!((CA o||(pl.s i).isSome)&& !CQ o')|| !A j i||(match o.dst with|some t=> !((reads ops o').contains t)|none=>true)||(pl.s j==some i)||(ops.toList.zipIdx.any fun(x,k)=>CQ x&&A k i&&A j k))&&
  (!(CQ o&&CA o')||A i j||zz (pos i) (pos j))&&
  (!(EG o&&PN o&&CA o')|| !zz (pos j) (pos i)||(ops.toList.zipIdx.any fun(x,k)=>CQ x&&zz (pos j) (pos k)&&zz (pos k) (pos i)))&&
  (zi i j||(match o.dst with
   |none=>true
   |some t=> !(o'.dst==some t)&&(!((reads ops o').contains t)||A j i||A i j))))
theorem JE{ops:Array Oper}{i:Nat}{o:Oper}(h:ops[i]?=some o):(o,i)∈ops.toList.zipIdx:=by
 have:=(zc.1 h);obtain⟨c,d⟩:=this;rw[zw];simpa using h
theorem mX{ops:Array Oper}{i:Nat}{o:Oper}(h:(o,i)∈ops.toList.zipIdx):ops[i]?=some o:=by
 rw[zw]at h;simpa using h
theorem Vf{o:Oper}{t:Tmp}(h:Tz o=some t):(o.op=.assign (.tmp t)\/o.op=.move (.tmp t))/\o.guard=none:=by
 unfold Tz at h;split at h
 ·cases h;rename_i c d;exact⟨.inl d,c⟩
 ·cases h;rename_i c d;exact⟨.inr d,c⟩
 ·cases h
theorem Y6{ops:Array Oper}{pl:NH}(M:Ii ops pl=true):Stat ops pl.a (idx pl.ord) (idx pl.pos) pl.s:=by
 unfold Ii at M;simp only[zd]at M;obtain⟨⟨⟨⟨⟨⟨⟨h0,O⟩,R⟩,h3⟩,_⟩,J⟩,y⟩,h5⟩:=M;simp only[zm,yv,zd,yp,Bp,w5]at O R;simp only[zm]at y;have r:∀(i j:Nat) (o o':Oper),ops[i]?=some o->ops[j]?=some o'->_:=fun i j o o' g f=>zm.1 (zm.1 h5 (o,i)<|JE g) (o',j)<|JE f
 simp only[zd,zp,zx,Bp,w5,Ht,w9,Bool.and_eq_false_imp]at r;have l:∀(j i:Nat),pl.a j i=true->j<ops.size/\i<ops.size:=by
  intro j i h;have f:j<ops.size:=by
   rcases yq j ops.size with c|c
   ·exact c
   ·have hl:pl.anc.length=ops.size:=by simpa using h3
    unfold NH.a idx at h;rw[zy,List.getElem?_eq_none ae]at h;simp at h
  refine⟨f,?_⟩;have c:=y (ops[j],j) (JE<|by simp[f]);simp only[zd,yp]at c;rcases yq i ops.size with d|d
  ·exact d
  ·have z:=c.1.1;have X:idx pl.anc j<2^i:=Nat.lt_of_lt_of_le z (Nat.pow_le_pow_right ae d);unfold NH.a at h;rw[Nat.testBit_lt_two_pow X]at h;cases h
 refine⟨h0,fun q J=>O q J,fun i g=>R i g,fun j i h=>?_,fun j o e f N T=>?_,fun j i h=>?_,fun i j o o' g f G Z D=>?_,fun i j o o' g f G hr=>?_,fun i k h=>?_,fun j k o o' t f hk E G B u h=>?_,fun i j o o' g f G E=>?_,
  fun i j o o' g f hr K E W=>?_,fun i j o o' t g f D B=>?_⟩
 ·obtain⟨f,g⟩:=l j i h;have c:=y (ops[j],j) (JE<|by simp[f]);simp only[zd,zm,yv,zp,zx]at c;rcases c.1.2 i g with d|d
  ·rw[h]at d;cases d
  ·obtain⟨e,N,z⟩:=ye.1 d.1;simp only[zd,zp,Bp,w5]at z;exact⟨ops[j],e,by simp[f],by simpa using N,z.1,z.2⟩
 ·have c:=y (o,j)<|JE f;simp only[zd,zm,zp,zx,yp]at c;rcases c.2 e (by simpa using N)with d|d
  ·rw[T]at d;cases d
  ·exact d
 ·obtain⟨f,g⟩:=l j i h;have c:=y (ops[j],j) (JE<|by simp[f]);simp only[zd,zm,yv,zp,zx,yp]at c;rcases c.1.2 i g with d|d
  ·rw[h]at d;cases d
  ·exact d.2
 ·have:=(r i j o o' g f).1.1.1.1.1;simp_all
 ·have:=(r i j o o' g f).1.1.1.1.2;simp_all
 ·have u:(pl.s i,i)∈pl.sc.zipIdx:=by
   rw[zw];unfold NH.s at h ⊢;rw[zy]at h ⊢;cases hg:pl.sc[i]? with
   |none=>rw[hg]at h;cases h
   |some x=>rfl
  have c:=zm.1 J _ u;simp only[h]at c;split at c
  case h_2=>cases c
  rename_i o ok U I;split at c
  case h_2=>cases c
  rename_i t B;simp only[zd,wj]at c;obtain⟨Y,g2⟩:=Vf B;exact⟨o,ok,t,U,I,Y,g2,c.1.1,c.1.2,c.2⟩
 ·have c:=(r j k o o' f hk).1.1.1.2;have A:(CA o||(pl.s j).isSome)=true:=by simpa using E
  rw[G,h,B]at c;have hc:(reads ops o').contains t=true:=by simpa using u
  simp only[zp]at A;simp only[hc,Bool.not_false,Bool.not_true,zu,or_false,Bool.true_eq_false]at c;rcases c with(c|c)|c
  ·exact wh A (fun d=>by simpa using c d)
  ·exact .inl (by simpa using c)
  ·obtain⟨⟨x,i⟩,L,d⟩:=ye.1 c;simp only[zd]at d;exact .inr ⟨i,x,mX L,d.1.1,d.1.2,d.2⟩
 ·have:=(r i j o o' g f).1.1.2;simp_all
 ·have c:=(r i j o o' g f).1.2;rw[hr,K,E]at c;simp only[vf,forall_const,Bool.true_eq_false,false_or]at c;rcases c with c|c
  ·omega
  ·obtain⟨⟨x,k⟩,u,d⟩:=ye.1 c;simp only[zd,w5]at d;exact⟨k,x,mX u,d.1.1,d.1.2,d.2⟩
 ·have c:=(r i j o o' g f).2;rcases c with c|c
  ·exact wh c D
  ·rw[B]at c;simp only[zd,zx,zp,vc]at c;refine⟨c.1,fun u=>?_⟩;rcases c.2 with(d|d)|d
   ·have:(reads ops o').contains t=true:=by simpa using u
    rw[this]at d;cases d
   ·exact .inl d
   ·exact .inr d
theorem vG{ops:Array Oper}{pl:NH}(c:Ii ops pl=true):pl.ord.length=ops.size:=by
 unfold Ii at c;simp only[zd]at c;obtain⟨⟨⟨⟨⟨⟨⟨h0,e⟩,l⟩,f⟩,d⟩,j⟩,i⟩,g⟩:=c;simpa using d
mutual
def V.beq:V->V->Bool
 | .bool a,.bool b=>a==b
 | .int k a,.int l b=>k==l&&a==b
 | .str a,.str b=>a==b
 | .nilp,.nilp=>true
 | .ptr a i,.ptr b j=>zi a b&&zi i j
 | .nils,.nils=>true
 | .sl a b c d e,.sl q b' o r s=>zi a q&&zi b b'&&zi c o&&zi d r&&zi e s
 | .esl,.esl=>true
 | .es0,.es0=>true
 | .junk,.junk=>true
 | .nilm,.nilm=>true
 | .map a,.map b=>zi a b
 | .yld a,.yld b=>zi a b
 | .nilf,.nilf=>true
 | .nili,.nili=>true
 | .fn f a b,.fn g c d=>f==g&&V.Me a c&&V.Me b d
 | .iface t x,.iface u y=>zi t u&&V.beq x y
 | .agg a,.agg b=>V.Me a b
 | .tup a,.tup b=>V.Me a b
 |_,_=>false
def V.Me:List V->List V->Bool
 |[],[]=>true
 |a::c,b::d=>V.beq a b&&V.Me c d
 |_,_=>false
end
mutual
theorem V.beq_eq:∀ {a b:V},V.beq a b=true->a=b:=by
 intro a b h;cases a<;>cases b<;>simp only[V.beq]at h<;>first
  |(cases h;done)
  |rfl
  |(simp only[zd,wj,Bp,w5]at h;first|(obtain rfl:=h;rfl)|(obtain⟨rfl,rfl⟩:=h;rfl)|(obtain⟨⟨⟨⟨rfl,rfl⟩,rfl⟩,rfl⟩,rfl⟩:=h;rfl))
  |skip
 case fn.fn f a b g c d=>
  simp only[zd,wj]at h;rw[h.1.1,V.HY h.1.2,V.HY h.2]
 case iface.iface t x u y=>
  simp only[zd,Bp,w5]at h;rw[h.1,V.beq_eq h.2]
 case agg.agg a b=>rw[V.HY h]
 case tup.tup a b=>rw[V.HY h]
theorem V.HY:∀ {a b:List V},V.Me a b=true->a=b
 |[],[],_=>rfl
 |[],_::_,h=>by simp[V.Me]at h
 |_::_,[],h=>by simp[V.Me]at h
 |a::c,b::d,h=>by
  simp only[V.Me,zd]at h;rw[V.beq_eq h.1,V.HY h.2]
end
structure Rc where
 i:Nat
 o:Oper
 f:Fr
 v:V
structure St where
 f:Fr
 h:H
 r:List Rc
def still(C:Ctx)(anc:Nat->Nat->Bool)(i:Nat)(h:H)(r:Rc):Bool:=
 anc i r.i||(match GI C r.f h r.o with
  |some (.val x _)=>V.beq x r.v
  |_=>false)
def Ih(C:Ctx)(call:DH)(ops:Array Oper)(anc:Nat->Nat->Bool)(i:Nat)(s:St):Option (V×St):=
 match ops[i]? with
 |none=>none
 |some o=>
  bif Bd s.f ops o then
   bif EG o then
    match GI C s.f s.h o with
    |some (.val v _)=>match s.f.put o.dst v with
     |some c=>some (v,⟨c,s.h,bif PN o then⟨i,o,s.f,v⟩::s.r else s.r⟩)
     |none=>none
    |_=>none
   else bif CA o then
    match eA C s.f o with
    |some (ob,f)=>match s.f.put o.dst (f s.h.nx)with
     |some c=>some (f s.h.nx,⟨c,s.h.push ob,s.r⟩)
     |none=>none
    |none=>none
   else
    match DR C call s.f s.h o with
    |some (v,h')=>match s.f.put o.dst v with
     |some c=>bif s.r.all (still C anc i h')then some (v,⟨c,h',s.r⟩)else none
     |none=>none
    |none=>none
  else
   match s.f.put o.dst (.tup [])with
   |some c=>bif CQ o then(bif s.r.all (still C anc i s.h)then some (.tup [],⟨c,s.h,s.r⟩)else none)else some (.tup [],⟨c,s.h,s.r⟩)
   |none=>none
def UH(C:Ctx)(call:DH)(ops:Array Oper)(anc:Nat->Nat->Bool):List Nat->St->Option St
 |[],s=>some s
 |i::d,s=>match Ih C call ops anc i s with
  |some (_,c)=>UH C call ops anc d c
  |none=>none
def I4(C:Ctx)(call:DH)(ops:Array Oper)(fr:Fr)(h:H):Option (Fr×H):=
 match UH C call ops (EY ops).a (EY ops).ord ⟨fr,h,[]⟩with
 |some s=>some (s.f,s.h)
 |none=>none
def UY(C:Ctx)(call:DH)(ops:Array Oper)(fr:Fr)(h:H):Option (Fr×H):=
 bif Ii ops (EY ops)then I4 C call ops fr h else none
def DY:Code->Bool
 | .region _ ops dr=>bif dr then Ii ops (EY ops)else true
 | .seq a b=>DY a&&DY b
 | .cond _ a b=>DY a&&DY b
 | .block _ b=>DY b
 | .loop b=>DY b
 | .scope b=>DY b
 |_=>true
section
variable {C:Ctx}{P:Program}{call:DH}{ops:Array Oper}{p:Pl}{h:H}{w:World}{fr:Fr}{a:Act}
theorem KY{f g:Fr}{d:Option Nat}{v:V}(h:f.put d v=some g):g.n=f.n/\(∀t,g.get t=if d=some t then v else f.get t)/\∀t,d=some t->t<f.n:=by
 unfold Fr.put at h;cases d with
 |none=>cases h;exact⟨rfl,fun t=>by simp,fun t h=>by cases h⟩
 |some s=>
  simp only[Ht]at h;by_cases c:s<f.n
  ·simp only[c,decide_true,we,ze]at h;subst h;refine⟨rfl,fun t=>?_,fun t i=>by cases i;exact c⟩;unfold Fr.get;simp only[PM.Dm];by_cases e:t=s
   ·subst e;simp
   ·have:¬s=t:=fun x=>e x.symm
    simp[e,this]
  ·simp[c]at h
theorem D6{anc:Nat->Nat->Bool}{i:Nat}{s g:St}{v:V}(c:Ih C call ops anc i s=some (v,g)):∃o,ops[i]?=some o/\g.f.n=s.f.n/\(∀t,g.f.get t=if o.dst=some t then v else s.f.get t)/\(∀t,o.dst=some t->t<s.f.n)/\
  ((Bd s.f ops o=false/\v=.tup []/\g.h=s.h)\/
   (Bd s.f ops o=true/\
   ((EG o=true/\GI C s.f s.h o=some (.val v s.h)/\g.h=s.h)\/
    (CA o=true/\∃ob f,eA C s.f o=some (ob,f)/\v=f s.h.nx/\g.h=s.h.push ob)\/
    (CQ o=true/\DR C call s.f s.h o=some (v,g.h)))))/\
  (∀r∈s.r,r∈g.r)/\(EG o=true->PN o=true->Bd s.f ops o=true->⟨i,o,s.f,v⟩∈g.r)/\
  (CQ o=true->∀r∈s.r,still C anc i g.h r=true):=by
 unfold Ih at c;split at c
 case h_1=>cases c
 rename_i o G;refine⟨o,G,?_⟩;cases E:Bd s.f ops o with
 |false=>
  simp only[E,wg]at c;split at c
  case h_2=>cases c
  rename_i A hp;obtain⟨j,q,l⟩:=KY hp;cases x:CQ o with
  |false=>
   simp only[x,wg,ze,zl]at c;obtain⟨rfl,rfl⟩:=c;exact⟨j,q,l,.inl ⟨rfl,rfl,rfl⟩,fun r hr=>hr,fun _ _ h=>(by cases h),fun h=>(by cases h)⟩
  |true=>
   simp only[x,we]at c;cases u:s.r.all (still C anc i s.h)with
   |false=>simp[u]at c
   |true=>
    simp only[u,we,ze,zl]at c;obtain⟨rfl,rfl⟩:=c;exact⟨j,q,l,.inl ⟨rfl,rfl,rfl⟩,fun r hr=>hr,fun _ _ h=>(by cases h),fun _ r hr=>zm.1 u r hr⟩
 |true=>
  simp only[E,we]at c;cases d:EG o with
  |true=>
   simp only[d,we]at c;split at c
   case h_2=>cases c
   rename_i v1 D y;split at c
   case h_2=>cases c
   rename_i A hp;simp only[ze,zl]at c;obtain⟨rfl,rfl⟩:=c;obtain⟨j,q,l⟩:=KY hp;obtain⟨v2,hv2⟩:=rd_val d y;cases hv2;refine⟨j,q,l,.inr ⟨rfl,.inl ⟨rfl,y,rfl⟩⟩,fun r hr=>?_,fun _ I _=>?_,fun x=>by rw[(QP x).1]at d;cases d⟩
   ·cases PN o<;>simp[hr]
   ·simp[I]
  |false=>
   simp only[d,wg]at c;cases e:CA o with
   |true=>
    simp only[e,we]at c;split at c
    case h_2=>cases c
    rename_i ob f z;split at c
    case h_2=>cases c
    rename_i A hp;simp only[ze,zl]at c;obtain⟨rfl,rfl⟩:=c;obtain⟨j,q,l⟩:=KY hp;exact⟨j,q,l,.inr ⟨rfl,.inr<|.inl ⟨rfl,ob,f,z,rfl,rfl⟩⟩,fun r hr=>hr,fun h=>(by cases h),fun x=>by rw[(QP x).2]at e;cases e⟩
   |false=>
    simp only[e,wg]at c;split at c
    case h_2=>cases c
    rename_i v1 D B;split at c
    case h_2=>cases c
    rename_i A hp;obtain⟨j,q,l⟩:=KY hp;cases u:s.r.all (still C anc i D)with
    |false=>simp[u]at c
    |true=>
     simp only[u,we,ze,zl]at c;obtain⟨rfl,rfl⟩:=c;exact⟨j,q,l,.inr ⟨rfl,.inr<|.inr ⟨by simp[CQ,d,e],B⟩⟩,fun r hr=>hr,fun h=>(by cases h),fun _ r hr=>zm.1 u r hr⟩
theorem Nq{anc:Nat->Nat->Bool}:∀(L:List Nat) (s d:St),UH C call ops anc L s=some d->
  ∃(c:Nat->St) (f:Nat->V),c 0=s/\c L.length=d/\∀(q i:Nat),L[q]?=some i->Ih C call ops anc i (c q)=some (f q,c<|q+1)
 |[],s,d,h=>by
  cases h;exact⟨fun _=>s,fun _=>.nilp,rfl,rfl,fun q i h=>by simp at h⟩
 |i::L,s,d,h=>by
  unfold UH at h;split at h
  case h_2=>cases h
  rename_i v s1 l;obtain⟨c,f,h0,g,o⟩:=Nq L s1 d h;refine⟨fun q=>match q with|0=>s|q+1=>c q,fun q=>match q with|0=>v|q+1=>f q,rfl,by simpa using g,fun q j e=>?_⟩;cases q with
  |zero=>simp at e;subst e;simp only[h0];exact l
  |succ q=>simp at e;exact o q j e
theorem iY{pl:NH}(Z:Ii ops pl=true){O:St}(hd:UH C call ops pl.a pl.ord ⟨fr,h,[]⟩=some O):
  ∃(v:Nat->V) (Hh:Nat->H) (F:Nat->Fr),Canon C call ops pl.a (idx pl.ord) (idx pl.pos) fr h v Hh F/\Hh ops.size=O.h/\F ops.size=O.f:=by
 have st:=Y6 Z;have Y:=vG Z;obtain⟨A,X,h0,W,hq⟩:=Nq pl.ord _ _ hd;have DR:∀q,q<ops.size->Ih C call ops pl.a (idx pl.ord q) (A q)=some (X q,A<|q+1):=by
  intro q d;refine hq q _ ?_;unfold idx;rw[zy,yn ae];rfl
 have L:∀q,q<=ops.size->(A q).f.n=fr.n:=by
  intro q;induction q with
  |zero=>intro _;rw[h0]
  |succ q R=>
   intro d;obtain⟨o,_,T,_⟩:=D6 (DR q ae);rw[T,R ae]
 have G:∀q z,q<=z->z<=ops.size->∀r∈(A q).r,r∈(A z).r:=by
  intro q z hle;induction z with
  |zero=>
   intro _ r hr;have:q=0:=ae
   subst this;exact hr
  |succ z R=>
   intro d r hr;by_cases e:q=z+1
   ·subst e;exact hr
   ·obtain⟨o,_,_,_,_,_,g,_⟩:=D6 (DR z ae);exact g r (R ae ae r hr)
 refine⟨fun i=>X<|idx pl.pos i,fun q=>(A q).h,fun q=>(A q).f,⟨by simp[h0],by simp[h0],L,fun q d o s t=>?_,fun i o t s ht=>?_,fun i o s=>?_,fun i j o oj s hj M K U hw hlt J=>?_⟩,by simp[<-Y,W],by simp[<-Y,W]⟩
 ·obtain⟨o',c,_,T,_⟩:=D6<|DR q d;rw[s]at c;cases c;simp only[(st.ordp q d).2];exact T t
 ·have l:=(zc.1 s).1;have hp:=st.posp i l;obtain⟨o',c,_,_,g2,_⟩:=D6<|DR _ hp.1;rw[hp.2,s]at c;cases c;rw[<-L _ (yz hp.1)];exact g2 t ht
 ·have l:=(zc.1 s).1;have hp:=st.posp i l;obtain⟨o',c,_,_,_,g3,_⟩:=D6<|DR _ hp.1;rw[hp.2,s]at c;cases c;exact g3
 ·have l:=(zc.1 s).1;have N:=(zc.1 hj).1;have u:=st.posp i l;have B:=st.posp j N;obtain⟨o',c,_,_,_,_,_,g4,_⟩:=D6<|DR _ B.1;rw[B.2,hj]at c;cases c;have I:=G _ (idx pl.pos i) ae (yz u.1) _<|g4 K U hw;obtain⟨o'',c,_,_,_,_,_,_,g5⟩:=D6<|DR _ u.1;rw[u.2,s]at c;cases c;have D:=g5 M _ I;unfold still at D;rw[B.2]at D;rw[u.2,J]at D;simp only[Bool.false_or]at D;split at D
  case h_2=>cases D
  rename_i x hx E;obtain⟨y,hy⟩:=rd_val K E;cases hy;rw[V.beq_eq D]at E;exact E
theorem OI(g:Ii ops (EY ops)=true)(r:C.Ok P)(c:call.Ok C P)(y:P.follows .mixedOrders=true)(hr:R p h w)(o:Gl C p)(l:CM p fr a){fr':Fr}{h':H}(f:I4 C call ops fr h=some (fr',h')){id:Nat}{ro:Option Nat}{u:Nat}{Q:Exit->Act->World->Prop}
  (x:∀p' d w',CM p' fr' d->Ext p h w p' h' w'->d.defers=a.defers->Q .normal d w'):(yu id ops true).wpIn (FW ro) u P Q a w:=by
 unfold I4 at f;split at f
 case h_2=>cases f
 rename_i s e;cases f;obtain⟨v,Hh,F,z,i,q⟩:=iY g e;refine gK r c y (Y6 g) z hr o l fun p' d w' A t j=>x p' d w' ?_ ?_ j
 ·rw[<-q];exact A
 ·rw[<-i];exact t
theorem aO(j:C.Ok P)(c:call.Ok C P)(q:P.follows .mixedOrders=true)(hr:R p h w)(i:Gl C p)(g:CM p fr a){fr':Fr}{h':H}(d:UY C call ops fr h=some (fr',h')){id:Nat}{ro:Option Nat}{l:Nat}{Q:Exit->Act->World->Prop}
  (o:∀p' f w',CM p' fr' f->Ext p h w p' h' w'->f.defers=a.defers->Q .normal f w'):(yu id ops true).wpIn (FW ro) l P Q a w:=by
 unfold UY at d;cases e:Ii ops (EY ops)with
 |false=>simp[e]at d
 |true=>
  simp only[e,we]at d;exact OI e j c q hr i g d o
end
section
variable {P:Program}{F:Fence}{n:Nat}{b:Frame}{a:Act}{k:List Item}{cs:List Frame}{w:World}{Q:Exit->Act->World->Prop}
theorem Ec{c:Code}:step P (lone (b.atR a (.code (.scope c)::k)) cs w)=.next (lone (b.atR a (.code c:: .inScope c::k)) cs w):=
 step_lone_go (by simp[stepG,stepG.exec,Frame.atR])
theorem Q2{c:Code}:step P (lone (b.atR a (.inScope c::k)) cs w)=.next (lone (b.atR a k) cs w):=
 step_lone_go (by simp[stepG,stepG.exec,Frame.atR])
theorem JT{c:Code}(h:c.wpIn F n P (Exit.noGoto Q) a w):(Code.scope c).wpIn F n P Q a w:=by
 intro b k cs o j hr;have h0:(lone (b.atR a (.code (.scope c)::k)) cs w).fenced P F:=fenced_calm j hr rfl;obtain⟨e,f,g,i,d⟩:=h b (.inScope c::k) cs o j hr;cases e with
 |normal=>exact⟨.normal,f,g,i,.head h0 Ec<|StepsIn.trans d<|.one (fenced_calm j hr rfl) Q2⟩
 |exit id=>
  have s:exitTo id (.inScope c::k)=exitTo id k:=by simp[exitTo]
  exact⟨.exit id,f,g,i,fun t q=>.head h0 Ec (d.1 t<|by rw[s];exact q),
   fun r q=>let ⟨k₁,h1,h2⟩:=d.2 r (by rw[s];exact q);⟨k₁,h1,.head h0 Ec h2⟩⟩
 |goto l=>exact i.elim
 |ret=>exact⟨_,f,g,i,.of_steps (.one h0 Ec) d⟩
 |panic u=>exact⟨_,f,g,i,.of_steps (.one h0 Ec) d⟩
 |outgrown=>exact⟨_,f,g,i,.of_steps (.one h0 Ec) d⟩
end
structure X where
 e:DX
 fr:Fr
 h:H
 ds:List Nat
def Wq(ro:Option Nat)(fr:Fr)(h:H)(ps:Array Tmp)(asg body:Code)(ds:List Nat):Option (Nat×H×List Nat):=
 match ro with
 |none=>some (h.nx+1,(h.push<|.defd true).push<|.loop ⟨.ready,none,fr,ps,asg,body,h.nx⟩,h.nx::ds)
 |some b=>match h.get b with
  |some (.loop l)=>some (h.nx,h.push<|.loop ⟨.ready,none,fr,ps,asg,body,l.db⟩,ds)
  |_=>none
def BH(C:Ctx)(call:DH)(ro:Option Nat)(ct:Bool):Nat->Code->Fr->H->List Nat->Option (List X)
 |0,_,_,_,_=>none
 |m+1,c,fr,h,ds=>
  match c with
  | .skip| .label _=>some [⟨.normal,fr,h,ds⟩]
  | .region _ ops dr=>bif dr then(match (bif ct then I4 C call ops fr h else UY C call ops fr h)with
    |some (fr',h')=>some [⟨.normal,fr',h',ds⟩]
    |none=>none)
   else(match SN C call ops ops.toList fr h with
    |some l=>some<|l.map fun x=>⟨.normal,x.1,x.2,ds⟩
    |none=>none)
  | .seq a b=>match BH C call ro ct m a fr h ds with
   |some l=>bl l fun x=>match x.e with
    | .normal=>BH C call ro ct m b x.fr x.h x.ds
    |_=>some [x]
   |none=>none
  | .cond x a b=>match ev C fr x with
   |some (.bool true)=>BH C call ro ct m a fr h ds
   |some (.bool false)=>BH C call ro ct m b fr h ds
   |_=>none
  | .block id b=>match BH C call ro ct m b fr h ds with
   |some l=>some<|l.map fun x=>match x.e with
    | .exit i=>bif zi i id then { x with e:=.normal }else x
    |_=>x
   |none=>none
  | .loop b=>match BH C call ro ct m b fr h ds with
   |some l=>bl l fun x=>match x.e with
    | .normal=>BH C call ro ct m (.loop b) x.fr x.h x.ds
    |_=>some [x]
   |none=>none
  | .exit i=>some [⟨.exit i,fr,h,ds⟩]
  | .ret=>some [⟨.ret,fr,h,ds⟩]
  | .scope b=>BH C call ro ct m b fr h ds
  | .rangeFunc g ps asg body=>match Wq ro fr h ps asg body ds,ev C fr g with
   |some (b,j,d),some o=>match LL C j o [.yld b]with
    |some (.enter f args)=>match call (.fn f args) j with
     |some l=>bl l fun x=>match x.2.get b with
      |some (.loop ls)=>match ls.st,ls.pend with
       | .busy,_=>none
       |_,none=>some [⟨.normal,fr,x.2.put b<|.loop { ls with st:=.exhausted },d⟩]
       |_,some c=>BH C call ro false m c fr (x.2.put b<|.loop { ls with st:=.exhausted }) d
      |_=>none
     |none=>none
    |_=>none
   |_,_=>none
  |_=>none
def HD(p:Pl):List Nat->List Deferred->Prop
 |[],l=>l=[]
 |b::c,l=>∃r n l',p[b]?=some (r,n)/\l={ target:=.collected r,args:= #[] }::l'/\HD p c l'
theorem HK{p:Pl}(q:Pl){b:Nat}{x:Nat×Nat}(h:p[b]?=some x):(p++q)[b]?=some x:=by
 rw[z7 (List.getElem?_eq_some_iff.1 h).1];exact h
theorem HD.mono{p:Pl}(q:Pl):∀ {ds:List Nat} {l:List Deferred},HD p ds l->HD (p++q) ds l
 |[],_,h=>h
 |_b::_bs,_l,⟨r,n,l',c,e,d⟩=>⟨r,n,l',HK q c,e,d.mono q⟩
theorem HD.ext{p p':Pl}{h h':H}{w w':World}(e:Ext p h w p' h' w'){ds:List Nat}{l:List Deferred}(c:HD p ds l):HD p' ds l:=by
 obtain⟨q,rfl⟩:=e.pre;exact c.mono q
def Rn(p:Pl):Option Nat->Option Nat->Prop
 |none,none=>True
 |some b,some r=>∃n,p[b]?=some (r,n)
 |_,_=>False
theorem Rn.ext{p p':Pl}{h h':H}{w w':World}(e:Ext p h w p' h' w'){ro k:Option Nat}(c:Rn p ro k):Rn p' ro k:=by
 obtain⟨q,rfl⟩:=e.pre;cases ro with
 |none=>cases k with
  |none=>trivial
  |some r=>exact c.elim
 |some b=>
  cases k with
  |none=>exact c
  |some r=>obtain⟨n,d⟩:=c;exact⟨n,HK q d⟩
theorem Ext.at{p p':Pl}{h h':H}{w w':World}(e:Ext p h w p' h' w'){b:Nat}{x:Nat×Nat}(c:p[b]?=some x):p'[b]?=some x:=by
 obtain⟨q,rfl⟩:=e.pre;exact HK q c
section
variable {C:Ctx}{P:Program}{call:DH}{ops:Array Oper}{p:Pl}{h:H}{w:World}{fr:Fr}{a:Act}
theorem JN(hr:R p h w)(u:CM p fr a){ro k:Option Nat}(d:Rn p ro k){ps:Array Tmp}{asg body:Code}{ds g:List Nat}(i:HD p ds a.defers){b:Nat}{e:H}
  (c:Wq ro fr h ps asg body ds=some (b,e,g)) (fn:FuncId):∃l mark z q n,(Instr.enterLoop fn a.tmps ps asg body k).run P w=.ok (l,mark) z/\Ext p h w q e z/\q[b]?=some (l,n)/\HD q g (mark++a.defers):=by
 unfold Wq at c;cases ro with
 |none=>
  cases k with
  |some k=>exact d.elim
  |none=>
   simp only[ze,zl]at c;obtain⟨rfl,rfl,rfl⟩:=c;have y:=Ext.push (n:=0) hr (o:=.defd true) (x:=.deferred<|some []) (by simp[G8]);have f:(p++[(w.heap.size,0)])[h.nx]?=some (w.heap.size,0):=by rw[<-hr.len];simp
   have t:Fq (p++[(w.heap.size,0)]) fr a.tmps:=Fq.mono _ u;have s:=Ext.push (n:=0) y.rel (o:=.loop ⟨.ready,none,fr,ps,asg,body,h.nx⟩) (x:=.loop { state:=.ready,pending:=none,fn,tmps:=a.tmps,params:=ps,assign:=asg,body,defers:=w.heap.size })
    ⟨fn,a.tmps,_,_,t,f,rfl⟩
   refine⟨_,_,_,_,0,run_enterLoop_outer fn a.tmps ps asg body,y.trans s,?_,?_⟩
   ·have:h.nx+1=(p++[(w.heap.size,0)]).length:=by simp[hr.len]
    rw[this,List.getElem?_append_right<|zo _];simp only[Nat.sub_self,List.getElem?_cons_zero,ze,zl,ve];simp
   ·exact⟨w.heap.size,0,a.defers,HK _ f,rfl,HD.mono _<|HD.mono _ i⟩
 |some A=>
  cases k with
  |none=>exact d.elim
  |some k=>
   simp only at c;split at c
   case h_2=>cases c
   rename_i l0 j;simp only[ze,zl]at c;obtain⟨rfl,rfl,rfl⟩:=c;obtain⟨n0,hn0⟩:=d;obtain⟨r',n',x,e,h2,f0,tmps,r,m,h3,h4,rfl⟩:=hr.obj _ _ j;rw[hn0]at e;cases e;have s:=Ext.push (n:=0) hr (o:=.loop ⟨.ready,none,fr,ps,asg,body,l0.db⟩) (x:=.loop { state:=.ready,pending:=none,fn,tmps:=a.tmps,params:=ps,assign:=asg,body,defers:=r })
    ⟨fn,a.tmps,_,_,u,h4,rfl⟩
   refine⟨w.heap.size,[],_,_,0,?_,s,?_,?_⟩
   ·unfold Instr.enterLoop;simp only[zj,run_getLoop h2,run_newObj_alloc,zh,zn,World.alloc]
   ·rw[<-hr.len];simp
   ·exact HD.mono _ i
theorem Result.Xj{α d:Type}{r:Result α}{f:α->World->Result d}{b:d}{w':World}(h:r.andThen f=.ok b w'):∃a c,r=.ok a c/\f a c=.ok b w':=by
 cases r with
 |ok a c=>exact⟨a,c,rfl,h⟩
 |halt x c=>simp[Result.andThen]at h
theorem Ln(hC:C.Ok P)(G:call.Ok C P)(hm:P.follows .mixedOrders=true){ro k:Option Nat}{n:Nat}:∀(m:Nat) (ct:Bool) (c:Code) {fr:Fr} {h:H} {ds:List Nat} {L:List X},(ct=true->DY c=true)->BH C call ro ct m c fr h ds=some L->
  ∀(p:Pl) (a:Act) (w:World) (Q:Exit->Act->World->Prop),R p h w->Gl C p->CM p fr a->HD p ds a.defers->Rn p ro k->
   (∀x∈L,∀p' a' w',CM p' x.fr a'->Ext p h w p' x.h w'->HD p' x.ds a'.defers->Q x.e.SZ a' w')->
   c.wpIn (FW k) n P Q a w/\∀b,c=.loop b->Code.roundsIn (FW k) n P b Q m a w
 |0,ct,c,fr,h,ds,L,E,o=>by cases o
 |m+1,ct,c,fr,h,ds,L,E,o=>by
  intro p a w Q hr M J B D K;have ih:∀ {ct:Bool} (c:Code) {fr:Fr} {h:H} {ds:List Nat} {L:List X},(ct=true->DY c=true)->BH C call ro ct m c fr h ds=some L->∀ {p:Pl} {a:Act} {w:World},R p h w->Gl C p->CM p fr a->HD p ds a.defers->Rn p ro k->
    ∀ {Q:Exit->Act->World->Prop},(∀x∈L,∀p' a' w',CM p' x.fr a'->Ext p h w p' x.h w'->HD p' x.ds a'.defers->Q x.e.SZ a' w')->
   c.wpIn (FW k) n P Q a w/\∀b,c=.loop b->Code.roundsIn (FW k) n P b Q m a w:=fun {ct} c {fr h ds L} E o {p a w} hr M J B D {Q} K=>Ln hC G hm m ct c E o p a w Q hr M J B D K
  cases c with
  |skip=>cases o;exact⟨wpIn_skip<|K _ (zf.2 rfl) p a w J (yh hr) B,fun b I=>by cases I⟩
  |label l=>cases o;exact⟨wpIn_label<|K _ (zf.2 rfl) p a w J (yh hr) B,fun b I=>by cases I⟩
  |region id ops dr=>
   refine⟨?_,fun b I=>by cases I⟩;simp only[BH]at o;cases dr with
   |true=>
    simp only[we]at o;split at o
    case h_2=>cases o
    rename_i fr1 h1 hs;cases o;refine(show ∀ {Q':Exit->Act->World->Prop},(∀p' a' w',CM p' fr1 a'->Ext p h w p' h1 w'->a'.defers=a.defers->Q' .normal a' w')->(yu id ops true).wpIn (FW k) n P Q' a w from fun {Q'} Z=>?_) fun O a1 N t j q=>K _ (zf.2 rfl) O a1 N t j<|q▸B.ext j
    cases ct with
    |false=>exact aO hC G hm hr M J hs Z
    |true=>exact OI (by simpa [DY]using E rfl) hC G hm hr M J hs Z
   |false=>
    simp only[wg]at o;split at o
    case h_2=>cases o
    rename_i l hs;cases o;exact Xw hC G hr M J hs fun x hx O a1 N t j q=>K _ (y7.2 ⟨x,hx,rfl⟩) O a1 N t j<|q▸B.ext j
  |seq x y=>
   refine⟨wpIn_seq ?_,fun b I=>by cases I⟩;simp only[BH]at o;split at o
   case h_2=>cases o
   rename_i l hs;refine(ih x (fun e=>by have:=E e;simp[DY]at this;exact this.1) hs hr M J B D fun z hz O a1 N t j q=>?_).1;obtain⟨L1,T,g2⟩:=I9 o z hz;cases A:z.e with
   |normal=>
    simp only[A]at T;exact(ih y (fun e=>by have:=E e;simp[DY]at this;exact this.2) T j.rel (M.ext j) t q (D.ext j) fun u hu p2 a2 w2 U he2 Y=>K u (g2 u hu) p2 a2 w2 U (j.trans he2) Y).1
   |exit i=>
    simp only[A,ze]at T;subst T;have:=K z (g2 z<|zf.2 rfl) O a1 N t j q;rw[A]at this;exact this
   |ret=>
    simp only[A,ze]at T;subst T;have:=K z (g2 z<|zf.2 rfl) O a1 N t j q;rw[A]at this;exact this
  |cond x b1 b2=>
   refine⟨?_,fun b I=>by cases I⟩;simp only[BH]at o;split at o
   case h_1=>
    rename_i hx;have hv:=A8 M J hx;simp only[Ac]at hv;exact wpIn_cond_true hv (ih b1 (fun e=>by have:=E e;simp[DY]at this;exact this.1) o hr M J B D K).1
   case h_2=>
    rename_i hx;have hv:=A8 M J hx;simp only[Ac]at hv;exact wpIn_cond_false hv (ih b2 (fun e=>by have:=E e;simp[DY]at this;exact this.2) o hr M J B D K).1
   case h_3=>cases o
  |block id b=>
   refine⟨wpIn_block ?_,fun b I=>by cases I⟩;simp only[BH]at o;split at o
   case h_2=>cases o
   rename_i l hs;cases o;refine(ih b (fun e=>by have:=E e;simpa [DY]using this) hs hr M J B D fun z hz O a1 N t j q=>?_).1;have Z:=K _ (y7.2 ⟨z,hz,rfl⟩) O a1 N;cases A:z.e with
   |normal=>
    simp only[A]at Z;exact Z t j q
   |ret=>
    simp only[A]at Z;exact Z t j q
   |exit i=>
    simp only[A,Bp]at Z;by_cases ei:i=id
    ·simp only[ei,decide_true,we]at Z;simp only[DX.SZ,Exit.inBlock,ei,wk];exact Z t j q
    ·simp only[ei,decide_false,wg,A]at Z;simp only[DX.SZ,Exit.inBlock,ei,vg];exact Z t j q
  |loop b=>
   have key:Code.roundsIn (FW k) n P b Q (m+1) a w:=by
    rw[roundsIn_succ];simp only[BH]at o;split at o
    case h_2=>cases o
    rename_i l hs;refine(ih b (fun e=>by have:=E e;simpa [DY]using this) hs hr M J B D fun z hz O a1 N t j q=>?_).1;obtain⟨L1,T,g2⟩:=I9 o z hz;cases A:z.e with
    |normal=>
     simp only[A]at T;exact(ih (.loop b) E T j.rel (M.ext j) t q (D.ext j) fun u hu p2 a2 w2 U he2 Y=>K u (g2 u hu) p2 a2 w2 U (j.trans he2) Y).2 b rfl
    |exit i=>
     simp only[A,ze]at T;subst T;have:=K z (g2 z<|zf.2 rfl) O a1 N t j q;rw[A]at this;exact this
    |ret=>
     simp only[A,ze]at T;subst T;have:=K z (g2 z<|zf.2 rfl) O a1 N t j q;rw[A]at this;exact this
   exact⟨wpIn_loop_rounds (m+1) key,fun b' I=>by cases I;exact key⟩
  |exit i=>cases o;exact⟨wpIn_exit<|K _ (zf.2 rfl) p a w J (yh hr) B,fun b I=>by cases I⟩
  |ret=>cases o;exact⟨wpIn_ret<|K _ (zf.2 rfl) p a w J (yh hr) B,fun b I=>by cases I⟩
  |scope b=>
   refine⟨JT ?_,fun b I=>by cases I⟩;simp only[BH]at o;refine(ih b (fun e=>by have:=E e;simpa [DY]using this) o hr M J B D fun z hz O a1 N t j q=>?_).1;have h1:=K z hz O a1 N t j q;cases A:z.e<;>rw[A]at h1<;>exact h1
  |rangeFunc g ps asg body=>
   refine⟨wpIn_rangeFunc fun fn _=>?_,fun b I=>by cases I⟩;simp only[BH]at o;split at o
   case h_2=>cases o
   rename_i b h1 ds1 g' hen hgv;split at o
   case h_2=>cases o
   rename_i f args hdc;split at o
   case h_2=>cases o
   rename_i l hcl;obtain⟨r,mark,N,O,nb,q1,q2,q3,q4⟩:=JN (P:=P) hr J D B hen fn;have hyld:At O [.yld b] (#[Value.func (.yield r) #[] #[]]).toList:=by
    simp only[Bh,G7,ve];simp only[Ac];exact⟨r,nb,q3,rfl⟩
   obtain⟨args',s1,s2⟩:=Mx hC q2.rel (M.ext q2) (q2.mG<|A8 M J hgv) hyld hdc;rw[zj]at s1;obtain⟨d,w1',s3,s4⟩:=Result.Xj s1;refine⟨r,mark,N,d,w1',f,args',N,q1,?_,fun _ _=>trivial,s4,fun h=>(by simp[FW,yi]at h),XR.2<|(G.fn f args h1 l hcl O N args' q2.rel (M.ext q2) s2).mono ?_⟩
   ·unfold resolve;simpa [Act.eval]using s3
   ·rintro e w2 ⟨v,h2,v',p2,hmem,rfl,k1,k2⟩;obtain⟨L1,t1,t2⟩:=I9 o (v,h2) hmem;simp only at t1;split at t1
    case h_2=>cases t1
    rename_i ls hls;obtain⟨r',n',x,u1,u2,f0,tmps,rd,md,u3,u4,rfl⟩:=k2.rel.obj _ _ hls;have hpb:=k2.at q3;rw[hpb]at u1;cases u1;have hbusy:ls.st≠ .busy:=by
     intro e;rw[e]at t1;simp at t1
    obtain⟨W,hW,hput⟩:∃W,(Instr.endLoop r).run P w2=.ok ls.pend W/\Ext p2 h2 w2 p2 (h2.put b<|.loop { ls with st:=.exhausted }) W:=
     ⟨_,run_endLoop u2 hbusy,Ext.put k2.rel hls hpb (o':=.loop { ls with st:=.exhausted }) (x':=.loop { state:=.exhausted,pending:=ls.pend,fn:=f0,tmps,params:=ls.ps,assign:=ls.asg,body:=ls.body,defers:=rd }) ⟨f0,tmps,rd,md,u3,u4,rfl⟩ rfl rfl rfl rfl⟩
    have hex:=q2.trans<|k2.trans hput;refine⟨ls.pend,W,hW,?_⟩;have U:CM p2 fr { a with defers:=mark++a.defers }:=CM.ext (a:={ a with defers:=mark++a.defers }) J<|q2.trans k2;have Y:HD p2 ds1 (mark++a.defers):=HD.ext k2 q4;split at t1
    case h_1=>cases t1
    case h_2=>
     rename_i hpe _;cases t1;simp only[hpe];exact K _ (t2 _<|zf.2 rfl) p2 _ _ U hex Y
    case h_3=>
     rename_i c hpe _;simp only[hpe];exact(ih c (fun e=>by cases e) t1 hput.rel (M.ext hex) U Y (D.ext hex) fun u hu p3 a3 w3 hf3 he3 hd3=>K u (t2 u hu) p3 a3 w3 hf3 (hex.trans he3) hd3).1
  |goto l=>simp[BH]at o
  |refuse s=>simp[BH]at o
end
section
variable {C:Ctx}{P:Program}{p:Pl}{h:H}{w:World}{fr:Fr}{a:Act}
def YJ(C:Ctx)(fr:Fr)(h:H):ResultVar->Option V
 | .tmp t=>some<|fr.get t
 | .cell a t=>Ft C.T h t<|fr.get a
def QF(C:Ctx)(fr:Fr)(h:H):List ResultVar->Option (List V)
 |[]=>some []
 |r::c=>match YJ C fr h r,QF C fr h c with
  |some v,some vs=>some (v::vs)
  |_,_=>none
def PY(C:Ctx)(fr:Fr)(h:H)(c:List ResultVar):Option V:=
 match QF C fr h c with
 |some [v]=>some v
 |some vs=>some<|.tup vs
 |none=>none
def sT(a:Act):ResultVar->Sem Value
 | .tmp t=>pure<|a.tmps.getD t undef
 | .cell x t=>do loadVar t (<-asAddr (a.tmps.getD x undef))
theorem X8(fn:Func)(a:Act):results fn a.tmps=(do let vs<-fn.results.mapM (sT a);pure (if h:vs.size=1 then vs[0]else .tuple vs)):=by
 unfold results;congr 1
theorem iN(q:C.T.Ok P)(hr:R p h w)(g:CM p fr a){r:ResultVar}{v:V}(f:YJ C fr h r=some v):
  ∃v',(sT a r).run P w=.ok v' w/\Ac p v v':=by
 cases r with
 |tmp t=>cases f;exact⟨_,rfl,g.2 t⟩
 |cell x t=>
  simp only[YJ]at f;obtain⟨v',j,l⟩:=U8 (P:=P) q hr (g.2 x) f;refine⟨v',?_,l⟩;have hp:∃b i,fr.get x=.ptr b i:=by
   unfold Ft at f;split at f
   ·rename_i b off d i o u s;exact⟨b,off,o⟩
   ·cases f
  obtain⟨b,i,e⟩:=hp;have c:=g.2 x;rw[e]at c;simp only[Ac]at c;obtain⟨r,n,_,c⟩:=c;rw[c]at j;simp only[sT,c];exact j
theorem VU(g:C.T.Ok P)(hr:R p h w)(f:CM p fr a):∀ {e:List ResultVar} {vs:List V},QF C fr h e=some vs->
  ∃c:List Value,(e.mapM<|sT a).run P w=.ok c w/\At p vs c
 |[],vs,d=>by cases d;exact⟨[],rfl,by simp⟩
 |r::e,vs,d=>by
  unfold QF at d;split at d
  case h_2=>cases d
  rename_i v o i j;cases d;obtain⟨v',q,l⟩:=iN (P:=P) g hr f i;obtain⟨c,g3,g4⟩:=VU g hr f j;refine⟨v'::c,?_,(Bh ..).2 ⟨l,g4⟩⟩;rw[List.mapM_cons];simp only[zj];rw[q];simp only[zh,g3,zn]
theorem uS(o:C.T.Ok P)(hr:R p h w)(l:CM p fr a){fn:Func}{v:V}(d:PY C fr h fn.results.toList=some v):∃v',(results fn a.tmps).run P w=.ok v' w/\Ac p v v':=by
 unfold PY at d;cases f:QF C fr h fn.results.toList with
 |none=>simp[f]at d
 |some vs=>
  obtain⟨c,q,g⟩:=VU (P:=P) o hr l f;have i:=g.length;have e:(results fn a.tmps).run P w=.ok (if h:c.toArray.size=1 then c.toArray[0]else .tuple c.toArray) w:=by
   rw[X8];simp only[zj];rw[Array.mapM_eq_mapM_toList];simp only[Sem.run_map,q,zh,zn]
  refine⟨_,e,?_⟩;simp only[f]at d;cases vs with
  |nil=>
   cases d;have:c=[]:=List.length_eq_zero_iff.1 i.symm;subst this;simp[Ac]
  |cons x xs=>
   cases xs with
   |nil=>
    cases d;obtain⟨y,rfl,j⟩:=g.one;simpa using j
   |cons r xs=>
    cases d;rw[dif_neg<|by simp at i ⊢;omega];simp only[Ac];exact⟨_,rfl,g⟩
def V5:List V->Nat->PM V->PM V
 |[],_,m=>m
 |v::vs,i,m=>V5 vs (i+1)<|m.set i<|some v
def Nz(n:Nat)(args:List V):Fr:=⟨args.length+(n-args.length),V5 args 0 .leaf⟩
theorem Mv:∀(vs:List V) (i:Nat) (m:PM V) (t:Nat),(V5 vs i m).get t=if i<=t/\t<i+vs.length then vs[t-i]? else m.get t
 |[],i,m,t=>by simp[V5];omega
 |v::vs,i,m,t=>by
  unfold V5;rw[Mv vs (i+1) _ t];by_cases e:t=i
  ·subst e;rw[wc ae,wd<|by simp];simp
  ·by_cases c:i+1<=t/\t<i+1+vs.length
   ·rw[wd c,wd<|by simp;omega];have:t-i=(t-(i+1))+1:=ae
    rw[this];simp
   ·rw[wc c,wc<|by simp;omega];simp[e]
theorem iL{args:List V}{args':Array Value}(f:At p args args'.toList)(n:Nat):CM p (Nz n args) { tmps:=args'++yr (n-args'.size) undef,defers:=[] }:=by
 have g:=f.length;simp at g;refine⟨by simp[Nz,g],fun t=>?_⟩;unfold Nz Fr.get;rw[Mv];by_cases e:t<args.length
 ·rw[wd ae];obtain⟨u,j,l⟩:=f.get (i:=t) (d:=args[t]) (by simp[e]);have c:args'[t]?=some u:=by simpa using j
  simp only[Nat.sub_zero,yn e,yo];rw[zk,Array.getElem?_append_left ae,c];exact l
 ·rw[wc ae];simp only[PM.Du,Option.getD_none];have:(args'++yr (n-args'.size) undef).getD t undef=undef:=by
   rw[zk,Array.getElem?_append_right ae];rw[Array.getElem?_replicate];split<;>rfl
  rw[this];simp[Ac,undef]
def F7:List Nat->H->Option H
 |[],h=>some h
 |b::c,h=>match h.get b with
  |some (.defd true)=>F7 c<|h.put b<|.defd false
  |_=>none
theorem RU{fn:Func}{tmps:Array Value}{n:Nat}:∀ {ds:List Nat} {l:List Deferred} {p:Pl} {h:H} {w:World} {g:H},HD p ds l->R p h w->F7 ds h=some g->
  ∃e,Ext p h w p g e/\∀f:Ending->World->Prop,(∃v,(results fn tmps).run P e=.ok v e/\f (.returned v) e)->LeavesInM yi n P fn tmps f l .returning w
 |[],l,p,h,w,g,i,hr,d=>by
  cases d;cases (show l=[]from i);exact⟨w,yh hr,fun f hR=>hR⟩
 |b::q,l,p,h,w,g,i,hr,d=>by
  unfold F7 at d;split at d
  case h_2=>cases d
  rename_i o;obtain⟨r,m,l',hp,rfl,j⟩:=i;obtain⟨r',m',x,k1,k2,k3⟩:=hr.obj _ _ o;rw[hp]at k1;cases k1;simp only[G8,we]at k3;subst k3;have c:=Ext.put hr o hp (o':=.defd false) (x':=.deferred none) (by simp[G8]) (w':=w.putObj r<|.deferred none) rfl rfl rfl rfl;obtain⟨e,g1,g2⟩:=RU (fn:=fn) (tmps:=tmps) (n:=n) j c.rel d;exact⟨e,c.trans g1,fun f hR=>⟨by simp,.inl ⟨r,_,rfl,run_takeDeferred k2,g2 f hR⟩⟩⟩
def T2(C:Ctx)(m:Nat)(call:DH)(b:Nat)(ls:LS)(fr:Fr)(h:H):Option (List<|V×H):=
 match BH C call (some b) false m ls.asg fr h []with
 |some l=>bl l fun x=>match x.e,x.h.get b with
  | .normal,some (.loop l1)=>match l1.st with
   | .ready=>match BH C call (some b) false m ls.body x.fr (x.h.put b<|.loop { l1 with st:=.busy }) x.ds with
    |some d=>bl d fun y=>match y.h.get b with
     |some (.loop c)=>match y.e with
      | .normal=>some [(.bool true,y.h.put b<|.loop { c with st:=.ready,pend:=none })]
      | .ret=>some [(.bool false,y.h.put b<|.loop { c with st:=.done,pend:=some .ret })]
      | .exit i=>some [(.bool false,y.h.put b<|.loop { c with st:=.done,pend:=some (.exit i) })]
     |_=>none
    |none=>none
   |_=>none
  |_,_=>none
 |none=>none
mutual
def K0:V->List Nat
 | .ptr b _| .sl b _ _ _ _| .map b| .yld b=>[b]
 | .fn _ a b=>I1 a++I1 b
 | .iface _ v=>K0 v
 | .agg l| .tup l=>I1 l
 |_=>[]
def I1:List V->List Nat
 |[]=>[]
 |v::vs=>K0 v++I1 vs
end
def rE:O->List Nat
 | .cells cs _ _=>I1 cs
 | .map es _=>es.flatMap fun e=>K0 e.1++K0 e.2.1
 |_=>[]
def reach(h:H)(n0:Nat):Nat->List Nat->List Nat->List Nat
 |0,_,acc=>acc
 |_+1,[],acc=>acc
 |f+1,b::c,acc=>bif zz b n0||acc.any (zi b)then reach h n0 f c acc
  else match h.get b with
   |some o=>reach h n0 f (rE o++c) (b::acc)
   |none=>reach h n0 f c acc
def Oo(OM:List Nat):Nat->Nat->H->H
 |0,_,h=>h
 |f+1,b,h=>Oo OM f (b+1)<|bif OM.any (zi b)then h else h.kill b
def nC:O->Bool
 | .loop l=>match l.st with| .exhausted=>true|_=>false
 |_=>false
def U4:Option O->Option O
 |some o=>bif nC o then none else some o
 |none=>none
def SP:PM O->PM O
 | .leaf=>.leaf
 | .node l v r=>.node (SP l) (U4 v)<|SP r
theorem K3:∀(q:Hd) (m:PM O),q.get (SP m)=U4 (q.get m)
 |Hd.here,PM.leaf=>rfl
 |Hd.l _,PM.leaf=>rfl
 |Hd.r _,PM.leaf=>rfl
 |Hd.here,PM.node _ _ _=>rfl
 |Hd.l q,PM.node l _ _=>K3 q l
 |Hd.r q,PM.node _ _ r=>K3 q r
def H.lS(h:H):H:=⟨SP h.m,h.nx⟩
theorem U5{p:Pl}{h:H}{w:World}(hr:R p h w):Ext p h w p h.lS w:=by
 have sub:∀b o,h.lS.get b=some o->h.get b=some o:=by
  intro b o c;have:h.lS.get b=U4 (h.get b):=K3 _ _;rw[this]at c;cases i:h.get b with
  |none=>rw[i]at c;cases c
  |some x=>
   rw[i]at c;unfold U4 at c;cases d:nC x with
   |true=>simp[d]at c
   |false=>simpa [d]using c
 refine⟨⟨[],by simp⟩,⟨hr.len,fun b o c=>hr.obj b o<|sub b o c,fun b b' o o' r n n' c f=>hr.inj b b' o o' r n n' (sub b o c)<|sub b' o' f⟩,zo _,fun _ _ _=>rfl,fun r d=>?_,rfl,rfl,rfl,fun r q l=>⟨rfl,?_⟩⟩
 ·obtain⟨b,o,n,e,g⟩:=d;exact .inl ⟨b,o,n,sub b o e,g⟩
 ·obtain⟨b,n,cs,t,fz,e,g,j⟩:=l;refine .inl ⟨b,n,cs,t,fz,?_,g,j⟩;rw[show h.lS.get b=U4 (h.get b)from K3 _ _,e];rfl
def gcO(n0:Nat)(x:V×H):V×H:=(x.1,Oo (reach x.2 n0 1000 (K0 x.1) []) (x.2.nx-n0) n0 x.2.lS)
def cQ:List (V×V×Nat)->List (V×V×Nat)->Bool
 |[],[]=>true
 |(a,b,c)::l,(e,b',d)::l'=>V.beq a e&&V.beq b b'&&zi c d&&cQ l l'
 |_,_=>false
def O9:List Nat->List Nat->Bool
 |[],[]=>true
 |a::l,b::l'=>zi a b&&O9 l l'
 |_,_=>false
def AaO:O->O->Bool
 | .cells cs t fz,.cells cs' g fz'=>V.Me cs cs'&&zi t g&&zi fz.1 fz'.1&&zi fz.2 fz'.2
 | .map es c,.map e f=>cQ es e&&zi c f
 | .siter s n,.siter j n'=>s==j&&zi n n'
 | .miter none a l b,.miter none d l' b'=>zi a d&&O9 l l'&&zi b b'
 | .miter (some m) a l b,.miter (some i) d l' b'=>zi m i&&zi a d&&O9 l l'&&zi b b'
 | .defd a,.defd b=>a==b
 |_,_=>false
def Rp:Option O->Option O->Bool
 |none,none=>true
 |some a,some b=>AaO a b
 |_,_=>false
def Qy:PM O->PM O->Bool
 | .leaf,.leaf=>true
 | .node l v r,.node l' v' c=>Rp v v'&&Qy l l'&&Qy r c
 |_,_=>false
def YN(x y:V×H):Bool:=V.beq x.1 y.1&&zi x.2.nx y.2.nx&&Qy x.2.m y.2.m
def dedup:List (V×H)->List (V×H)
 |[]=>[]
 |x::l=>let r:=dedup l;bif r.any (YN x)then r else x::r
def O1(n0:Nat):List (V×H)->List (V×H)
 |[]=>[]
 |[x]=>[x]
 |l=>dedup<|l.map<|gcO n0
theorem Zq:∀ {a b:List (V×V×Nat)},cQ a b=true->a=b
 |[],[],_=>rfl
 |[],_::_,h=>by simp[cQ]at h
 |_::_,[],h=>by simp[cQ]at h
 |(a,b,c)::l,(e,b',d)::l',h=>by
  simp only[cQ,zd]at h;rw[V.beq_eq h.1.1.1,V.beq_eq h.1.1.2,zg h.1.2,Zq h.2]
theorem O7:∀ {a b:List Nat},O9 a b=true->a=b
 |[],[],_=>rfl
 |[],_::_,h=>by simp[O9]at h
 |_::_,[],h=>by simp[O9]at h
 |a::l,b::l',h=>by
  simp only[O9,zd]at h;rw[zg h.1,O7 h.2]
theorem ZX{a b:O}(h:AaO a b=true):a=b:=by
 unfold AaO at h;split at h
 ·rename_i fz _ _ fz';simp only[zd]at h;obtain⟨⟨⟨c,f⟩,d⟩,e⟩:=h;rw[V.HY c,zg f,show fz=fz' from Prod.ext (zg d)<|zg e]
 ·simp only[zd]at h;rw[Zq h.1,zg h.2]
 ·simp only[zd,wj]at h;rw[h.1,zg h.2]
 ·simp only[zd]at h;rw[zg h.1.1,O7 h.1.2,zg h.2]
 ·simp only[zd]at h;rw[zg h.1.1.1,zg h.1.1.2,O7 h.1.2,zg h.2]
 ·simp only[wj]at h;rw[h]
 ·cases h
theorem Pz:∀ {a b:PM O},Qy a b=true->a=b
 | .leaf,.leaf,_=>rfl
 | .leaf,.node _ _ _,h=>by simp[Qy]at h
 | .node _ _ _,.leaf,h=>by simp[Qy]at h
 | .node l v r,.node l' v' c,h=>by
  simp only[Qy,zd]at h;rw[Pz h.1.2,Pz h.2];congr 1;cases v<;>cases v'<;>first|rfl|exact wi some (ZX h.1.1)|(simp[Rp]at h)
theorem kD{x y:V×H}(h:YN x y=true):x=y:=by
 simp only[YN,zd]at h;obtain⟨v,m,n⟩:=x;obtain⟨v',m',n'⟩:=y;have c:=V.beq_eq h.1.1;have e:=zg h.1.2;have d:=Pz h.2;simp only at c e d;rw[c,e,d]
theorem Mm:∀ {l:List (V×H)} {x:V×H},x∈l->x∈dedup l
 |a::l,x,h=>by
  unfold dedup;simp only;cases e:(dedup l).any (YN a)with
  |true=>
   simp only[we];rcases yw.1 h with rfl|h
   ·obtain⟨y,d,c⟩:=ye.1 e;rw[kD c];exact d
   ·exact Mm h
  |false=>
   simp only[wg];rcases yw.1 h with rfl|h
   ·exact List.mem_cons_self
   ·exact List.mem_cons_of_mem _<|Mm h
theorem I7(OM:List Nat):∀(f b:Nat) {p:Pl} {h:H} {w:World},R p h w->Ext p h w p (Oo OM f b h) w
 |0,_,_,_,_,hr=>yh hr
 |f+1,b,p,h,w,hr=>by
  unfold Oo;cases OM.any (zi b)with
  |true=>simp only[we];exact I7 OM f (b+1) hr
  |false=>simp only[wg];exact(Ext.kill hr b).trans<|I7 OM f (b+1)<|hr.kill b
theorem G0.merge{l:List (V×H)}{n0:Nat}{e:Ending}{w':World}(i:G0 p h w l e w'):G0 p h w (O1 n0 l) e w':=by
 obtain⟨v,h',v',p',d,g,f,c⟩:=i;unfold O1;split
 ·cases d
 ·exact⟨v,h',v',p',d,g,f,c⟩
 ·exact⟨v,(gcO n0 (v,h')).2,v',p',Mm<|y7.2 ⟨_,d,rfl⟩,g,f,c.trans<|(U5 c.rel).trans<|I7 _ _ _ (U5 c.rel).rel⟩
def Bl(C:Ctx):Nat->DH
 |0=>fun _ _=>none
 |n+1=>fun c h=>
  match c with
  | .rnd b ls fr=>T2 C n (Bl C n) b ls fr h
  | .fn f args=>
   match C.spec f with
   |some q=>match q args h with
    |some x=>some [x]
    |none=>none
   |none=>
    match C.fn f with
    |none=>none
    |some i=>
     match BH C (Bl C n) none i.cert n i.body (Nz i.ntmps args) h []with
     |none=>none
     |some l=>match (bl l fun x=>match x.e with
      | .exit _=>none
      |_=>match F7 x.ds x.h with
       |some d=>match PY C x.fr d i.results.toList with
        |some v=>some [(v,d)]
        |none=>none
       |none=>none)with
      |some r=>some<|bif C.mg then O1 h.nx r else r
      |none=>none
theorem M7(hr:R p h w){b r n:Nat}{ls:LS}(d:h.get b=some (.loop ls))(hp:p[b]?=some (r,n)):
  ∃rec:Loop,w.heap[r]?=some (.loop rec)/\rec.state=ls.st/\rec.pending=ls.pend/\∀(st:LoopState) (c:Option Code),Ext p h w p (h.put b<|.loop { ls with st:=st,pend:=c }) (w.putObj r<|.loop { rec with state:=st,pending:=c }):=by
 obtain⟨i,n',x,u1,u2,f0,tmps,rd,g,e,f,rfl⟩:=hr.obj _ _ d;rw[hp]at u1;cases u1;exact⟨_,u2,rfl,rfl,fun st c=>Ext.put hr d hp (o':=.loop { ls with st:=st,pend:=c }) ⟨f0,tmps,rd,g,e,f,rfl⟩ rfl rfl rfl rfl⟩
theorem Ro(N:C.Ok P){call:DH}(d:call.Ok C P)(O:P.follows .mixedOrders=true){b:Nat}{ls:LS}{l:List (V×H)}{k m E:Nat}(r:T2 C E call b ls fr h=some l){f:FuncId}{tmps:Array Value}
  (hr:R p h w) (M:Gl C p) (hp:p[b]?=some (k,m)) (U:Fq p fr tmps):RoundIn yi 0 P k f tmps ls.asg ls.body w (G0 p h w l):=by
 unfold T2 at r;split at r
 case h_2=>cases r
 rename_i L hL;refine roundIn_of_wpIn trivial ?_;refine(Ln (k:=some k) (n:=0) N d O E false ls.asg (fun e=>by cases e) hL p { tmps:=tmps,defers:=[] } w _ hr M U rfl ⟨m,hp⟩ fun x W s a1 T z g J=>?_).1;obtain⟨L1,j,G⟩:=I9 r x W;split at j
 case h_2=>cases j
 rename_i l1 A B;split at j
 case h_2=>cases j
 rename_i u;split at j
 case h_2=>cases j
 rename_i L2 D;rw[A];obtain⟨rec,q1,q2,Z,q4⟩:=M7 g.rel B<|g.at hp;have Y:=q4 .busy l1.pend;refine⟨_,run_beginRound q1<|q2.trans u,?_⟩;have q:Ext s x.h T s (x.h.put b<|.loop { l1 with st:=.busy }) (T.putObj k<|.loop { rec with state:=.busy }):=by
  have:({ rec with state:=.busy }:Loop)={ rec with state:=.busy,pending:=l1.pend }:=by rw[<-Z]
  rw[this];exact Y
 have ex:=g.trans q;refine(Ln (k:=some k) (n:=0) N d O E false ls.body (fun e=>by cases e) D s a1 _ _ q.rel (M.ext ex) z J ⟨m,g.at hp⟩ fun y hy I a2 w2 X c hd2=>?_).1;obtain⟨L3,t1,t2⟩:=I9 j y hy;split at t1
 case h_2=>cases t1
 rename_i l3 t;obtain⟨K,s1,s2,s3,s4⟩:=M7 c.rel t<|c.at (g.at hp);cases o:y.e with
 |normal=>
  simp only[o,ze]at t1;subst t1;exact⟨_,_,run_endRound none s1,.bool true,_,.bool true,I,G _<|t2 _<|zf.2 rfl,rfl,by simp[Ac],ex.trans<|c.trans<|s4 .ready none⟩
 |ret=>
  simp only[o,ze]at t1;subst t1;exact⟨_,_,run_endRound (some .ret) s1,.bool false,_,.bool false,I,G _<|t2 _<|zf.2 rfl,rfl,by simp[Ac],ex.trans<|c.trans<|s4 .done<|some .ret⟩
 |exit i=>
  simp only[o,ze]at t1;subst t1;exact⟨_,_,run_endRound (some<|.exit i) s1,.bool false,_,.bool false,I,G _<|t2 _<|zf.2 rfl,rfl,by simp[Ac],ex.trans<|c.trans<|s4 .done<|some<|.exit i⟩
def Gy(C:Ctx):Prop:=∀f i,C.fn f=some i->i.cert=true->DY i.body=true
theorem IU(t:C.Ok P)(s:Gy C)(z:P.follows .mixedOrders=true):∀n,(Bl C n).Ok C P
 |0=>⟨fun f args h l c=>(by cases c),fun b ls fr h l c=>(by cases c)⟩
 |n+1=>by
  refine⟨fun f args h l c p w args' hr y M=>?_,fun b ls fr h l c p w k m f tmps hr y hb hp R=>Ro t (IU t s z n) z c hr y hp R⟩;unfold Bl at c;simp only at c;split at c
  case h_1=>
   rename_i q X;split at c
   case h_2=>cases c
   rename_i x A;cases c;refine(t.spec f q X p h w args args' x.1 x.2 hr y M A).mono ?_;rintro e w' ⟨v',p',rfl,o,I⟩;exact⟨x.1,x.2,v',p',zf.2 rfl,rfl,o,I⟩
  case h_2=>
   split at c
   case h_1=>cases c
   rename_i i N;split at c
   case h_1=>cases c
   rename_i L hL;split at c
   case h_2=>cases c
   rename_i lr B;cases c;refine Calls.mono ?_ (fun e w' O=>(show G0 p h w (bif C.mg then O1 h.nx lr else lr) e w' from by cases C.mg with|true=>exact G0.merge O|false=>exact O));have c:=B;generalize lr=l at c;obtain⟨fn,r,h2,Y,W,h5⟩:=t.fn f i N;have Z:=s f i N;refine callsIn_wide.1<|callsIn_of_wp_marks (F:=yi) (n:=0) r Y trivial ?_;rw[W];refine(Ln (k:=none) (n:=0) t (IU t s z n) z n i.cert i.body Z hL p _ w _ hr y (iL M i.ntmps) rfl trivial fun x A U a1 w1 D u K=>?_).1;obtain⟨L1,o,I⟩:=I9 c x A;have fin:∀ {r:H} {v:V},F7 x.ds x.h=some r->PY C x.fr r i.results.toList=some v->L1=[(v,r)]->LeavesInM yi 0 P fn a1.tmps (G0 p h w l) a1.defers .returning w1:=by
    intro r v g d G;subst G;obtain⟨w2,q1,q2⟩:=RU (P:=P) (fn:=fn) (tmps:=a1.tmps) (n:=0) K u.rel g;obtain⟨v',s1,s2⟩:=uS (P:=P) (fn:=fn) t.T q1.rel (D.ext q1) (by rw[h5];exact d);exact q2 _ ⟨v',s1,v,r,v',U,I _<|zf.2 rfl,rfl,s2,u.trans q1⟩
   split at o
   case h_1=>cases o
   case h_2=>
    rename_i J;split at o
    case h_2=>cases o
    rename_i h2 g;split at o
    case h_2=>cases o
    rename_i v d;cases o;cases E:x.e with
    |normal=>exact fin g d rfl
    |ret=>exact fin g d rfl
    |exit j=>exact wh E<|J j
end
def mD(P:Program)(t:TypeId):Option TI:=
 match P.info? t with
 |some i=>match i.zero with
  |some z=>match cv z with
   |some v=>some ⟨i.size,i.bytes,v⟩
   |none=>none
  |none=>none
 |none=>none
theorem gX{P:Program}{t:TypeId}{i:TI}(h:mD P t=some i):∃j v,P.info? t=some j/\j.size=i.size/\j.bytes=i.bytes/\j.zero=some v/\∀p,Ac p i.zv v:=by
 unfold mD at h;split at h
 case h_2=>cases h
 rename_i j d;split at h
 case h_2=>cases h
 rename_i z e;split at h
 case h_2=>cases h
 rename_i v c;cases h;exact⟨j,z,d,rfl,rfl,e,fun p=>Xi p c⟩
def qO(P:Program)(t:TypeId):Option FK:=
 match P.underlying t with
 |some (.int k)=>some<|.int k
 |some .string=>some .str
 |some .bool=>some .bool
 |_=>none
def PI(P:Program):List Field->Nat->Option (List FK)
 |[],_=>some []
 | f :: fs, i => if f.name = "_" \/ f.offset ≠ i then none else match qO P f.type, PI P fs (i + 1) with
  |some k,some ks=>some (k::ks)
  |_,_=>none
def X6(P:Program)(t:TypeId):Option (List FK):=
 match P.underlying t with
 |some (.struct fs)=>if P.stoodInHeld t=true\/P.eqGuardType P.depth t=true then none else PI P fs.toList 0
 |_=>none
def jO:TypeDesc->Bool
 | .pointer _=>false
 |_=>true
def pE(P:Program)(t:TypeId)(name:String):Option FuncId:=
 match P.info? t,P.underlying t with
 |some j,some d=>match j.methods.find? (·.name==name)with
  |some m=>match m.path,m.func with
   |⟨[]⟩,some (f,false)=>bif jO d then some f else none
   |_,_=>none
  |none=>none
 |_,_=>none
theorem gM{P:Program}{t:TypeId}{name:String}{f:FuncId}(h:pE P t name=some f):∃j m d,P.info? t=some j/\j.methods.find? (·.name==name)=some m/\m.path= #[]/\m.func=some (f,false)/\P.underlying t=some d/\∀e,d≠ .pointer e:=by
 unfold pE at h;split at h
 case h_2=>cases h
 rename_i j d c i;split at h
 case h_2=>cases h
 rename_i m g;split at h
 case h_2=>cases h
 rename_i r l o;cases hp:jO d with
 |false=>rw[hp]at h;cases h
 |true=>
  rw[hp]at h;simp only[we,ze]at h;subst h;exact⟨j,m,d,c,g,l,o,i,fun e q=>by subst q;cases hp⟩
def yE(P:Program):B6:=⟨P.underlying,mD P,X6 P,pE P⟩
section
variable {P:Program}{p:Pl}
theorem Oq{t:TypeId}{k:FK}(h:qO P t=some k):∃d,P.underlying t=some d/\D8 d=false/\(∀f,d≠ .interface f)/\match k with
  | .int k=>d=.int k
  | .str=>d=.string
  | .bool=>d=.bool:=by
 unfold qO at h;split at h
 case h_1=>rename_i c;cases h;exact⟨_,c,rfl,fun _ e=>(by cases e),rfl⟩
 case h_2=>rename_i c;cases h;exact⟨_,c,rfl,fun _ e=>(by cases e),rfl⟩
 case h_3=>rename_i c;cases h;exact⟨_,c,rfl,fun _ e=>(by cases e),rfl⟩
 case h_4=>cases h
theorem Qn{t:TypeId}{d:TypeDesc}(e:P.underlying t=some d)(g:D8 d=false){cs:Array Value}{i:Nat}{v:Value}(f:cs[i]?=some v)(w:World):(part t cs i).run P w=.ok v w:=by
 unfold part isAgg;have c:(underlying t).run P w=.ok d w:=by unfold underlying;simp[e]
 simp only[zj,c,zh];cases d<;>first|(cases g;done)|simp[f]
theorem ZL{t:TypeId}{k:FK}(h:qO P t=some k){a b:V}{o b':Value}(g:k.ok a=true)(f:k.ok b=true)(e:Ac p a o)(c:Ac p b b'){r:Bool}(i:DN a b=some r)(d:Nat)(w:World):
  (Op.equalIn (d+1) t o b').run P w=.ok r w:=by
 obtain⟨D,l,_,_,j⟩:=Oq h;cases k with
 |int k=>
  simp only at j;subst j;cases a<;>simp only[FK.ok]at g<;>try (cases g;done)
  cases b<;>simp only[FK.ok]at f<;>try (cases f;done)
  simp only[Ac]at e c;subst e c;simp at g f;subst g f;simp[DN]at i;rw[run_equalIn_int w d t _ _ _ _ l,i]
 |str=>
  simp only at j;subst j;cases a<;>simp only[FK.ok]at g<;>try (cases g;done)
  cases b<;>simp only[FK.ok]at f<;>try (cases f;done)
  simp only[Ac]at e c;subst e c;simp only[DN,ze]at i;rw[run_equalIn_string w d t _ _ l,FX,FX,i]
 |bool=>
  simp only at j;subst j;cases a<;>simp only[FK.ok]at g<;>try (cases g;done)
  cases b<;>simp only[FK.ok]at f<;>try (cases f;done)
  simp only[Ac]at e c;subst e c;simp only[DN,ze]at i;rw[run_equalIn_bool' w d t _ _ l,i]
theorem TO:∀ {ks:List FK} {x:List V},fit ks x=true->ks.length=x.length
 |[],[],_=>rfl
 |[],_::_,h=>by simp[fit]at h
 |_::_,[],h=>by simp[fit]at h
 |k::ks,v::vs,h=>by
  unfold fit at h;cases c:k.ok v with
  |false=>simp[c]at h
  |true=>simp only[c,we]at h;simp[TO h]
theorem Lj(d:Nat){w:World}{x' y':Array Value}:∀ {fs:List Field} {i:Nat} {ks:List FK},PI P fs i=some ks->∀ {x y:List V} {u v:List Value},fit ks x=true->fit ks y=true->At p x u->At p y v->
  (∀j a,u[j]?=some a->x'[i+j]?=some a)->(∀j a,v[j]?=some a->y'[i+j]?=some a)->∀ {r:Bool},BY x y=some r->(Op.eqFields (d+1) x' y' fs).run P w=.ok r w
 |[],i,ks,g,x,y,u,v,o,s,_,_,_,_,r,l=>by
  cases g;cases x with
  |cons _ _=>simp[fit]at o
  |nil=>cases y with
   |cons _ _=>simp[fit]at s
   |nil=>simp[BY]at l;subst l;simp[Op.eqFields]
 |f::fs,i,ks,g,x,y,u,v,o,s,R,U,W,T,r,l=>by
  unfold PI at g;split at g
  case isTrue=>cases g
  rename_i E;have G : f.name ≠ "_" := fun e => E (.inl e)
  have B:f.offset=i:=z8 fun e=>E (.inr e)
  split at g
  case h_2=>cases g
  rename_i k z I h2;cases g;cases x with
  |nil=>simp[fit]at o
  |cons a x=>cases y with
   |nil=>simp[fit]at s
   |cons b y=>
    simp only[At]at R U;obtain⟨Z,u',rfl,A,N⟩:=R;obtain⟨b',v',rfl,hv1,hv2⟩:=U;have J:k.ok a=true:=by unfold fit at o;cases g:k.ok a with|false=>simp[g]at o|true=>rfl
    have L:k.ok b=true:=by unfold fit at s;cases g:k.ok b with|false=>simp[g]at s|true=>rfl
    have Y:fit z x=true:=by unfold fit at o;rw[J]at o;exact o
    have X:fit z y=true:=by unfold fit at s;rw[L]at s;exact s
    obtain⟨D,q,t,_,_⟩:=Oq I;have O:=Qn q t (W 0 Z rfl) w;have pb:=Qn q t (T 0 b' rfl) w;simp only[y8]at O pb;simp only[Op.eqFields,G,wm,not_false_eq_true,wk,zj,B,O,pb,zh];unfold BY at l;split at l
    case h_1=>
     rename_i M;rw[ZL I J L A hv1 M];simp only[zh,Bool.not_true,zu,vg];exact Lj d h2 Y X N hv2 (fun j c K=>by have:=W (j+1) c (by simpa using K);rwa [show i+1+j=i+(j+1)from by omega]) (fun j c K=>by have:=T (j+1) c (by simpa using K);rwa [show i+1+j=i+(j+1)from by omega]) l
    case h_2=>
     rename_i M;rw[ZL I J L A hv1 M];split at l
     ·cases l;simp
     ·cases l
    case h_3=>cases l
theorem J6{b:Bool}{w:World}{x':Array Value}:∀ {fs:List Field} {i:Nat} {ks:List FK},PI P fs i=some ks->∀ {x:List V} {u:List Value},fit ks x=true->At p x u->
  (∀j a,u[j]?=some a->x'[i+j]?=some a)->
  (forIn (m := Sem) fs PUnit.unit fun f _ => if f.name ≠ "_" then do
    yj b 9999 f.type (<-part f.type x' f.offset)
    pure (ForInStep.yield yx)
   else do
    pure yx
    pure (ForInStep.yield yx)).run P w=.ok yx w
 |[],i,ks,d,x,u,o,_,_=>by simp
 |f::fs,i,ks,d,x,u,o,J,K=>by
  unfold PI at d;split at d
  case isTrue=>cases d
  rename_i s;have t : f.name ≠ "_" := fun e => s (.inl e)
  have r:f.offset=i:=z8 fun e=>s (.inr e)
  split at d
  case h_2=>cases d
  rename_i k y L T;cases d;cases x with
  |nil=>simp[fit]at o
  |cons a x=>
   simp only[At]at J;obtain⟨E,U,rfl,N,B⟩:=J;have O:k.ok a=true:=by unfold fit at o;cases d:k.ok a with|false=>simp[d]at o|true=>rfl
   have M:fit y x=true:=by unfold fit at o;rw[O]at o;exact o
   obtain⟨D,g,l,z,_⟩:=Oq L;have G:=Qn g l (K 0 E rfl) w;simp only[y8]at G;have A:(yj b 9999 f.type E).run P w=.ok () w:=by
    unfold yj;have q:(underlying f.type).run P w=.ok D w:=by unfold underlying;simp[g]
    simp only[zj,q,zh];cases D<;>first|rfl|(cases l;done)|exact wh rfl (z _)
   have I:=J6 (b:=b) (w:=w) (x':=x') T M B (fun j c R=>by have:=K (j+1) c (by simpa using R);rwa [show i+1+j=i+(j+1)from by omega]);simp only[List.forIn_cons,t,wm,not_false_eq_true,wk,zj,r,G,A,zh,zn]at I ⊢;exact I
theorem Abw(P:Program):(yE P).Ok P:=by
 have key:∀t ks,X6 P t=some ks->∃fs,P.underlying t=some (.struct fs)/\P.stoodInHeld t=false/\P.eqGuardType P.depth t=false/\PI P fs.toList 0=some ks:=by
  intro t ks h;unfold X6 at h;split at h
  case h_2=>cases h
  rename_i fs c;split at h
  case isTrue=>cases h
  rename_i g;refine⟨fs,c,?_,?_,h⟩
  ·cases B:P.stoodInHeld t with
   |false=>rfl
   |true=>exact wh (.inl B) g
  ·cases B:P.eqGuardType P.depth t with
   |false=>rfl
   |true=>exact wh (.inr B) g
 refine⟨fun t d h=>h,fun t i h=>gX h,?_,?_,?_,?_,fun t name f h=>gM h⟩
 ·intro t ks h p x y x' y' r w z D u G E;obtain⟨fs,c,s,A,q⟩:=key t ks h;have l:P.fieldsOf t=fs:=by unfold Program.fieldsOf;rw[c]
  unfold Op.equal Op.maxDepth;rw[run_equalIn_struct w 9999 t x' y' (by rw[l];exact c) s,l];exact Lj 9998 q z D u G (fun j a o=>by simpa using o) (fun j a o=>by simpa using o) E
 ·intro t ks h;obtain⟨fs,c,s,A,q⟩:=key t ks h;exact A
 ·intro t ks h p x x' b w z u;obtain⟨fs,c,s,A,q⟩:=key t ks h;unfold yj;have e:(underlying t).run P w=.ok (.struct fs) w:=by unfold underlying;simp[c]
  simp only[zj,e,zh];rw[<-Array.forIn_toList];have:=J6 (b:=b) (w:=w) (x':=x') q z u (fun j a o=>by simpa using o);simp only[this,zh,zn]
 ·intro t ks h;obtain⟨fs,c,_⟩:=key t ks h;exact⟨fs,c⟩
end
def Ra(P:Program)(ct:FuncId->Bool)(f:FuncId):Option Fn:=
 match P.funcs[f]? with
 |some fn=>match fn.body with
  | some b => if fn.name = "runtime.NumGoroutine" then none else some ⟨fn.ntmps, fn.results, b, ct f⟩
  |none=>none
 |none=>none
theorem xJ {P : Program} {ct : FuncId -> Bool} {f : FuncId} {i : Fn} (h : Ra P ct f = some i) : ∃ fn, P.funcs[f]? = some fn /\ fn.name ≠ "runtime.NumGoroutine" /\ fn.body = some i.body /\ fn.ntmps = i.ntmps /\ fn.results = i.results := by
 unfold Ra at h;split at h
 case h_2=>cases h
 rename_i fn c;split at h
 case h_2=>cases h
 rename_i b e;split at h
 case isTrue=>cases h
 rename_i d;cases h;exact⟨fn,c,d,e,rfl,rfl⟩
inductive PK where
 |indexByte
 |add64
 |sub64
 |count
 |noEsc
def QI:Array Value->Sem Value:=fun args=>do
 let (x, y, b) <- Extern.MathBitsCarry.three "Sub64" args
 pure (ya ((x+zr-y-b) % zr) (if x<y+b then 1 else 0))
def PK.entry:PK->Array Value->Sem Value
 | .indexByte=>Extern.BytealgIndexByte.indexByte
 | .add64=>add64Entry
 | .sub64=>QI
 | .count=>Extern.BytealgCount.count
 | .noEsc=>Extern.AbiNoEscape.same
def V0:Option Nat->V
 |some i=>i64 i
 |none=>.int .i64<| -1
def dY:Nat:=18446744073709551616
def PK.run:PK->List V->H->Option (V×H)
 | .indexByte,[.str s,.int .u8 c],h=>some (V0<|s.findIdx? fun x=>x==c.toNat.toUInt8,h)
 | .add64,[.int .u64<|.ofNat x,.int .u64<|.ofNat y,.int .u64<|.ofNat c],h=>
  bif yy c 1 then some (.tup [.int .u64<|.ofNat<|(x+y+c) % dY,.int .u64<|.ofNat<|(x+y+c)/dY],h)else none
 | .sub64,[.int .u64<|.ofNat x,.int .u64<|.ofNat y,.int .u64<|.ofNat c],h=>
  bif yy c 1 then some (.tup [.int .u64<|.ofNat<|(x+dY-y-c) % dY,.int .u64<|.ofNat<|bif zz x (y+c)then 1 else 0],h)else none
 | .count,[.str s,.int .u8 c],h=>some (.int .i64 (s.foldl (fun n x=>bif x==c.toNat.toUInt8 then Nat.add n 1 else n) 0:Nat),h)
 | .noEsc,[.ptr b o],h=>some (.ptr b o,h)
 |_,_,_=>none
theorem Q3(s:Z)(c:UInt8):((zq (bytesOf s).size).find? fun i=>(bytesOf s)[i]! ==c)=s.findIdx? fun x=>x==c:=by
 have key:∀(l pre:Z),pre++l=s->((List.range' pre.length l.length).find? fun i=>(bytesOf s)[i]! ==c)=(l.findIdx? fun x=>x==c).map (· +pre.length):=by
  intro l;induction l with
  |nil=>intro pre _;simp
  |cons a l f=>
   intro pre hp;have d:(bytesOf s)[pre.length]! =a:=by
    subst hp;rw[getElem!_pos _ _<|by simp[BE]];simp[bytesOf,ByteArray.getElem_eq_getElem_data]
   rw[zt,List.range'_succ,List.find?_cons,d,List.findIdx?_cons];cases e:a==c with
   |true=>simp
   |false=>
    have:=f (pre++[a]) (by simpa using hp);simp only[List.length_append,List.length_singleton]at this;simp only[this,zu,vg,Option.map_map];congr 1;funext k;simp;omega
 have:=key s [] rfl;simp only[List.length_nil,y8]at this;rw[List.range_eq_range',BE,this];simp
theorem At.three{p:Pl}{a b c:V}{l:List Value}(h:At p [a,b,c] l):∃x y z,l=[x,y,z]/\Ac p a x/\Ac p b y/\Ac p c z:=by
 simp only[At]at h;obtain⟨x,l1,rfl,d,y,g,rfl,f,z,i,rfl,e,rfl⟩:=h;exact⟨x,y,z,rfl,d,f,e⟩
theorem PK.sim{P:Program}{k:PK}{p:Pl}{h:H}{w:World}{args:List V}{args':Array Value}{v:V}{h':H}(i:At p args args'.toList)(d:k.run args h=some (v,h')):
  h'=h/\∃v',(k.entry args').run P w=.ok v' w/\Ac p v v':=by
 unfold PK.run at d;split at d
 case h_6=>cases d
 case h_5=>
  rename_i b o;cases d;obtain⟨x,g,e⟩:=i.one;have:args'= #[x]:=z6.1 g;subst this;exact⟨rfl,x,Lib.run_noEscape w x,e⟩
 case h_1=>
  rename_i s c;cases d;obtain⟨x,y,g,e,f⟩:=i.two;have:args'= #[x,y]:=z6.1 g;subst this;simp only[Ac]at e f;subst e f;refine⟨rfl,_,run_indexByte_string (bytesOf s) c w,?_⟩;unfold firstIdx;rw[Q3];cases s.findIdx? fun x=>x==c.toNat.toUInt8<;>simp[V0,i64,Ac]
 case h_2=>
  rename_i x y c;rw[show yy c 1=decide (c<=1)from by rw[Bool.eq_iff_iff];simp]at d;by_cases j:c<=1
  ·simp only[j,decide_true,we,ze,zl]at d;obtain⟨rfl,rfl⟩:=d;obtain⟨x',y',z',g,e,f,h3⟩:=i.three;have:args'= #[x',y',z']:=z6.1 g;subst this;simp only[Ac]at e f h3;subst e f h3;refine⟨rfl,_,run_add64 x y c ae ae ae ae w,?_⟩;simp only[Ac];refine⟨_,rfl,?_⟩;simp only[Bh,G7,ve,Ac];exact⟨by simp[dY],by simp[dY]⟩
  ·simp[j]at d
 case h_3=>
  rename_i x y c;rw[show yy c 1=decide (c<=1)from by rw[Bool.eq_iff_iff];simp]at d;by_cases j:c<=1
  ·simp only[j,decide_true,we,ze,zl]at d;obtain⟨rfl,rfl⟩:=d;obtain⟨x',y',z',g,e,f,h3⟩:=i.three;have:args'= #[x',y',z']:=z6.1 g;subst this;simp only[Ac]at e f h3;subst e f h3;have key:(QI #[.int .u64 x,.int .u64 y,.int .u64 c]).run P w=
     .ok (ya ((x+zr-y-c) % zr)<|if x<y+c then 1 else 0) w:=by
    have:c=0\/c=1:=ae
    rcases this with rfl|rfl<;>rfl
   refine⟨rfl,_,key,?_⟩;simp only[Ac,ya];refine⟨_,rfl,?_⟩;simp only[Bh,G7,ve,Ac];refine⟨rfl,?_⟩;rw[Ht];by_cases q:x<y+c<;>simp[q]
  ·simp[j]at d
 case h_4=>
  rename_i s c;cases d;obtain⟨x,y,g,e,f⟩:=i.two;have:args'= #[x,y]:=z6.1 g;subst this;simp only[Ac]at e f;subst e f;refine⟨rfl,_,Lib.run_countString (bytesOf s) c w,?_⟩;have key:∀(l:Z) (n:Nat),l.foldl (fun n x=>bif x==c.toNat.toUInt8 then Nat.add n 1 else n) n=n+Lib.countByte l c.toNat.toUInt8:=by
   intro l;induction l with
   |nil=>intro n;simp[Lib.countByte]
   |cons x l r=>
    intro n;rw[List.foldl_cons,r];unfold Lib.countByte;rw[List.count_cons];cases t:x==c.toNat.toUInt8 with
    |true=>simp only[we,wk];show n+1+_=_;omega
    |false=>simp
  simp only[Ac,key,Nat.zero_add];simp[bytesOf]
def SC(L:List (FuncId×PK))(f:FuncId):Option (List V->H->Option (V×H)):=
 match L with
 |[]=>none
 |(g,k)::L=>bif zi g f then some k.run else SC L f
structure Kl(P:Program)(x:FuncId×PK):Prop where
 ok : ∃ fn, P.funcs[x.1]? = some fn /\ (fn.name == "runtime.NumGoroutine") = false /\ fn.body.isNone = true /\ Extern.findNext fn = none /\ Extern.find fn = some x.2.entry
theorem Y4{P:Program}:∀ {L:List (FuncId×PK)},(∀x∈L,Kl P x)->∀f q,SC L f=some q->∀(p:Pl) (h:H) (w:World) (args:List V) (args':Array Value) v h',R p h w->At p args args'.toList->q args h=some (v,h')->
  ∃v' p' w',(callFunc f args').run P w=.ok (.value v') w'/\Ac p' v v'/\Ext p h w p' h' w'
 |[],_,f,q,c,_,_,_,_,_,_,_,_,_,_=>by cases c
 |(g,k)::L,j,f,q,c,p,h,w,args,args',v,h',hr,d,i=>by
  unfold SC at c;rw[Bp]at c;by_cases e:g=f
  ·subst e;simp only[decide_true,we,ze]at c;subst c;obtain⟨fn,l,t,s,r,u⟩:=(j (g,k)<|by simp).ok;obtain⟨rfl,v',g1,g2⟩:=PK.sim (P:=P) (w:=w) d i;refine⟨v',p,w,?_,g2,yh hr⟩;rw[run_callFunc_extern l t s r u,g1];rfl
  ·simp only[e,decide_false,wg]at c;exact Y4 (fun x o=>j x<|by simp[o]) f q c p h w args args' v h' hr d i
def Acm:Option (List<|V×H)->Option V
 |some [(v,_)]=>some v
 |_=>none
def Yz(C:Ctx)(n:Nat)(f:FuncId)(args:List V)(v:V):Bool:=match Acm (Bl C n (.fn f args) hG)with
 |some x=>V.beq x v
 |none=>false
theorem W4{C C':Ctx}{P:Program}(N:C.Ok P)(B:Gy C)(U:P.follows .mixedOrders=true){n:Nat}{f:FuncId}{args:List V}{v:V}
  (t:Yz C n f args v=true) (J:V.Iw args=true) (z:v.flat=true) {p:Pl} {h:H} {w:World} {args':Array Value} (hr:R p h w) (j:Gl C' p) (O:Gh h) (c:At p args args'.toList):
  Calls P f args' w fun e w'=>∃v' p',e=.returned v'/\Ac p' v v'/\Ext p h w p' h w':=by
 unfold Yz at t;split at t
 case h_2=>cases t
 rename_i x s;have A:x=v:=V.beq_eq t;subst A;unfold Acm at s;split at s
 case h_2=>cases s
 rename_i l D T;cases s;have j:Gp p:=j;refine((IU N B U n).fn f args hG _ T _ w args' (Aas hr j O) j.take<|V.Ji J c).mono ?_;rintro e w' ⟨u,h',v',p',i,rfl,G,q⟩;cases zf.1 i;have g:∀r,r<w.heap.size->w'.heap[r]?=w.heap[r]?:=fun r hr=>q.Gr j.take r hr
 refine⟨v',p,rfl,V.Df z G,⟨⟨[],by simp⟩,⟨hr.len,fun b o I=>?_,hr.inj⟩,q.size,fun r d _=>g r d,fun r K=>.inl K,q.os,q.out,q.tape,fun r d D=>⟨g r d,.inl D⟩⟩⟩;obtain⟨r,m,y,L,E,M⟩:=hr.obj b o I;exact⟨r,m,y,L,by rw[g r (zc.1 E).1];exact E,M⟩
def xC(h:H):List (Nat×O)->Bool
 |[]=>true
 |(i,o)::l=>Rp (h.get i) (some o)&&xC h l
theorem ZA{h:H}:∀ {l:List (Nat×O)},xC h l=true->∀x∈l,h.get x.1=some x.2
 |[],_,x,c=>by cases c
 |(i,o)::l,d,x,c=>by
  simp only[xC,zd]at d;rcases yw.1 c with rfl|c
  ·have:=d.1;cases e:h.get i with
   |none=>rw[e]at this;simp[Rp]at this
   |some q=>rw[e]at this;rw[ZX (a:=q) (b:=o)<|by simpa [Rp]using this]
  ·exact ZA d.2 x c
def goS:List (Nat×O)->Bool
 |[]=>true
 |(_,o)::l=>Rp (some o) (some o)&&goS l
theorem cJ:goS Gr=true:=by kernel_rfl
theorem Abb{h:H}(e:Gh h):xC h Gr=true:=by
 have key:∀l:List (Nat×O),(∀x∈l,h.get x.1=some x.2)->goS l=true->xC h l=true:=by
  intro l;induction l with
  |nil=>exact fun _ _=>rfl
  |cons x l f=>
   intro d c;simp only[goS,zd]at c;simp only[xC,zd];exact⟨by rw[d x List.mem_cons_self];exact c.1,f (fun y g=>d y<|List.mem_cons_of_mem _ g) c.2⟩
 exact key Gr e cJ
abbrev CR:=List<|FuncId×List V×V
def IN:CR->FuncId->List V->Option V
 |[],_,_=>none
 |(g,a,v)::l,f,args=>bif zi g f&&V.Me a args then some v else IN l f args
def TF:CR->FuncId->Bool
 |[],_=>false
 |(g,_,_)::l,f=>bif zi g f then true else TF l f
def Kd(L:CR)(f:FuncId):Option (List V->H->Option (V×H)):=
 bif TF L f then some (fun args h=>bif xC h Gr then(match IN L f args with|some v=>some (v,h)|none=>none)else none)else none
def A1(C:Ctx)(n:Nat):CR->Bool
 |[]=>true
 |(f,a,v)::l=>Yz C n f a v&&V.Iw a&&v.flat&&A1 C n l
theorem cM{L:CR}{f:FuncId}{args:List V}{v:V}(h:IN L f args=some v){C:Ctx}{n:Nat}(d:A1 C n L=true):Yz C n f args v=true/\V.Iw args=true/\v.flat=true:=by
 induction L with
 |nil=>cases h
 |cons x l j=>
  obtain⟨g,a,u⟩:=x;simp only[A1,zd]at d;unfold IN at h;cases c:(zi g f&&V.Me a args)with
  |false=>rw[c]at h;exact j h d.2
  |true=>
   rw[c]at h;cases h;simp only[zd]at c;have i:g=f:=zg c.1;have e:a=args:=V.HY c.2;subst i;subst e;exact⟨d.1.1.1,d.1.1.2,d.1.2⟩
theorem rB{C C':Ctx}{P:Program}(y:C.Ok P)(j:Gy C)(A:P.follows .mixedOrders=true){n:Nat}{L:CR}(o:A1 C n L=true):
  ∀f q,Kd L f=some q->∀(p:Pl) (h:H) (w:World) (args:List V) (args':Array Value) v h',R p h w->Gl C' p->At p args args'.toList->q args h=some (v,h')->
  Calls P f args' w fun e w'=>∃v' p',e=.returned v'/\Ac p' v v'/\Ext p h w p' h' w':=by
 intro f q i p h w args args' v h' hr x d c;unfold Kd at i;cases l:TF L f with
 |false=>rw[l]at i;cases i
 |true=>
  rw[l]at i;cases i;simp only at c;cases g:xC h Gr with
  |false=>rw[g]at c;cases c
  |true=>
  rw[g]at c;simp only[we]at c;split at c
  case h_2=>cases c
  rename_i u r;cases c;obtain⟨s,z,t⟩:=cM r o;exact W4 (C':=C') y j A s z t hr x (ZA g) d
end Go.Det
