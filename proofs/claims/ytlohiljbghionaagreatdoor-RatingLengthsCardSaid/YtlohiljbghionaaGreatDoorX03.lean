import Derived.Test.YtlohiljbghionaaGreatDoorX02
import Derived.RangeFuncRecord
import Derived.RangeFuncLeaves
import Derived.Scope
import Derived.Laws.StructEq
import Derived.Lib.Bytealg
import Derived.Laws.Externs
/- A part of a proof (no law is stated here). Made by program out of texts by AI agents. -/
noncomputable section
open Array renaming getElem?_eq_some_iff -> zc, getD_eq_getD_getElem? -> zk, toList_inj -> z6, getElem?_push -> yb, getElem?_eq_getElem -> yk, replicate -> yr
open Bool renaming and_eq_true -> zd, or_eq_true -> zp, false_eq_true -> zu, not_eq_true' -> zx
open Option.some renaming injEq -> ze
open List renaming mem_singleton -> zf, all_eq_true -> zm, range -> zq, length_cons -> zt, mem_zipIdx_iff_getElem? -> zw, getD_eq_getElem?_getD -> zy, getElem?_append_left -> z7, any_eq_true -> ye, getElem?_eq_getElem -> yn, mem_range -> yv, mem_cons -> yw, mem_map -> y7
open Nat renaming eq_of_beq_eq_true -> zg, beq -> zi, le_refl -> zo, blt -> zz, blt_eq -> yp, lt_or_ge -> yq, ble -> yy, le_of_lt -> yz, add_zero -> y8
open Go.Result renaming andThen_ok -> zh
open Go.Sem renaming run_bind -> zj, run_pure -> zn
open Prod.mk renaming injEq -> zl
open Go.Extern.MathBitsCarry renaming m64 -> zr, pair -> ya
open Classical renaming byContradiction -> z8
open Go.Oper renaming semAt_eq -> yc, uponIn_value -> yd
open Go.Region renaming binds -> yf, ready -> yg
open Go.Det.Ext renaming refl -> yh
open Go.Fence renaming wide -> yi
open Go.Instr renaming checkKey -> yj
open Option renaming isSome_iff_exists -> ym, getD_some -> yo
open Go.Op renaming operands -> yt
open Go.Code renaming region -> yu
open PUnit renaming unit -> yx
namespace Go.Det
section
variable {C:Ctx}{P:Program}{p:Pl}{h:H}{w:World}{fr:Fr}{a:Act}
def Xd(T:Cc)(t:TypeId)(len:Nat)(c:List (Nat×V)):Option (List V×TypeId):=
 match T.und t with
 |some (.slice e)=>match T.inf e with
  |some i=>
   bif yy (len*i.size) 16777216&&zz 0 (i.zero.length)&&zi i.zero.length i.size then
    (IW (fun k=>some (k*i.size,i.size)) (Fp i.zero<|len*i.size) c).map fun cs=>(cs,e)
   else none
  |none=>none
 |_=>none
def fE(C:Ctx)(fr:Fr)(o:Oper):Option (O×(Nat->V)):=
 match o.op with
 | .alloc t=>match C.T.inf t with
  |some i=>some (.cells i.zero t (0,0),fun b=>.ptr b 0)
  |none=>none
 | .box t x=>match ev C fr x with
  |some v=>some (.cells v.cells t (0,0),fun b=>.ptr b 0)
  |none=>none
 | .buildSlice t n c=>match Ye C fr c.toList with
  |some ps=>match Xd C.T t n ps with
   |some (cs,e)=>some (.cells cs e (0,0),fun b=>.sl b 0 n n 0)
   |none=>none
  |none=>none
 |_=>none
theorem kO{o:Oper}{r:O×(Nat->V)}(c:fE C fr o=some r):CB o=true:=by
 unfold fE at c;unfold CB;split at c<;>simp_all
theorem AbJ(I:C.Ok P)(R:Gl C p){ops:Array Oper}{o:Oper}(Z:FOn p fr a (reads ops o)){ob:O}{f:Nat->V}(r:fE C fr o=some (ob,f)):
  ∃x n v',(execOp a.eval o).run P w=.ok (.value v') { w with heap:=w.heap.push x }/\Hw p n ob x/\∀(q:Pl) b,q[b]?=some (w.heap.size,n)->Ac q (f b) v':=by
 have B:∀cs b,o.op≠ .select cs b:=by
  intro cs b e;have:=kO r;simp[CB,e]at this
 have hE:∀(P:Program) (w:World),(execOp (IT (reads ops o) a).eval o).run P w=(execOp a.eval o).run P w:=fun P w=>by rw[execOp_congr o B fun x u=>J0 u]
 have U:=Z.Qq;have g:∀(t:TypeId) (cs:List V) (c:Array Value),Av p cs c.toList->Hw p c.size (.cells cs t (0,0)) (.cells c t):=by
  intro t cs c u;refine⟨c,(0,0),rfl,rfl,by have:=u.length;simp at this;omega,?_,fun i _ E K=>⟨E,K⟩⟩;have:=u.length;rw[List.take_of_length_le<|by simp at this ⊢;omega];exact u.toC
 unfold fE at r;split at r
 case h_4=>cases r
 case h_1=>
  rename_i t s;split at r
  case h_2=>cases r
  rename_i i G;cases r;obtain⟨z,L,y⟩:=EO I.T G;refine⟨.cells z.cells t,_,.pointer<|some ⟨w.heap.size,0,none⟩,?_,g _ _ _<|y p,fun q b D=>by simp only[Ac];exact⟨_,_,D,rfl⟩⟩;unfold execOp;simp only[s];unfold Instr.alloc newVar;simp only[zj,L,zh,Cy,zn]
 case h_2=>
  rename_i t x s;split at r
  case h_2=>cases r
  rename_i v X;cases r;have u:Ac p v (a.eval x):=by
   have:=A9 (C:=C) R U (x:=x) (v:=v) (by rw[Th<|by simp[s,yt]];exact X);rwa [J0<|by simp[s,yt]]at this
  refine⟨.cells (a.eval x).cells t,_,.pointer<|some ⟨w.heap.size,0,none⟩,?_,g _ _ _ u.cells,fun q b D=>by simp only[Ac];exact⟨_,_,D,rfl⟩⟩;unfold execOp;simp only[s];unfold Instr.box newVar;simp only[zj,zh,Cy,zn]
 case h_3=>
  rename_i t len d s;split at r
  case h_2=>cases r
  rename_i ps N;split at r
  case h_2=>cases r
  rename_i cs e l;cases r;have hp:U9 p ps (d.map fun(i,x)=>(i,a.eval x)).toList:=by
   have:=OC (C:=C) (fr:=OX (reads ops o) fr) R U (xs:=d.toList) (vs:=ps) (by
    rw[Jw (fr':=fr) fun x u=>Th<|by rw[s];simp[yt];exact⟨x.1,by simpa using u⟩];exact N)
   have Y:(d.toList.map fun(i,x)=>(i,(IT (reads ops o) a).eval x))=(d.map fun(i,x)=>(i,a.eval x)).toList:=by
    rw[Array.toList_map];apply List.map_congr_left;rintro⟨i,x⟩ hm;simp only;rw[J0<|by rw[s];simp[yt];exact⟨i,by simpa using hm⟩]
   rwa [Y]at this
  unfold Xd at l;split at l
  case h_2=>cases l
  rename_i e' hu;split at l
  case h_2=>cases l
  rename_i i G;cases j:(yy (len*i.size) 16777216&&zz 0 (i.zero.length)&&zi i.zero.length i.size)with
  |false=>simp[j]at l
  |true=>
   simp only[j,we,Option.map_eq_some_iff,zl]at l;obtain⟨cs',A,rfl,rfl⟩:=l;simp only[zd,Nat.ble_eq,yp,Bt,w5]at j;obtain⟨⟨c1,c2⟩,c3⟩:=j;obtain⟨z,L,y⟩:=EO I.T G;have J:=(y p).length;simp at J;obtain⟨oo,E,K⟩:=Lt (p:=p) (place:=fun k=>some (k*i.size,i.size)) hp (JT (y p) c2<|len*i.size) A;refine⟨.cells oo e',_,.slice (some ⟨w.heap.size,0,none⟩) len len,?_,g _ _ _ K,fun q b D=>by simp only[Ac];exact⟨_,_,len,D,rfl,zo _,zo _,fun _=>rfl,by simp⟩⟩;unfold execOp;simp only[s];unfold Instr.buildSlice;simp only[zj,Az I.T hu,zh,BD I.T G];rw[wc<|by omega];by_cases h0:len*i.size=0
   ·rw[wd h0];simp only[zj,zn,zh];have W:(Array.map (fun x=>(#[]:Array Value)[x % (#[]:Array Value).size]!)<|Array.range<|len*i.size)=Array.map (fun M=>z.cells[M % z.cells.size]!) (Array.range<|len*i.size):=by simp[h0]
    rw[W,E];simp only[zj,Cy,zh,zn]
   ·simp only[h0,vg,zj,L,zh,zn,E,Cy]
theorem Ext.gG{G p:Pl}{B h:H}{l w:World}(A:Ext G B l p h w){r n:Nat}{o:O}{x:Obj}(hx:w.heap[r]?=some x)(ho:Hw p n o x)(Z:¬Im p h r)(L:l.heap.size<=r):
  Ext G B l (p++[(r,n)]) (h.push o) w:=by
 have hr:=A.rel;have f:(p++[(r,n)])[h.nx]?=some (r,n):=by rw[<-hr.len];simp
 have d:∀b,b<h.nx->(p++[(r,n)])[b]?=p[b]?:=fun b hb=>z7 (by rw[hr.len];exact hb)
 have i:∀c g,(h.push o).get c=some g->(c=h.nx/\g=o)\/(c<h.nx/\h.get c=some g):=by
  intro c g u;rw[H.BP]at u;by_cases e:c=h.nx
  ·rw[wd e]at u;cases u;exact .inl ⟨e,rfl⟩
  ·rw[wc e]at u;exact .inr ⟨hr.lt u,u⟩
 refine⟨?_,⟨by simp[hr.len],fun c g u=>?_,fun c M g I s m Y u U z J=>?_⟩,A.size,A.same,fun s W=>?_,A.os,A.out,A.tape,fun s W hl=>?_⟩
 ·obtain⟨q,rfl⟩:=A.pre;exact⟨q++[(r,n)],by simp⟩
 ·rcases i c g u with⟨rfl,rfl⟩|⟨D,K⟩
  ·exact⟨r,n,x,f,hx,ho.mono _⟩
  ·obtain⟨s,m,y,E,j,X⟩:=hr.obj c g K;exact⟨s,m,y,by rw[d c D];exact E,j,X.mono _⟩
 ·rcases i c g u with⟨rfl,rfl⟩|⟨D,K⟩<;>rcases i M I U with⟨rfl,rfl⟩|⟨N,R⟩
  ·rfl
  ·rw[f]at z;cases z;rw[d M N]at J;exact wh ⟨M,I,Y,R,J⟩ Z
  ·rw[f]at J;cases J;rw[d c D]at z;exact wh ⟨c,g,m,K,z⟩ Z
  ·rw[d c D]at z;rw[d M N]at J;exact hr.inj c M g I s m Y K R z J
 ·obtain⟨c,g,m,E,j⟩:=W;rcases i c g E with⟨rfl,rfl⟩|⟨D,K⟩
  ·rw[f]at j;cases j;exact .inr L
  ·rw[d c D]at j;exact A.im s ⟨c,g,m,K,j⟩
 ·obtain⟨D,z⟩:=A.lock s W hl;refine⟨D,?_⟩;rcases z with⟨c,m,cs,t,fz,E,j,X⟩|z
  ·have T:=hr.lt E;exact .inl ⟨c,m,cs,t,fz,by rw[H.BP,wc<|by omega];exact E,by rw[d c T];exact j,X⟩
  ·refine .inr ?_;rintro⟨c,g,m,E,j⟩;rcases i c g E with⟨rfl,rfl⟩|⟨N,R⟩
   ·rw[f]at j;cases j;omega
   ·rw[d c N]at j;exact z ⟨c,g,m,R,j⟩
theorem Ext.aside{e p:Pl}{d h:H}{f w:World}(c:Ext e d f p h w)(x:Obj):Ext e d f p h { w with heap:=w.heap.push x }:=by
 have hr:=c.rel;refine⟨c.pre,⟨hr.len,fun b o q=>?_,hr.inj⟩,by have:=c.size;simp;omega,fun r g s=>?_,c.im,c.os,c.out,c.tape,fun r g l=>?_⟩
 ·obtain⟨r,n,y,i,j,t⟩:=hr.obj b o q;have:=(zc.1 j).1;exact⟨r,n,y,i,by simp[yb,Nat.ne_of_lt this,j],t⟩
 ·have i:=c.same r g s;have:=c.size;simp only[yb];rw[wc<|by omega];exact i
 ·obtain⟨i,j⟩:=c.lock r g l;have:=c.size;refine⟨?_,j⟩;simp only[yb];rw[wc<|by omega];exact i
end
def D0(C:Ctx)(call:DM)(fr:Fr)(h:H)(o:Oper):Option (V×H):=
 match GL C fr h o with
 |some (.val v h')=>some (v,h')
 |some (.skip h')=>some (.tup [],h')
 |some (.enter f args)=>match call (.fn f args) h with
  |some [x]=>some x
  |_=>none
 |_=>none
def CT(o:Oper):Bool:= !EB o&& !CB o
structure Stat(ops:Array Oper)(anc:Nat->Nat->Bool)(ord pos:Nat->Nat)(sc:Nat->Option Nat):Prop where
 sel:Region.noSelect ops=true
 ordp:∀q,q<ops.size->ord q<ops.size/\pos (ord q)=q
 posp:∀i,i<ops.size->pos i<ops.size/\ord (pos i)=i
 edge:∀j i,anc j i=true->∃(o:Oper) (e:Edge),ops[j]?=some o/\e∈o.after/\yf .any e=true/\(e.on=i\/anc e.on i=true)
 dir:∀(j:Nat) (o:Oper) (e:Edge),ops[j]?=some o->e∈o.after->yf .any e=true->anc j e.on=true/\e.on<ops.size
 apos:∀j i,anc j i=true->pos i<pos j
 s1:∀(i j:Nat) (o o':Oper),ops[i]?=some o->ops[j]?=some o'->CT o=true->CT o'=true->i≠j->anc i j=true\/anc j i=true
 s2:∀(i j:Nat) (o o':Oper),ops[i]?=some o->ops[j]?=some o'->CT o=true->EB o'=true->anc j i=true\/pos j<pos i
 q1:∀(i k:Nat),sc i=some k->∃(o ok:Oper) (t:Tmp),ops[i]?=some o/\ops[k]?=some ok/\(o.op=.assign (.tmp t)\/o.op=.move (.tmp t))/\o.guard=none/\CB ok=true/\ok.dst=some t/\anc i k=true
 s3:∀(j k:Nat) (o o':Oper) (t:Tmp),ops[j]?=some o->ops[k]?=some o'->(CB o=true\/(sc j).isSome=true)->CT o'=false->o.dst=some t->t∈reads ops o'->anc k j=true->
  sc k=some j\/∃(i:Nat) (oi:Oper),ops[i]?=some oi/\CT oi=true/\anc i j=true/\anc k i=true
 s4:∀(i j:Nat) (o o':Oper),ops[i]?=some o->ops[j]?=some o'->CT o=true->CB o'=true->anc i j=true\/pos i<pos j
 s5:∀(i j:Nat) (o o':Oper),ops[i]?=some o->ops[j]?=some o'->EB o=true->QX o=true->CB o'=true->pos j<pos i->∃(k:Nat) (ok:Oper),ops[k]?=some ok/\CT ok=true/\pos j<pos k/\pos k<pos i
 s6:∀(i j:Nat) (o o':Oper) (t:Tmp),ops[i]?=some o->ops[j]?=some o'->i≠j->o.dst=some t->o'.dst≠some t/\(t∈reads ops o'->anc j i=true\/anc i j=true)
structure Canon(C:Ctx)(call:DM)(ops:Array Oper)(anc:Nat->Nat->Bool)(ord pos:Nat->Nat)(fr0:Fr)(h0:H)(v:Nat->V)(Hh:Nat->H)(F:Nat->Fr):Prop where
 h0:Hh 0=h0
 f0:F 0=fr0
 fn:∀q,q<=ops.size->(F q).n=fr0.n
 fget:∀q,q<ops.size->∀(o:Oper),ops[ord q]?=some o->∀t,(F (q+1)).get t=if o.dst=some t then v (ord q)else(F q).get t
 dst:∀(i:Nat) (o:Oper) (t:Tmp),ops[i]?=some o->o.dst=some t->t<fr0.n
 step:∀(i:Nat) (o:Oper),ops[i]?=some o->
  (Be (F (pos i)) ops o=false/\v i=.tup []/\Hh (pos i+1)=Hh (pos i))\/
  (Be (F (pos i)) ops o=true/\
   ((EB o=true/\GL C (F (pos i)) (Hh (pos i)) o=some (.val (v i) (Hh (pos i)))/\Hh (pos i+1)=Hh (pos i))\/
    (CB o=true/\∃ob f,fE C (F (pos i)) o=some (ob,f)/\v i=f (Hh (pos i)).nx/\Hh (pos i+1)=(Hh (pos i)).push ob)\/
    (CT o=true/\D0 C call (F (pos i)) (Hh (pos i)) o=some (v i,Hh (pos i+1)))))
 stable:∀(i j:Nat) (o oj:Oper),ops[i]?=some o->ops[j]?=some oj->CT o=true->EB oj=true->QX oj=true->Be (F (pos j)) ops oj=true->pos j<pos i->anc i j=false->
  GL C (F (pos j)) (Hh (pos i+1)) oj=some (.val (v j) (Hh (pos i+1)))
theorem kinds(o:Oper):EB o=true\/CB o=true\/CT o=true:=by
 unfold CT;cases EB o<;>cases CB o<;>simp
theorem Ju{o:Oper}(h:EB o=true):CB o=false:=by
 unfold EB at h;unfold CB;split at h<;>simp_all
theorem OG{o:Oper}(h:CT o=true):EB o=false/\CB o=false:=by
 unfold CT at h;simpa using h
section
variable {C:Ctx}{P:Program}{call:DM}{ops:Array Oper}{anc:Nat->Nat->Bool}{ord pos:Nat->Nat}{sc:Nat->Option Nat}{fr0:Fr}{h0:H}{v:Nat->V}{Hh:Nat->H}{F:Nat->Fr}
theorem Fw(st:Stat ops anc ord pos sc)(r:Canon C call ops anc ord pos fr0 h0 v Hh F){k:Nat}{o:Oper}{t:Tmp}(f:ops[k]?=some o)(g:o.dst=some t):
  ∀q,q<=ops.size->pos k<q->(F q).get t=v k
 |0,_,h=>by omega
 |q+1,x,h=>by
  have c:q<ops.size:=by omega
  obtain⟨l,s⟩:=st.ordp q c;rw[r.fget q c (ops[ord q]) (by simp[l]) t];have j:=(zc.1 f).1;by_cases e:pos k=q
  ·have d:ord q=k:=by rw[<-e];exact(st.posp k j).2
   have u:ops[ord q]=o:=by have:=(zc.1 f).2;simp only[d];exact this
   rw[u,wd g,d]
  ·have i:ord q≠k:=fun d=>e (by rw[<-d,s])
   have:=(st.s6 k (ord q) o (ops[ord q]) t f (by simp[l]) (Ne.symm i) g).1;rw[wc this];exact Fw st r f g q (by omega) (by omega)
theorem Fz(st:Stat ops anc ord pos sc)(e:Canon C call ops anc ord pos fr0 h0 v Hh F){t:Tmp}:
  ∀q,q<=ops.size->(∀k o,ops[k]?=some o->o.dst=some t->¬pos k<q)->(F q).get t=fr0.get t
 |0,_,_=>by rw[e.f0]
 |q+1,l,h=>by
  have c:q<ops.size:=by omega
  obtain⟨f,j⟩:=st.ordp q c;rw[e.fget q c (ops[ord q]) (by simp[f]) t,wc]
  ·exact Fz st e q (by omega) fun k o g d i=>h k o g d (by omega)
  ·intro d;exact h (ord q) _ (by simp[f]) d (by omega)
theorem Ab0(st:Stat ops anc ord pos sc)(g:Canon C call ops anc ord pos fr0 h0 v Hh F){i k:Nat}(h:sc i=some k):v i=v k:=by
 obtain⟨o,ok,t,f,j,c,q,y,l,s⟩:=st.q1 i k h;have e:=(zc.1 f).1;have r:=Fw st g j l (pos i) (yz (st.posp i e).1)<|st.apos i k s;have x:Be (F<|pos i) ops o=true:=by unfold Be;rw[q]
 have d:EB o=true:=by unfold EB;rcases c with c|c<;>rw[c]
 rcases g.step i o f with⟨u,_⟩|⟨_,⟨_,u,_⟩|⟨u,_⟩|⟨u,_⟩⟩
 ·rw[x]at u;cases u
 ·have:GL C (F<|pos i) (Hh<|pos i) o=some (.val ((F<|pos i).get t)<|Hh<|pos i):=by
   rw[Db];unfold G7;rcases c with c|c<;>simp only[c,ev,BE]
  rw[this,r]at u;simp only[ze,OR.val.injEq]at u;exact u.1.symm
 ·rw[Ju d]at u;cases u
 ·rw[(OG u).1]at d;cases d
structure Inv(C:Ctx)(ops:Array Oper)(pos:Nat->Nat)(sc:Nat->Option Nat)(fr0:Fr)(v:Nat->V)(Hh:Nat->H)(F:Nat->Fr)(p0:Pl)(h0:H)(w0:World)(df:List Deferred)
  (S:Nat->Prop) (m:Nat) (fl:Nat->Nat) (p:Pl) (a:Act) (w:World):Prop where
 ext:Ext p0 h0 w0 p (Hh m) w
 gl:Gl C p
 mn:m<=ops.size
 mh:∀(k:Nat) (o:Oper),ops[k]?=some o->CT o=true->(S k↔pos k<m)
 ma:∀(k:Nat) (o:Oper),ops[k]?=some o->CB o=true->pos k<m->S k
 sz:a.tmps.size=fr0.n
 df:a.defers=df
 slot:∀t,(∀(i:Nat) (o:Oper),S i->ops[i]?=some o->o.dst≠some t)->Ac p (fr0.get t) (a.tmps.getD t undef)
 slotw:∀(i:Nat) (o:Oper) (t:Tmp),S i->ops[i]?=some o->o.dst=some t->((CB o=true\/(sc i).isSome=true)->Be (F (pos i)) ops o=true->pos i<m)->Ac p (v i) (a.tmps.getD t undef)
 flt:∀(i:Nat) (o:Oper),S i->ops[i]?=some o->CB o=true->Be (F (pos i)) ops o=true->m<=pos i->
  ∃n x ob f v',fE C (F (pos i)) o=some (ob,f)/\w.heap[fl i]?=some x/\w0.heap.size<=fl i/\¬Im p (Hh m) (fl i)/\Hw p n ob x/\
   (∀(q:Pl) b,q[b]?=some (fl i,n)->Ac q (f b) v')/\(∀t,o.dst=some t->a.tmps.getD t undef=v')
 inj:∀(i j:Nat) (o o':Oper),S i->S j->ops[i]?=some o->ops[j]?=some o'->CB o=true->CB o'=true->Be (F (pos i)) ops o=true->Be (F (pos j)) ops o'=true->
  m<=pos i->m<=pos j->fl i=fl j->i=j
structure Mz(ops:Array Oper)(pos:Nat->Nat)(sc:Nat->Option Nat)(S:Nat->Prop)(m:Nat)(a:Act):Prop where
 eq:∀(i k:Nat) (o ok:Oper) (t tk:Tmp),S i->ops[i]?=some o->sc i=some k->ops[k]?=some ok->o.dst=some t->ok.dst=some tk->m<=pos i->a.tmps.getD t undef=a.tmps.getD tk undef/\S k
theorem Inv.adv(st:Stat ops anc ord pos sc)(cn:Canon C call ops anc ord pos fr0 h0 v Hh F){p0:Pl}{w0:World}{df:List Deferred}{S:Nat->Prop}{fl:Nat->Nat}{a:Act}{w:World}:
  ∀(d m:Nat) {p:Pl},Inv C ops pos sc fr0 v Hh F p0 h0 w0 df S m fl p a w->Mz ops pos sc S m a->m+d<=ops.size->
  (∀q,m<=q->q<m+d->∀(o:Oper),ops[ord q]?=some o->CT o=false/\(CB o=true->S (ord q)))->
  ∃p',Inv C ops pos sc fr0 v Hh F p0 h0 w0 df S (m+d) fl p' a w
 |0,m,p,g,_,_,_=>⟨p,g⟩
 |d+1,m,p,g,O,hn,hq=>by
  have hm:m<ops.size:=by omega
  obtain⟨g1,g2⟩:=st.ordp m hm;obtain⟨T,hj⟩:∃T,ops[ord m]?=some T:=⟨ops[ord m],by simp[g1]⟩;obtain⟨q1,q2⟩:=hq m (zo _) (by omega) _ hj;have one:∃p',Inv C ops pos sc fr0 v Hh F p0 h0 w0 df S (m+1) fl p' a w:=by
   have Y:∀(k:Nat) (o:Oper),ops[k]?=some o->CT o=true->(S k↔pos k<m+1):=by
    intro k o u hv;rw[g.mh k o u hv];constructor
    ·intro h;omega
    ·intro h;by_cases e:pos k=m
     ·have D:=(zc.1 u).1;have z:ord m=k:=by rw[<-e];exact(st.posp k D).2
      subst z;rw[hj]at u;cases u;simp[q1]at hv
     ·omega
   have U:∀(k:Nat) (o:Oper),ops[k]?=some o->CB o=true->pos k<m+1->S k:=by
    intro k o u y hlt;by_cases e:pos k=m
    ·have D:=(zc.1 u).1;have z:ord m=k:=by rw[<-e];exact(st.posp k D).2
     subst z;rw[hj]at u;cases u;exact q2 y
    ·exact g.ma k o u y (by omega)
   have same:Hh (m+1)=Hh m->(CB T=true->Be (F<|pos<|ord m) ops T=false)->(Be (F<|pos<|ord m) ops T=false->v (ord m)=.tup [])->
     Inv C ops pos sc fr0 v Hh F p0 h0 w0 df S (m+1) fl p a w:=by
    intro hh y _;refine⟨by rw[hh];exact g.ext,g.gl,by omega,Y,U,g.sz,g.df,g.slot,fun i o t s c E hc=>?_,fun i o s c l r G=>?_,fun i j o o' s K c I l J r L G X he=>?_⟩
    ·by_cases Z:(sc i).isSome=true/\pos i=m
     ·obtain⟨k,u⟩:=ym.1 Z.1;obtain⟨o2,ok,tk,R,h2,h3,h4,h5,h6,h7⟩:=st.q1 i k u;rw[c]at R;cases R;obtain⟨e1,z⟩:=O.eq i k o ok t tk s c u h2 E h6 (by omega);rw[Ab0 st cn u,e1];have:=st.apos _ _ h7;exact g.slotw k ok tk z h2 h6 fun _ _=>by omega
     ·refine g.slotw i o t s c E fun l r=>?_
      have R:=hc l r;by_cases e:pos i=m
      ·have B:=(zc.1 c).1;have z:ord m=i:=by rw[<-e];exact(st.posp i B).2
       subst z;rw[hj]at c;cases c;rcases l with l|l
       ·rw[y l]at r;cases r
       ·exact wh ⟨l,e⟩ Z
      ·omega
    ·obtain⟨n,x,ob,f,v',k1,k2,k3,k4,k5⟩:=g.flt i o s c l r (by omega);exact⟨n,x,ob,f,v',k1,k2,k3,by rw[hh];exact k4,k5⟩
    ·exact g.inj i j o o' s K c I l J r L (by omega) (by omega) he
   rcases cn.step (ord m) _ hj with⟨u1,u2,M⟩|⟨u1,⟨u2,M,N⟩|⟨u2,ob,f,M,N,u5⟩|⟨u2,M⟩⟩
   ·rw[g2]at M;exact⟨p,same M (fun _=>u1)<|fun _=>u2⟩
   ·rw[g2]at N;exact⟨p,same N (fun h=>by rw[Ju u2]at h;cases h)<|fun h=>by rw[u1]at h;cases h⟩
   ·
    obtain⟨n,x,W,f',v',k1,k2,k3,k4,k5,k6,k7⟩:=g.flt (ord m) _ (q2 u2) hj u2 u1 (by omega);rw[M]at k1;cases k1;rw[g2]at N u5;have hx:=g.ext.gG k2 k5 k4 k3;rw[<-u5]at hx;have A:(p++[(fl<|ord m,n)])[(Hh m).nx]?=some (fl<|ord m,n):=by rw[<-g.ext.rel.len];simp
    have hv:Ac (p++[(fl<|ord m,n)]) (v<|ord m) v':=by rw[N];exact k6 _ _ A
    refine⟨p++[(fl<|ord m,n)],hx,?_,by omega,Y,U,g.sz,g.df,fun t E=>(g.slot t E).mono _,fun i o t s c E hc=>?_,fun i o s c l r G=>?_,fun i j o o' s K c I l J r L G X he=>?_⟩
    ·exact Gp.app g.gl _
    ·by_cases e:i=ord m
     ·subst e;rw[hj]at c;cases c;rw[k7 t E];exact hv
     ·refine(g.slotw i o t s c E fun l r=>?_).mono _;have R:=hc l r;have B:=(zc.1 c).1;have:pos i≠m:=fun z=>e (by rw[<-z];exact(st.posp i B).2.symm)
      omega
    ·obtain⟨n',x',W,f',v'',l1,l2,l3,l4,l5,l6,l7⟩:=g.flt i o s c l r (by omega);refine⟨n',x',W,f',v'',l1,l2,l3,?_,l5.mono _,l6,l7⟩;rintro⟨b,ob2,n2,m1,m2⟩;rw[u5,H.BP]at m1;by_cases e:b=(Hh m).nx
     ·subst e;rw[A]at m2;have:fl (ord m)=fl i:=(Prod.mk.inj<|Option.some.inj m2).1;have:=g.inj (ord m) i _ o (q2 u2) s hj c u2 l u1 r (by omega) (by omega) this;subst this;omega
     ·rw[wc e]at m1;have hb:=g.ext.rel.lt m1;rw[z7<|by rw[g.ext.rel.len];exact hb]at m2;exact l4 ⟨b,ob2,n2,m1,m2⟩
    ·exact g.inj i j o o' s K c I l J r L (by omega) (by omega) he
   ·rw[q1]at u2;cases u2
  obtain⟨p',c⟩:=one;obtain⟨p'',hi''⟩:=Inv.adv st cn d (m+1) c ⟨fun i k o ok t tk g1 g2 g3 g4 g5 g6 g7=>O.eq i k o ok t tk g1 g2 g3 g4 g5 g6<|by omega⟩ (by omega) (fun q R h2=>hq q (by omega)<|by omega);exact⟨p'',by rw[show m+(d+1)=m+1+d from by omega];exact hi''⟩
end
section
variable {C:Ctx}{P:Program}{call:DM}{ops:Array Oper}{anc:Nat->Nat->Bool}{ord pos:Nat->Nat}{sc:Nat->Option Nat}{fr0:Fr}{h0:H}{v:Nat->V}{Hh:Nat->H}{F:Nat->Fr}
 {p0:Pl} {w0:World} {df:List Deferred} {S:Nat->Prop} {m:Nat} {fl:Nat->Nat} {p:Pl} {a:Act} {w:World}
structure RQ(anc:Nat->Nat->Bool)(S:Nat->Prop)(i:Nat):Prop where
 fresh:¬S i
 all:∀k,anc i k=true->S k
def Down(anc:Nat->Nat->Bool)(S:Nat->Prop):Prop:=∀i k,S i->anc i k=true->S k
theorem operands(st:Stat ops anc ord pos sc)(u:Canon C call ops anc ord pos fr0 h0 v Hh F)(s:Inv C ops pos sc fr0 v Hh F p0 h0 w0 df S m fl p a w)(J:Down anc S){i:Nat}{o:Oper}(E:ops[i]?=some o)(hr:RQ anc S i)
  (A:∀(k:Nat) (ok:Oper) (t:Tmp),ops[k]?=some ok->(CB ok=true\/(sc k).isSome=true)->ok.dst=some t->t∈reads ops o->anc i k=true->pos k<m):FOn p (F<|pos i) a (reads ops o):=by
 have z:=(zc.1 E).1;have I:=(st.posp i z).1;refine⟨by rw[u.fn _ (by omega),s.sz],fun t D=>?_⟩;by_cases G:∃(k:Nat) (ok:Oper),k≠i/\ops[k]?=some ok/\ok.dst=some t
 ·obtain⟨k,ok,y,r,d⟩:=G;rcases(st.s6 k i ok o t r E y d).2 D with q|q
  ·have l:=hr.all k q;rw[Fw st u r d (pos i) (by omega)<|st.apos i k q];exact s.slotw k ok t l r d fun K _=>A k ok t r K d D q
  ·have l:¬S k:=fun h=>hr.fresh<|J k i h q
   have g:∀(j:Nat) (oj:Oper),ops[j]?=some oj->oj.dst=some t->j=k:=by
    intro j oj f c;by_cases e:j=k
    ·exact e
    ·exact wh c (st.s6 k j ok oj t r f (fun h=>e h.symm) d).1
   rw[Fz st u (pos i) (by omega) fun j oj f c B=>by
    have:=g j oj f c;subst this;have:=st.apos _ _ q;omega]
   refine s.slot t fun j oj x f c=>?_
   have:=g j oj f c;subst this;exact l x
 ·have g:∀(j:Nat) (oj:Oper),ops[j]?=some oj->oj.dst=some t->j=i:=by
   intro j oj f c;by_cases e:j=i
   ·exact e
   ·exact wh ⟨j,oj,e,f,c⟩ G
  rw[Fz st u (pos i) (by omega) fun j oj f c B=>by
   have:=g j oj f c;subst this;omega]
  refine s.slot t fun j oj x f c=>?_
  have:=g j oj f c;subst this;exact hr.fresh x
def Rest(ops:Array Oper)(pos:Nat->Nat)(S:Nat->Prop)(m:Nat):Prop:=m=0\/∃(k:Nat) (o:Oper),ops[k]?=some o/\CT o=true/\S k/\m=pos k+1
theorem O6(st:Stat ops anc ord pos sc)(u:Down anc S)(y:Inv C ops pos sc fr0 v Hh F p0 h0 w0 df S m fl p a w)(c:Rest ops pos S m){k:Nat}{o:Oper}(x:ops[k]?=some o)(hr:¬S k):
  m<=pos k\/∃(i:Nat) (oi:Oper),ops[i]?=some oi/\CT oi=true/\S i/\m=pos i+1/\pos k<pos i/\anc i k=false:=by
 by_cases l:m<=pos k
 ·exact .inl l
 ·right;rcases c with rfl|⟨i,oi,q,s,j,t⟩
  ·omega
  ·refine⟨i,oi,q,s,j,t,?_,?_⟩
   ·have d:k≠i:=fun e=>hr<|e▸j
    have g:=(zc.1 x).1;have f:=(zc.1 q).1;have:pos k≠pos i:=fun e=>d (by rw[<-(st.posp k g).2,e,(st.posp i f).2])
    omega
   ·cases r:anc i k with
    |false=>rfl
    |true=>exact wh (u i k j r) hr
theorem PH(st:Stat ops anc ord pos sc)(r:Inv C ops pos sc fr0 v Hh F p0 h0 w0 df S m fl p a w){i:Nat}{o:Oper}(q:ops[i]?=some o)(hr:RQ anc S i)(f:CB o=false){k:Nat}{ok:Oper}(l:ops[k]?=some ok)
  (g:CT ok=true) (s:m<=pos k) (t:pos k<pos i):False:=by
 have d:¬S k:=fun h=>by have:=(r.mh k ok l g).1 h;omega
 have j:k≠i:=fun e=>by subst e;omega
 rcases kinds o with h|h|h
 ·rcases st.s2 k i ok o l q g h with c|c
  ·exact d<|hr.all k c
  ·omega
 ·rw[f]at h;cases h
 ·rcases st.s1 k i ok o l q g h j with c|c
  ·have:=st.apos _ _ c;omega
  ·exact d<|hr.all k c
theorem W6(st:Stat ops anc ord pos sc)(y:Canon C call ops anc ord pos fr0 h0 v Hh F)(O:Down anc S)(x:Inv C ops pos sc fr0 v Hh F p0 h0 w0 df S m fl p a w)(f:Rest ops pos S m){i:Nat}{o:Oper}(j:ops[i]?=some o)
  (hr:RQ anc S i) (r:EB o=true) (t:Be (F<|pos i) ops o=true) (c:GL C (F<|pos i) (Hh<|pos i) o=some (.val (v i)<|Hh<|pos i)):GL C (F<|pos i) (Hh m) o=some (.val (v i)<|Hh m):=by
 have e:=Ju r;cases g:QX o with
 |false=>exact nY r g c _
 |true=>
  rcases O6 st O x f j hr.fresh with E|⟨k,ok,J,B,W,M,I,D⟩
  ·have s:=(zc.1 j).1;have A:=(st.posp i s).1;have key:∀d,m+d<=pos i->Hh (m+d)=Hh m:=by
    intro d;induction d with
    |zero=>intro _;rfl
    |succ d K=>
     intro z;have N:=K (by omega);obtain⟨T,l⟩:=st.ordp (m+d) (by omega);obtain⟨q,hq⟩:∃q,ops[ord<|m+d]?=some q:=⟨ops[ord<|m+d],by simp[T]⟩;rw[<-N,show m+(d+1)=m+d+1 from by omega];rcases y.step _ q hq with⟨_,_,u⟩|⟨_,⟨_,_,u⟩|⟨u1,_⟩|⟨u1,_⟩⟩
     ·rwa [l]at u
     ·rwa [l]at u
     ·obtain⟨k,ok,L,U,R,G⟩:=st.s5 i _ o q j hq r g u1 (by rw[l];omega);rw[l]at R;exact(PH st x j hr e L U (by omega) G).elim
     ·exact(PH st x j hr e hq u1 (by rw[l];omega)<|by rw[l];omega).elim
   have:=key (pos i-m) (by omega);rw[show m+(pos i-m)=pos i from by omega]at this;rw[this]at c;exact c
  ·rw[M];exact y.stable k i ok o J j B r g t I D
theorem D6{a:Act}{d:Option Tmp}{x:Value}{t:Tmp}(h:d≠some t):(a.put d x).tmps.getD t undef=a.tmps.getD t undef:=by
 cases d with
 |none=>rfl
 |some s=>
  have:s≠t:=fun e=>h (by rw[e])
  simp only[Act.put,zk];rw[Array.getElem?_setIfInBounds_ne this]
theorem FQ{a:Act}{x:Value}{t:Tmp}(h:t<a.tmps.size):(a.put (some t) x).tmps.getD t undef=x:=by
 simp[Act.put,h]
theorem P7{a:Act}{d:Option Tmp}{x:Value}:(a.put d x).tmps.size=a.tmps.size:=by cases d<;>simp[Act.put]
theorem QF{a:Act}{d:Option Tmp}{x:Value}:(a.put d x).defers=a.defers:=by cases d<;>rfl
theorem Mz.put(st:Stat ops anc ord pos sc){S:Nat->Prop}{m r:Nat}{a:Act}(I:Mz ops pos sc S m a){i:Nat}{o:Oper}(g:ops[i]?=some o)(c:¬S i)(hr:RQ anc S i){x:Value}(X:m<=r)
  (E:∀(k:Nat) (ok:Oper) (t tk:Tmp),sc i=some k->ops[k]?=some ok->o.dst=some t->ok.dst=some tk->r<=pos i->(a.put o.dst x).tmps.getD t undef=a.tmps.getD tk undef):
  Mz ops pos sc (fun k=>S k\/k=i) r (a.put o.dst x):=by
 refine⟨fun j k oj ok t tk N l u f y d O=>?_⟩;obtain⟨o1,T,t2,q1,B,U,W,R,z,J⟩:=st.q1 j k u;rw[f]at B;cases B;rw[d]at z;cases z;by_cases e:j=i
 ·subst e;rw[g]at l;cases l;have D:S k:=hr.all k J;refine⟨?_,.inl D⟩;rw[E k ok t tk u f y d O];have q:k≠j:=fun e=>c<|e▸D
  have:o.dst≠some tk:=(st.s6 k j ok o tk f g q d).1;rw[D6 this]
 ·have K:=N.resolve_right e;obtain⟨G,A⟩:=I.eq j k oj ok t tk K l u f y d (by omega);have s:k≠i:=fun h=>c<|h▸A
  have L:o.dst≠some t:=(st.s6 j i oj o t l g e y).1;have M:o.dst≠some tk:=(st.s6 k i ok o tk f g s d).1;rw[D6 L,D6 M];exact⟨G,.inl A⟩
theorem Inv.quiet(st:Stat ops anc ord pos sc)(Y:Canon C call ops anc ord pos fr0 h0 v Hh F)(d:Inv C ops pos sc fr0 v Hh F p0 h0 w0 df S m fl p a w){i:Nat}{o:Oper}(q:ops[i]?=some o)(I:¬S i)(D:CT o=false)
  (z:CB o=true->Be (F<|pos i) ops o=false) {x:Value} (hx:((sc i).isSome=true->Be (F<|pos i) ops o=true->pos i<m)->Ac p (v i) x):Inv C ops pos sc fr0 v Hh F p0 h0 w0 df (fun k=>S k\/k=i) m fl p (a.put o.dst x) w:=by
 have l:∀(k:Nat) (ok:Oper) (t:Tmp),k≠i->ops[k]?=some ok->ok.dst=some t->o.dst≠some t:=fun k ok t J c g=>(st.s6 k i ok o t c q J g).1
 refine⟨d.ext,d.gl,d.mn,fun k ok c R=>?_,fun k ok c L O=>.inl<|d.ma k ok c L O,by rw[P7,d.sz],by rw[QF,d.df],fun t g=>?_,fun k ok t r c g T=>?_,fun k ok r c E A s=>?_,
  fun k j ok oj r N c K E B A u s G X=>?_⟩
 ·rw[<-d.mh k ok c R];refine⟨fun h=>h.elim id fun e=>?_,.inl⟩;subst e;rw[q]at c;cases c;rw[D]at R;cases R
 ·have M:o.dst≠some t:=g i o (.inr rfl) q;rw[D6 M];exact d.slot t fun k ok r c=>g k ok (.inl r) c
 ·by_cases e:k=i
  ·subst e;rw[q]at c;cases c;rw[g,FQ<|by rw[d.sz];exact Y.dst k o t q g];exact hx fun M U=>T (.inr M) U
  ·rw[D6<|l k ok t e c g];exact d.slotw k ok t (r.resolve_right e) c g T
 ·have e:k≠i:=by
   rintro rfl;rw[q]at c;cases c;rw[z E]at A;cases A
  obtain⟨n,y,ob,f,v',k1,k2,k3,W,k5,k6,Z⟩:=d.flt k ok (r.resolve_right e) c E A s;exact⟨n,y,ob,f,v',k1,k2,k3,W,k5,k6,fun t g=>by rw[D6<|l k ok t e c g];exact Z t g⟩
 ·have e:k≠i:=by
   rintro rfl;rw[q]at c;cases c;rw[z E]at A;cases A
  have e':j≠i:=by
   rintro rfl;rw[q]at K;cases K;rw[z B]at u;cases u
  exact d.inj k j ok oj (r.resolve_right e) (N.resolve_right e') c K E B A u s G X
theorem Inv.made(st:Stat ops anc ord pos sc)(d:Inv C ops pos sc fr0 v Hh F p0 h0 w0 df S m fl p a w){i:Nat}{o:Oper}(B:ops[i]?=some o)(r:CB o=true)(W:Be (F<|pos i) ops o=true)(l:m<=pos i)
  (cn:Canon C call ops anc ord pos fr0 h0 v Hh F) {ob:O} {f:Nat->V} (G:fE C (F<|pos i) o=some (ob,f)) {x:Obj} {n:Nat} {v':Value} (hx:Hw p n ob x) (K:∀(q:Pl) b,q[b]?=some (w.heap.size,n)->Ac q (f b) v'):
  Inv C ops pos sc fr0 v Hh F p0 h0 w0 df (fun k=>S k\/k=i) m (fun k=>if k=i then w.heap.size else fl k) p (a.put o.dst v') { w with heap:=w.heap.push x }:=by
 have u:∀(k:Nat) (ok:Oper) (t:Tmp),k≠i->ops[k]?=some ok->ok.dst=some t->o.dst≠some t:=fun k ok t U c g=>(st.s6 k i ok o t c B U g).1
 have L:CT o=false:=by simp[CT,r]
 refine⟨d.ext.aside x,d.gl,d.mn,fun k ok c K=>?_,fun k ok c r s=>.inl<|d.ma k ok c r s,by rw[P7,d.sz],by rw[QF,d.df],fun t g=>?_,fun k ok t z c g hc=>?_,fun k ok z c R T l=>?_,
  fun k j ok oj z J c hj R I T M l A N=>?_⟩
 ·rw[<-d.mh k ok c K];refine⟨fun h=>h.elim id fun e=>?_,.inl⟩;subst e;rw[B]at c;cases c;rw[L]at K;cases K
 ·have h1:o.dst≠some t:=g i o (.inr rfl) B;rw[D6 h1];exact d.slot t fun k ok z c=>g k ok (.inl z) c
 ·by_cases e:k=i
  ·subst e;rw[B]at c;cases c;have:=hc (.inl r) W;omega
  ·rw[D6<|u k ok t e c g];exact d.slotw k ok t (z.resolve_right e) c g hc
 ·by_cases e:k=i
  ·subst e;rw[B]at c;cases c;refine⟨n,x,ob,f,v',G,by simp,by simpa using d.ext.size,fun X=>?_,hx,by simpa using K,fun t g=>?_⟩
   ·have:=d.ext.rel.Zs X;simp at this
   ·rw[g,FQ<|by rw[d.sz];exact cn.dst k o t B g]
  ·obtain⟨n',y,Z,f',Y,k1,D,k3,k4,k5,k6,k7⟩:=d.flt k ok (z.resolve_right e) c R T l;have s:=(zc.1 D).1;refine⟨n',y,Z,f',Y,k1,?_,by simpa [e]using k3,by simpa [e]using k4,k5,by simpa [e]using k6,fun t g=>by rw[D6<|u k ok t e c g];exact k7 t g⟩;simp only[e,vg,yb];rw[wc<|by omega];exact D
 ·by_cases e:k=i<;>by_cases E:j=i
  ·rw[e,E]
  ·obtain⟨_,_,_,_,_,_,D,_⟩:=d.flt j oj (J.resolve_right E) hj I M A;have s:=(zc.1 D).1;simp only[e,wk,E,vg]at N;omega
  ·obtain⟨_,_,_,_,_,_,D,_⟩:=d.flt k ok (z.resolve_right e) c R T l;have s:=(zc.1 D).1;simp only[e,vg,E,wk]at N;omega
  ·simp only[e,vg,E]at N;exact d.inj k j ok oj (z.resolve_right e) (J.resolve_right E) c hj R I T M l A N
theorem Inv.wrote(st:Stat ops anc ord pos sc)(cn:Canon C call ops anc ord pos fr0 h0 v Hh F){i:Nat}{o:Oper}(d:Inv C ops pos sc fr0 v Hh F p0 h0 w0 df S (pos i) fl p a w)(B:ops[i]?=some o)(R:CT o=true)(D:¬S i)
  {p':Pl} {w':World} {x:Value} (s:Ext p (Hh<|pos i) w p' (Hh<|pos i+1) w') (hx:Ac p' (v i) x):
  Inv C ops pos sc fr0 v Hh F p0 h0 w0 df (fun k=>S k\/k=i) (pos i+1) fl p' (a.put o.dst x) w':=by
 have l:∀(k:Nat) (ok:Oper) (t:Tmp),k≠i->ops[k]?=some ok->ok.dst=some t->o.dst≠some t:=fun k ok t E c g=>(st.s6 k i ok o t c B E g).1
 obtain⟨hnr,Z⟩:=OG R;have z:=(zc.1 B).1;have u:∀ {k:Nat} {ok:Oper},ops[k]?=some ok->pos k=pos i->k=i:=fun {k ok} c e=>by
  have L:=(zc.1 c).1;rw[<-(st.posp k L).2,e,(st.posp i z).2]
 refine⟨d.ext.trans s,d.gl.ext s,(st.posp i z).1,fun k ok c Y=>?_,fun k ok c K A=>?_,by rw[P7,d.sz],by rw[QF,d.df],fun t g=>?_,fun k ok t r c g hc=>?_,fun k ok r c U W G=>?_,
  fun k j ok oj r O c hj U J W T G hle' I=>?_⟩
 ·constructor
  ·rintro(h|rfl)
   ·have:=(d.mh k ok c Y).1 h;omega
   ·omega
  ·intro h;by_cases e:pos k=pos i
   ·exact .inr<|u c e
   ·exact .inl ((d.mh k ok c Y).2 (by omega))
 ·by_cases e:pos k=pos i
  ·exact .inr<|u c e
  ·exact .inl (d.ma k ok c K<|by omega)
 ·have M:o.dst≠some t:=g i o (.inr rfl) B;rw[D6 M];exact s.oD<|d.slot t fun k ok r c=>g k ok (.inl r) c
 ·by_cases e:k=i
  ·subst e;rw[B]at c;cases c;rw[g,FQ<|by rw[d.sz];exact cn.dst k o t B g];exact hx
  ·rw[D6<|l k ok t e c g];refine s.oD<|d.slotw k ok t (r.resolve_right e) c g fun M h2=>?_;have:=hc M h2;have h3:pos k≠pos i:=fun e2=>e<|u c e2
   omega
 ·have e:k≠i:=by
   rintro rfl;omega
  obtain⟨n,y,ob,f,v',k1,k2,k3,X,k5,k6,k7⟩:=d.flt k ok (r.resolve_right e) c U W (by omega);have A:=(zc.1 k2).1;obtain⟨q,rfl⟩:=s.pre;refine⟨n,y,ob,f,v',k1,by rw[s.same _ A X];exact k2,k3,fun N=>?_,k5.mono _,k6,fun t g=>by rw[D6<|l k ok t e c g];exact k7 t g⟩;rcases s.im _ N with h|h
  ·exact X h
  ·omega
 ·have e:k≠i:=by rintro rfl;omega
  have e':j≠i:=by rintro rfl;omega
  exact d.inj k j ok oj (r.resolve_right e) (O.resolve_right e') c hj U J W T (by omega) (by omega) I
theorem Inv.along(c:Inv C ops pos sc fr0 v Hh F p0 h0 w0 df S m fl p a w){p':Pl}{w':World}(d:Ext p (Hh m) w p' (Hh m) w'):Inv C ops pos sc fr0 v Hh F p0 h0 w0 df S m fl p' a w':=by
 refine⟨c.ext.trans d,c.gl.ext d,c.mn,c.mh,c.ma,c.sz,c.df,fun t x=>d.oD<|c.slot t x,fun i o t E A M B=>d.oD<|c.slotw i o t E A M B,fun k ok z K G J e=>?_,c.inj⟩;obtain⟨n,y,ob,f,v',u,r,I,l,D,L,s⟩:=c.flt k ok z K G J e;have j:=(zc.1 r).1;obtain⟨q,rfl⟩:=d.pre;refine⟨n,y,ob,f,v',u,by rw[d.same _ j l];exact r,I,fun g=>?_,D.mono _,L,s⟩;rcases d.im _ g with h|h
 ·exact l h
 ·omega
theorem pG{o:Oper}(h:CB o=true):∀c,o.op≠ .defer c:=by
 intro c e;unfold CB at h;rw[e]at h;cases h
theorem up(hC:C.Ok P)(hcall:call.Ok C P)(st:Stat ops anc ord pos sc)(G:Canon C call ops anc ord pos fr0 h0 v Hh F)(E:Inv C ops pos sc fr0 v Hh F p0 h0 w0 df S m fl p a w)(R:Mz ops pos sc S m a)(hd:Down anc S)(D:Rest ops pos S m)
  {i:Nat} {o:Oper} (g:ops[i]?=some o) (hr:RQ anc S i) {Q:Exit->Act->World->Prop} {K:Act->World->Prop}
  (Z:∀m' fl' p' a' w',Inv C ops pos sc fr0 v Hh F p0 h0 w0 df (fun k=>S k\/k=i) m' fl' p' a' w'->Mz ops pos sc (fun k=>S k\/k=i) m' a'->Rest ops pos (fun k=>S k\/k=i) m'->K a' w') {ro:Option Nat} {nn:Nat}:wpOpIn (FW ro) nn P ops Q i K a w:=by
 have hin:=(zc.1 g).1;have I:∀cs b,o.op≠ .select cs b:=fun cs b=>Region.noSelect_spec st.sel i o cs b g
 have r:Rest ops pos (fun k=>S k\/k=i) m:=by
  rcases D with h|⟨k,ok,T,h2,W,h4⟩
  ·exact .inl h
  ·exact .inr ⟨k,ok,T,h2,.inl W,h4⟩
 unfold wpOpIn;simp only[g];cases l:CT o with
 |false=>
  by_cases hcp:(sc i).isSome=true/\m<=pos i
  ·
   obtain⟨k,hk⟩:=ym.1 hcp.1;obtain⟨o2,ok,t,q1,q2,M,q4,q5,q6,q7⟩:=st.q1 i k hk;rw[g]at q1;cases q1;have hw:Region.wanted o (yielded ops a.tmps)=true:=by unfold Region.wanted;rw[q4]
   simp only[hw,wk];refine⟨fun _ _=>trivial,?_⟩;have hrun:(execOp a.eval o).run P w=.ok (.value<|a.tmps.getD t undef) w:=by
    unfold execOp;rcases M with M|M<;>simp[M,Act.eval]
   rw[yc _ _ _ (fun c hc=>by rcases M with M|M<;>rw[M]at hc<;>cases hc),hrun,yd];have L:CB o=false:=by unfold CB;rcases M with M|M<;>rw[M]
   refine Z m fl p _ w (E.quiet st G g hr.fresh l (fun h=>by rw[L]at h;cases h) (fun h=>by have:=h hcp.1 (by unfold Be;rw[q4]);omega)) (R.put st g hr.fresh hr (zo _) fun k' ok' t' tk T h2 W h4 _=>?_) r;rw[hk]at T;cases T;rw[q2]at h2;cases h2;rw[q6]at h4;cases h4;rw[W,FQ<|by rw[E.sz];exact G.dst i o t' g W]
  have X:∀k,sc i=some k->pos i<m:=fun k hk=>by
   rcases yq (pos i) m with h|h
   ·exact h
   ·exact wh ⟨by rw[hk];rfl,h⟩ hcp
  have hfl:∀(k:Nat) (ok:Oper) (t:Tmp),ops[k]?=some ok->(CB ok=true\/(sc k).isSome=true)->ok.dst=some t->t∈reads ops o->anc i k=true->pos k<m:=by
   intro k ok t hk U hkt ht J;rcases st.s3 k i ok o t hk g U l hkt ht J with h|⟨j,oj,j1,j2,j3,j4⟩
   ·have:=X k h;have:=st.apos _ _ J;omega
   ·have:=(E.mh j oj j1 j2).1<|hr.all j j4;have:=st.apos _ _ j3;omega
  have A:∀x,Mz ops pos sc (fun k=>S k\/k=i) m (a.put o.dst x):=fun x=>R.put st g hr.fresh hr (zo _) fun k ok t tk T _ _ _ h5=>by have:=X k T;omega
  have z:=operands st G E hd g hr hfl;rw[RG z];rcases G.step i o g with⟨u1,u2,y⟩|⟨u1,u⟩
  ·simp only[u1,zu,vg];refine⟨fun _ _=>trivial,?_⟩;exact Z m fl p _ w (E.quiet st G g hr.fresh l (fun _=>u1)<|fun _=>by rw[u2];simp[Ac,undef]) (A _) r
  ·simp only[u1,wk];refine⟨fun _ _=>trivial,?_⟩;rcases u with⟨u2,y,u4⟩|⟨u2,ob,f,y,u4,u5⟩|⟨u2,y⟩
   ·have Y:=W6 st G hd E D g hr u2 u1 y;obtain⟨v',p',w',O,N,g3⟩:=JZ hC E.ext.rel E.gl z I Y;rw[yc _ _ _<|HC Y,O,yd];have hi2:=E.along g3;exact Z m fl p' _ w' (hi2.quiet st G g hr.fresh l (fun h=>by rw[Ju u2]at h;cases h) fun _=>N) (A _) r
   ·have hle:m<=pos i:=by
     rcases O6 st hd E D g hr.fresh with h|⟨k,ok,T,h2,W,h4,h5,h6⟩
     ·exact h
     ·rcases st.s4 k i ok o T g h2 u2 with h7|h7
      ·rw[h6]at h7;cases h7
      ·omega
    obtain⟨x,n,v',O,N,g3⟩:=AbJ (P:=P) hC E.gl z y;rw[yc _ _ _<|pG u2,O,yd];exact Z m _ p _ _ (E.made st g u2 u1 hle G y N g3) (A _) r
   ·rw[l]at u2;cases u2
 |true=>
  obtain⟨hnr,L⟩:=OG l;have hle:m<=pos i:=by
   rcases yq (pos i) m with h|h
   ·exact wh ((E.mh i o g l).2 h) hr.fresh
   ·exact h
  have hpn:=(st.posp i hin).1;obtain⟨p1,d⟩:=Inv.adv st G (pos i-m) m E R (by omega) (fun q T h2 oq hq=>by
   obtain⟨O,N⟩:=st.ordp q (by omega);refine⟨?_,fun U=>?_⟩
   ·cases hv:CT oq with
    |false=>rfl
    |true=>exact(PH st E g hr L hq hv (by rw[N];omega)<|by rw[N];omega).elim
   ·rcases st.s4 i (ord q) o oq g hq l U with W|W
    ·exact hr.all _ W
    ·rw[N]at W;omega)
  rw[show m+(pos i-m)=pos i from by omega]at d;have z:=operands st G d hd g hr fun k ok t hk U _ _ J=>st.apos _ _ J
  have A:∀x,Mz ops pos sc (fun k=>S k\/k=i) (pos i+1) (a.put o.dst x):=fun x=>R.put st g hr.fresh hr (by omega) fun k ok t tk _ _ _ _ h5=>by omega
  rw[RG z];have s:Rest ops pos (fun k=>S k\/k=i) (pos i+1):=.inr ⟨i,o,g,l,.inr rfl,rfl⟩;rcases G.step i o g with⟨u1,u2,y⟩|⟨u1,u⟩
  ·simp only[u1,zu,vg];refine⟨fun _ _=>trivial,?_⟩;have he:Ext p1 (Hh<|pos i) w p1 (Hh<|pos i+1) w:=by rw[y];exact yh d.ext.rel
   exact Z _ _ _ _ _ (d.wrote st G g l hr.fresh he<|by rw[u2];simp[Ac,undef]) (A _) s
  ·simp only[u1,wk];refine⟨fun _ _=>trivial,?_⟩;rcases u with⟨u2,y,u4⟩|⟨u2,ob,f,y,u4,u5⟩|⟨u2,y⟩
   ·rw[hnr]at u2;cases u2
   ·rw[L]at u2;cases u2
   ·unfold D0 at y;split at y
    case h_4=>cases y
    case h_1=>
     rename_i vv hh B;simp only[ze,zl]at y;obtain⟨rfl,rfl⟩:=y;obtain⟨v',p',w',O,N,g3⟩:=JZ hC d.ext.rel d.gl z I B;rw[yc _ _ _<|HC B,O,yd];exact Z _ _ _ _ _ (d.wrote st G g l hr.fresh g3 N) (A _) s
    case h_2=>
     rename_i hh B;simp only[ze,zl]at y;obtain⟨u4,rfl⟩:=y;obtain⟨p',w',O,g3⟩:=JZ hC d.ext.rel d.gl z I B;rw[yc _ _ _<|HC B,O,Oper.uponIn_skip];exact Z _ _ _ _ _ (d.wrote st G g l hr.fresh g3<|by rw[<-u4];simp[Ac,undef]) (A _) s
    case h_3=>
     rename_i f args B;obtain⟨args',O,N⟩:=JZ hC d.ext.rel d.gl z I B;rw[yc _ _ _<|HC B,O,Oper.uponIn_enter];split at y
     case h_2=>cases y
     rename_i x1 x2 hcl;cases y;refine⟨fun h=>(by simp[FW,yi]at h),XM.2<|(hcall.fn f args _ _ hcl p1 w args' d.ext.rel d.gl N).mono ?_⟩;rintro e w' ⟨v',h',x',p',hm,rfl,k1,k2⟩;rw[zf]at hm;cases hm;exact Z _ _ _ _ _ (d.wrote st G g l hr.fresh k2 k1) (A _) s
theorem Inv.congr{c:Nat->Prop}(h:∀k,S k↔c k)(d:Inv C ops pos sc fr0 v Hh F p0 h0 w0 df S m fl p a w):Inv C ops pos sc fr0 v Hh F p0 h0 w0 df c m fl p a w:=by
 have e:S=c:=funext fun k=>propext<|h k
 exact e▸d
theorem Mz.congr{c:Nat->Prop}(h:∀k,S k↔c k)(d:Mz ops pos sc S m a):Mz ops pos sc c m a:=by
 have e:S=c:=funext fun k=>propext<|h k
 exact e▸d
theorem Rest.congr{c:Nat->Prop}(h:∀k,S k↔c k)(d:Rest ops pos S m):Rest ops pos c m:=by
 have e:S=c:=funext fun k=>propext<|h k
 exact e▸d
def Ls(l:Array Bool)(k:Nat):Prop:=l.getD k false=true
theorem Vy{l:Array Bool}(n:Nat)(j:l.size=n){i:Nat}(g:i<n)(q:l.getD i true=false):
  ((zq n).filter fun k=> !(l.setIfInBounds i true).getD k true).length<((zq n).filter fun k=> !l.getD k true).length:=by
 have sub:∀k,(!(l.setIfInBounds i true).getD k true)=true->(!l.getD k true)=true:=by
  intro k o;by_cases e:i=k
  ·subst e;simp[j,g]at o
  ·rwa [getD_set_ne true e]at o
 have key:∀(L:List Nat),(L.filter fun k=> !(l.setIfInBounds i true).getD k true).length<=(L.filter fun k=> !l.getD k true).length/\(i∈L->(L.filter fun k=> !(l.setIfInBounds i true).getD k true).length<(L.filter fun k=> !l.getD k true).length):=by
  intro L;induction L with
  |nil=>simp
  |cons x L f=>
   simp only[List.filter_cons];constructor
   ·by_cases c:(!(l.setIfInBounds i true).getD x true)=true
    ·rw[wd c,wd<|sub x c];simp only[zt];have:=f.1;omega
    ·rw[wc c];have:=f.1;split<;>(try simp only[zt])<;>omega
   ·intro r;by_cases e:i=x
    ·subst e;rw[wc (by simp[j,g]),wd<|by simp[q]];simp only[zt];have:=f.1;omega
    ·have d:i∈L:=by simpa [e]using r
     by_cases c:(!(l.setIfInBounds i true).getD x true)=true
     ·rw[wd c,wd<|sub x c];simp only[zt];have:=f.2 d;omega
     ·rw[wc c];have:=f.2 d;split<;>(try simp only[zt])<;>omega
 exact(key<|zq n).2 (by simpa using g)
theorem mW(hC:C.Ok P)(K:call.Ok C P)(st:Stat ops anc ord pos sc)(O:Canon C call ops anc ord pos fr0 h0 v Hh F){Q:Exit->Act->World->Prop}
  (hQ:∀p' W w',CO p' (F ops.size) W->Ext p0 h0 w0 p' (Hh ops.size) w'->W.defers=df->Q .normal W w') {ro:Option Nat} {nn:Nat}:
  ∀(f:Nat) (l:Array Bool),l.size=ops.size->((zq ops.size).filter fun k=> !l.getD k true).length<=f->∀ {m:Nat} {fl:Nat->Nat} {p:Pl} {a:Act} {w:World},
   Inv C ops pos sc fr0 v Hh F p0 h0 w0 df (Ls l) m fl p a w->Mz ops pos sc (Ls l) m a->Down anc (Ls l)->Rest ops pos (Ls l) m->wpAnyIn (FW ro) nn P .any ops Q f l a w:=by
 have fin:∀(l:Array Bool),l.size=ops.size->yg .any ops l=[]->∀ {m:Nat} {fl:Nat->Nat} {p:Pl} {a:Act} {w:World},
   Inv C ops pos sc fr0 v Hh F p0 h0 w0 df (Ls l) m fl p a w->Mz ops pos sc (Ls l) m a->Q .normal a w:=by
  intro l L s m fl p a w A r;have all:∀q,q<=ops.size->∀k,k<ops.size->pos k<q->Ls l k:=by
   intro q;induction q with
   |zero=>intro _ k _ h;omega
   |succ q Z=>
    intro hq k c hlt;by_cases e:pos k=q
    ·apply z8;intro I;have G:k∈yg .any ops l:=by
      rw[mem_ready];refine⟨?_,ops[k],by simp[c],fun e' he' hb=>?_⟩
      ·unfold Ls at I;have:k<l.size:=by omega
       simp only[zk,yk this,yo]at I ⊢;simpa using I
      ·obtain⟨B,E⟩:=st.dir k _ e' (by simp[c]) he' hb;have h3:=st.apos _ _ B;exact Z (by omega) e'.on E (by omega)
     rw[s]at G;cases G
    ·exact Z (by omega) k c (by omega)
  have z:∀k,k<ops.size->Ls l k:=fun k c=>all ops.size (zo _) k c (st.posp k c).1
  obtain⟨p',d⟩:=Inv.adv st O (ops.size-m) m A r (by have:=A.mn;omega) (fun q B E o ho=>by
   obtain⟨U,g2⟩:=st.ordp q (by have:=A.mn;omega);refine⟨?_,fun _=>z _ U⟩;cases hv:CT o with
   |false=>rfl
   |true=>have:=(A.mh _ o ho hv).1<|z _ U;omega)
  rw[show m+(ops.size-m)=ops.size from by have:=A.mn;omega]at d;refine hQ p' a w ⟨by rw[O.fn _<|zo _,d.sz],fun t=>?_⟩ d.ext d.df;by_cases hw:∃(k:Nat) (ok:Oper),ops[k]?=some ok/\ok.dst=some t
  ·obtain⟨k,ok,c,u⟩:=hw;have J:=(zc.1 c).1;rw[Fw st O c u _ (zo _) (st.posp k J).1];exact d.slotw k ok t (z k J) c u fun _ _=>(st.posp k J).1
  ·rw[Fz st O _ (zo _) fun k ok c u _=>hw ⟨k,ok,c,u⟩];exact d.slot t fun k ok _ c u=>hw ⟨k,ok,c,u⟩
 intro f;induction f with
 |zero=>
  intro l L N m fl p a w A r hd y;have s:yg .any ops l=[]:=by
   cases hc:yg .any ops l with
   |nil=>rfl
   |cons k ks=>
    have hm:k∈yg .any ops l:=by rw[hc];simp
    obtain⟨B,o,E,_⟩:=mem_ready.1 hm;have c:=(zc.1 E).1;have:k∈(zq ops.size).filter fun k=> !l.getD k true:=List.mem_filter.2 ⟨by simpa using c,by simp[B]⟩
    have:=List.length_pos_of_mem this;omega
  exact⟨s,fin l L s A r⟩
 |succ f Z=>
  intro l L N m fl p a w A r hd y;refine⟨fun s=>fin l L s A r,fun i hm=>?_⟩;obtain⟨B,o,E,h3⟩:=mem_ready.1 hm;have hin:=(zc.1 E).1;have R:i<l.size:=by omega
  have g:RQ anc (Ls l) i:=by
   refine⟨fun hs=>?_,fun k c=>?_⟩
   ·unfold Ls at hs;simp only[zk,yk R,yo]at hs B;rw[hs]at B;cases B
   ·obtain⟨o',e,U,g2,g3,g4⟩:=st.edge i k c;rw[E]at U;cases U;have M:=h3 e g2 g3;rcases g4 with g4|g4
    ·rw[<-g4];exact M
    ·exact hd e.on k M g4
  refine up hC K st O A r hd y E g fun m' fl' p' W w' d T D=>?_
  have X:∀k,(Ls l k\/k=i)↔Ls (l.setIfInBounds i true) k:=by
   intro k;unfold Ls;by_cases e:k=i
   ·subst e;simp[R]
   ·rw[getD_set_ne false<|fun x=>e x.symm];simp[e]
  refine Z (l.setIfInBounds i true) (by simpa using L) ?_ (d.congr X) (T.congr X) ?_<|D.congr X
  ·have:=Vy ops.size L hin B;omega
  ·intro j k Y c;rw[<-X]at Y ⊢;rcases Y with Y|rfl
   ·exact .inl<|hd j k Y c
   ·exact .inl<|g.all k c
theorem fS(u:C.Ok P)(d:call.Ok C P)(y:P.follows .mixedOrders=true)(st:Stat ops anc ord pos sc)(l:Canon C call ops anc ord pos fr0 h0 v Hh F){Q:Exit->Act->World->Prop}(hr:R p h0 w)(s:Gl C p)(g:CO p fr0 a)
  {id:Nat} (r:∀p' f w',CO p' (F ops.size) f->Ext p h0 w p' (Hh ops.size) w'->f.defers=a.defers->Q .normal f w') {ro:Option Nat} {q:Nat}:(yu id ops true).wpIn (FW ro) q P Q a w:=by
 refine wpIn_region_any y ?_;have x:=Ext.drew hr<|w.drawn+1;have c:∀k,¬Ls (yr ops.size false) k:=by
  intro k e;unfold Ls at e;rw[zk]at e;by_cases h:k<ops.size
  ·simp[h]at e
  ·rw[Array.getElem?_eq_none<|by simpa using h]at e;simp at e
 refine mW (p0:=p) (h0:=h0) (w0:=w) (df:=a.defers) u d st l r ops.size _ (by simp) (by simpa using List.length_filter_le _ (zq ops.size)) (m:=0) (fl:=fun _=>0) (p:=p)
  ⟨by rw[l.h0];exact x,s,Nat.zero_le _,fun k o _ _=>⟨fun h=>wh h<|c k,fun h=>by omega⟩,fun k o _ _ h=>by omega,g.1.symm,rfl,fun t _=>g.2 t,fun i o t h=>wh h<|c i,fun i o h=>wh h<|c i,fun i j o o' h=>wh h<|c i⟩
  ⟨fun i k o ok t tk h=>wh h<|c i⟩ (fun i k h=>wh h<|c i) (.inl rfl)
end
structure NQ where
 anc:List Nat
 ord:List Nat
 pos:List Nat
 sc:List (Option Nat)
def Ada(acc:List Nat)(o:Oper):Nat:=
 o.after.toList.foldl (fun s e=>bif yf .any e then s|||(2^e.on|||acc.getD e.on 0)else s) 0
def yJ:List Oper->List Nat->List Nat
 |[],c=>c
 |o::os,c=>yJ os<|c++[Ada c o]
def tb(m i:Nat):Bool:=m.testBit i
def sub(a d:Nat):Bool:=zi (a&&&d) a
def Jz(f:Nat->Oper->Bool):Nat->List Oper->Option Nat
 |_,[]=>none
 |i,o::os=>bif f i o then some i else Jz f (i+1) os
def mM(f:Nat->Oper->Bool):Nat->List Oper->List Nat
 |_,[]=>[]
 |i,o::os=>bif f i o then i::mM f (i+1) os else mM f (i+1) os
def Wh(ops:List Oper)(anc:List Nat):Nat->Nat->List Nat->List Nat
 |0,_,out=>out.reverse
 |fuel+1,d,out=>
  match Jz (fun i o=>EB o&& !tb d i&&sub (anc.getD i 0) d) 0 ops with
  |some i=>Wh ops anc fuel (d|||2^i) (i::out)
  |none=>
   match Jz (fun i o=>CT o&& !tb d i) 0 ops with
   |some k=>
    let c:=mM (fun i o=>CB o&& !tb d i&&tb (anc.getD k 0) i) 0 ops
    bif c.isEmpty then Wh ops anc fuel (d|||2^k) (k::out)
    else Wh ops anc fuel (c.foldl (fun s i=>s|||2^i) d)<|c.reverse++out
   |none=>
    match Jz (fun i o=>CB o&& !tb d i) 0 ops with
    |some i=>Wh ops anc fuel (d|||2^i) (i::out)
    |none=>out.reverse
def idx(l:List Nat)(i:Nat):Nat:=l.getD i 0
def Ady(ord:List Nat)(n:Nat):List Nat:=(zq n).map fun i=>ord.idxOf i
def TY(o:Oper):Option Tmp:=
 match o.guard,o.op with
 |none,.assign (.tmp t)=>some t
 |none,.move (.tmp t)=>some t
 |_,_=>none
def Afe(ops:List Oper)(anc:List Nat)(i:Nat)(o:Oper):Option Nat:=
 match TY o with
 |some t=>
  match Jz (fun k x=>CB x&&(x.dst==some t)&&tb (anc.getD i 0) k) 0 ops with
  |some k=>match Jz (fun h x=>CT x&&tb (anc.getD h 0) k&&tb (anc.getD i 0) h) 0 ops with
   |none=>some k
   |some _=>none
  |none=>none
 |none=>none
def E9(ops:Array Oper):NQ:=
 let anc:=yJ ops.toList []
 let ord:=Wh ops.toList anc (3*ops.size+3) 0 []
 ⟨anc,ord,Ady ord ops.size,ops.toList.zipIdx.map fun(o,i)=>Afe ops.toList anc i o⟩
def NQ.s(pl:NQ)(i:Nat):Option Nat:=pl.sc.getD i none
def NQ.a(pl:NQ)(j i:Nat):Bool:=(idx pl.anc j).testBit i
def Zv(ops:Array Oper)(f:Nat->Oper->Nat->Oper->Bool):Bool:=
 ops.toList.zipIdx.all fun(o,i)=>ops.toList.zipIdx.all fun(o',j)=>f i o j o'
def Is(ops:Array Oper)(pl:NQ):Bool:=
 let n:=ops.size
 let A:=pl.a
 let pos:=idx pl.pos
 let ord:=idx pl.ord
 Region.noSelect ops&&
 ((zq n).all fun q=>zz (ord q) n&&zi (pos<|ord q) q)&&
 ((zq n).all fun i=>zz (pos i) n&&zi (ord<|pos i) i)&&
 (pl.anc.length==n)&&(pl.ord.length==n)&&
 (pl.sc.zipIdx.all fun(s,i)=>match s with
  |none=>true
  |some k=>match ops[i]?,ops[k]? with
   |some o,some ok=>match TY o with
    |some t=>CB ok&&(ok.dst==some t)&&A i k
    |none=>false
   |_,_=>false)&&
 (ops.toList.zipIdx.all fun(o,j)=>zz (idx pl.anc j) (2^n)&&
  ((zq n).all fun i=> !A j i||((o.after.toList.any fun e=>yf .any e&&(zi e.on i||A e.on i))&&zz (pos i) (pos j)))&&
  (o.after.toList.all fun e=> !yf .any e||(A j e.on&&zz e.on n)))&&
 (Zv ops fun i o j o'=>
  (!(CT o&&CT o')||zi i j||A i j||A j i)&&
  (!(CT o&&EB o')||A j i||zz (pos j) (pos i))&&
  (!((CB o||(pl.s i).isSome)&& !CT o')|| !A j i||(match o.dst with|some t=> !((reads ops o').contains t)|none=>true)||(pl.s j==some i)||(ops.toList.zipIdx.any fun(x,k)=>CT x&&A k i&&A j k))&&
  (!(CT o&&CB o')||A i j||zz (pos i) (pos j))&&
  (!(EB o&&QX o&&CB o')|| !zz (pos j) (pos i)||(ops.toList.zipIdx.any fun(x,k)=>CT x&&zz (pos j) (pos k)&&zz (pos k) (pos i)))&&
  (zi i j||(match o.dst with
   |none=>true
   |some t=> !(o'.dst==some t)&&(!((reads ops o').contains t)||A j i||A i j))))
theorem JK{ops:Array Oper}{i:Nat}{o:Oper}(h:ops[i]?=some o):(o,i)∈ops.toList.zipIdx:=by
 have:=(zc.1 h);obtain⟨d,c⟩:=this;rw[zw];simpa using h
theorem jR{ops:Array Oper}{i:Nat}{o:Oper}(h:(o,i)∈ops.toList.zipIdx):ops[i]?=some o:=by
 rw[zw]at h;simpa using h
theorem Wl{o:Oper}{t:Tmp}(h:TY o=some t):(o.op=.assign (.tmp t)\/o.op=.move (.tmp t))/\o.guard=none:=by
 unfold TY at h;split at h
 ·cases h;rename_i d c;exact⟨.inl c,d⟩
 ·cases h;rename_i d c;exact⟨.inr c,d⟩
 ·cases h
theorem aN{ops:Array Oper}{pl:NQ}(K:Is ops pl=true):Stat ops pl.a (idx pl.ord) (idx pl.pos) pl.s:=by
 unfold Is at K;simp only[zd]at K;obtain⟨⟨⟨⟨⟨⟨⟨h0,R⟩,O⟩,Y⟩,_⟩,N⟩,B⟩,U⟩:=K;simp only[zm,yv,zd,yp,Bt,w5]at R O;simp only[zm]at B;have r:∀(i j:Nat) (o o':Oper),ops[i]?=some o->ops[j]?=some o'->_:=fun i j o o' g f=>zm.1 (zm.1 U (o,i)<|JK g) (o',j)<|JK f
 simp only[zd,zp,zx,Bt,w5,Hx,w9,Bool.and_eq_false_imp]at r;have l:∀(j i:Nat),pl.a j i=true->j<ops.size/\i<ops.size:=by
  intro j i h;have f:j<ops.size:=by
   rcases yq j ops.size with c|c
   ·exact c
   ·have hl:pl.anc.length=ops.size:=by simpa using Y
    unfold NQ.a idx at h;rw[zy,List.getElem?_eq_none<|by omega]at h;simp at h
  refine⟨f,?_⟩;have c:=B (ops[j],j) (JK<|by simp[f]);simp only[zd,yp]at c;rcases yq i ops.size with d|d
  ·exact d
  ·have D:=c.1.1;have X:idx pl.anc j<2^i:=Nat.lt_of_lt_of_le D (Nat.pow_le_pow_right (by omega) d);unfold NQ.a at h;rw[Nat.testBit_lt_two_pow X]at h;cases h
 refine⟨h0,fun q N=>R q N,fun i g=>O i g,fun j i h=>?_,fun j o e f I hb=>?_,fun j i h=>?_,fun i j o o' g f E W y=>?_,fun i j o o' g f E hr=>?_,fun i k h=>?_,fun j k o o' t f hk G E A u h=>?_,fun i j o o' g f E G=>?_,
  fun i j o o' g f hr M G Z=>?_,fun i j o o' t g f y A=>?_⟩
 ·obtain⟨f,g⟩:=l j i h;have c:=B (ops[j],j) (JK<|by simp[f]);simp only[zd,zm,yv,zp,zx]at c;rcases c.1.2 i g with d|d
  ·rw[h]at d;cases d
  ·obtain⟨e,I,D⟩:=ye.1 d.1;simp only[zd,zp,Bt,w5]at D;exact⟨ops[j],e,by simp[f],by simpa using I,D.1,D.2⟩
 ·have c:=B (o,j)<|JK f;simp only[zd,zm,zp,zx,yp]at c;rcases c.2 e (by simpa using I)with d|d
  ·rw[hb]at d;cases d
  ·exact d
 ·obtain⟨f,g⟩:=l j i h;have c:=B (ops[j],j) (JK<|by simp[f]);simp only[zd,zm,yv,zp,zx,yp]at c;rcases c.1.2 i g with d|d
  ·rw[h]at d;cases d
  ·exact d.2
 ·have:=(r i j o o' g f).1.1.1.1.1;simp_all
 ·have:=(r i j o o' g f).1.1.1.1.2;simp_all
 ·have u:(pl.s i,i)∈pl.sc.zipIdx:=by
   rw[zw];unfold NQ.s at h ⊢;rw[zy]at h ⊢;cases hg:pl.sc[i]? with
   |none=>rw[hg]at h;cases h
   |some x=>rfl
  have c:=zm.1 N _ u;simp only[h]at c;split at c
  case h_2=>cases c
  rename_i o ok ho L;split at c
  case h_2=>cases c
  rename_i t A;simp only[zd,wj]at c;obtain⟨g1,g2⟩:=Wl A;exact⟨o,ok,t,ho,L,g1,g2,c.1.1,c.1.2,c.2⟩
 ·have c:=(r j k o o' f hk).1.1.1.2;have z:(CB o||(pl.s j).isSome)=true:=by simpa using G
  rw[E,h,A]at c;have T:(reads ops o').contains t=true:=by simpa using u
  simp only[zp]at z;simp only[T,Bool.not_false,Bool.not_true,zu,or_false,Bool.true_eq_false]at c;rcases c with(c|c)|c
  ·exact wh z (fun d=>by simpa using c d)
  ·exact .inl (by simpa using c)
  ·obtain⟨⟨x,i⟩,J,d⟩:=ye.1 c;simp only[zd]at d;exact .inr ⟨i,x,jR J,d.1.1,d.1.2,d.2⟩
 ·have:=(r i j o o' g f).1.1.2;simp_all
 ·have c:=(r i j o o' g f).1.2;rw[hr,M,G]at c;simp only[vf,forall_const,Bool.true_eq_false,false_or]at c;rcases c with c|c
  ·omega
  ·obtain⟨⟨x,k⟩,u,d⟩:=ye.1 c;simp only[zd,w5]at d;exact⟨k,x,jR u,d.1.1,d.1.2,d.2⟩
 ·have c:=(r i j o o' g f).2;rcases c with c|c
  ·exact wh c y
  ·rw[A]at c;simp only[zd,zx,zp,vc]at c;refine⟨c.1,fun u=>?_⟩;rcases c.2 with(d|d)|d
   ·have:(reads ops o').contains t=true:=by simpa using u
    rw[this]at d;cases d
   ·exact .inl d
   ·exact .inr d
theorem wL{ops:Array Oper}{pl:NQ}(c:Is ops pl=true):pl.ord.length=ops.size:=by
 unfold Is at c;simp only[zd]at c;obtain⟨⟨⟨⟨⟨⟨⟨h0,f⟩,g⟩,j⟩,d⟩,l⟩,e⟩,i⟩:=c;simpa using d
mutual
def V.beq:V->V->Bool
 | .bool a,.bool b=>a==b
 | .int k a,.int l b=>k==l&&a==b
 | .str a,.str b=>a==b
 | .nilp,.nilp=>true
 | .ptr a i,.ptr b j=>zi a b&&zi i j
 | .nils,.nils=>true
 | .sl a b c d e,.sl o b' r q s=>zi a o&&zi b b'&&zi c r&&zi d q&&zi e s
 | .esl,.esl=>true
 | .es0,.es0=>true
 | .junk,.junk=>true
 | .nilm,.nilm=>true
 | .map a,.map b=>zi a b
 | .yld a,.yld b=>zi a b
 | .nilf,.nilf=>true
 | .nili,.nili=>true
 | .fn f a b,.fn g c d=>f==g&&V.Lq a c&&V.Lq b d
 | .iface t x,.iface u y=>zi t u&&V.beq x y
 | .agg a,.agg b=>V.Lq a b
 | .tup a,.tup b=>V.Lq a b
 |_,_=>false
def V.Lq:List V->List V->Bool
 |[],[]=>true
 |a::c,b::d=>V.beq a b&&V.Lq c d
 |_,_=>false
end
mutual
theorem V.beq_eq:∀ {a b:V},V.beq a b=true->a=b:=by
 intro a b h;cases a<;>cases b<;>simp only[V.beq]at h<;>first
  |(cases h;done)
  |rfl
  |(simp only[zd,wj,Bt,w5]at h;first|(obtain rfl:=h;rfl)|(obtain⟨rfl,rfl⟩:=h;rfl)|(obtain⟨⟨⟨⟨rfl,rfl⟩,rfl⟩,rfl⟩,rfl⟩:=h;rfl))
  |skip
 case fn.fn f a b g c d=>
  simp only[zd,wj]at h;rw[h.1.1,V.HG h.1.2,V.HG h.2]
 case iface.iface t x u y=>
  simp only[zd,Bt,w5]at h;rw[h.1,V.beq_eq h.2]
 case agg.agg a b=>rw[V.HG h]
 case tup.tup a b=>rw[V.HG h]
theorem V.HG:∀ {a b:List V},V.Lq a b=true->a=b
 |[],[],_=>rfl
 |[],_::_,h=>by simp[V.Lq]at h
 |_::_,[],h=>by simp[V.Lq]at h
 |a::c,b::d,h=>by
  simp only[V.Lq,zd]at h;rw[V.beq_eq h.1,V.HG h.2]
end
structure Rc where
 i:Nat
 o:Oper
 f:Fr
 v:V
structure St where
 f:Fr
 h:H
 r:List Rc
def still(C:Ctx)(anc:Nat->Nat->Bool)(i:Nat)(h:H)(r:Rc):Bool:=
 anc i r.i||(match GL C r.f h r.o with
  |some (.val x _)=>V.beq x r.v
  |_=>false)
def Iw(C:Ctx)(call:DM)(ops:Array Oper)(anc:Nat->Nat->Bool)(i:Nat)(s:St):Option (V×St):=
 match ops[i]? with
 |none=>none
 |some o=>
  bif Be s.f ops o then
   bif EB o then
    match GL C s.f s.h o with
    |some (.val v _)=>match s.f.put o.dst v with
     |some c=>some (v,⟨c,s.h,bif QX o then⟨i,o,s.f,v⟩::s.r else s.r⟩)
     |none=>none
    |_=>none
   else bif CB o then
    match fE C s.f o with
    |some (ob,f)=>match s.f.put o.dst (f s.h.nx)with
     |some c=>some (f s.h.nx,⟨c,s.h.push ob,s.r⟩)
     |none=>none
    |none=>none
   else
    match D0 C call s.f s.h o with
    |some (v,h')=>match s.f.put o.dst v with
     |some c=>bif s.r.all (still C anc i h')then some (v,⟨c,h',s.r⟩)else none
     |none=>none
    |none=>none
  else
   match s.f.put o.dst (.tup [])with
   |some c=>bif CT o then(bif s.r.all (still C anc i s.h)then some (.tup [],⟨c,s.h,s.r⟩)else none)else some (.tup [],⟨c,s.h,s.r⟩)
   |none=>none
def WE(C:Ctx)(call:DM)(ops:Array Oper)(anc:Nat->Nat->Bool):List Nat->St->Option St
 |[],s=>some s
 |i::c,s=>match Iw C call ops anc i s with
  |some (_,d)=>WE C call ops anc c d
  |none=>none
def Jq(C:Ctx)(call:DM)(ops:Array Oper)(fr:Fr)(h:H):Option (Fr×H):=
 match WE C call ops (E9 ops).a (E9 ops).ord ⟨fr,h,[]⟩with
 |some s=>some (s.f,s.h)
 |none=>none
def Wm(C:Ctx)(call:DM)(ops:Array Oper)(fr:Fr)(h:H):Option (Fr×H):=
 bif Is ops (E9 ops)then Jq C call ops fr h else none
def DS:Code->Bool
 | .region _ ops dr=>bif dr then Is ops (E9 ops)else true
 | .seq a b=>DS a&&DS b
 | .cond _ a b=>DS a&&DS b
 | .block _ b=>DS b
 | .loop b=>DS b
 | .scope b=>DS b
 |_=>true
section
variable {C:Ctx}{P:Program}{call:DM}{ops:Array Oper}{p:Pl}{h:H}{w:World}{fr:Fr}{a:Act}
theorem LK{f g:Fr}{d:Option Nat}{v:V}(h:f.put d v=some g):g.n=f.n/\(∀t,g.get t=if d=some t then v else f.get t)/\∀t,d=some t->t<f.n:=by
 unfold Fr.put at h;cases d with
 |none=>cases h;exact⟨rfl,fun t=>by simp,fun t h=>by cases h⟩
 |some s=>
  simp only[Hx]at h;by_cases c:s<f.n
  ·simp only[c,decide_true,we,ze]at h;subst h;refine⟨rfl,fun t=>?_,fun t i=>by cases i;exact c⟩;unfold Fr.get;simp only[PM.Dn];by_cases e:t=s
   ·subst e;simp
   ·have:¬s=t:=fun x=>e x.symm
    simp[e,this]
  ·simp[c]at h
theorem Ec{anc:Nat->Nat->Bool}{i:Nat}{s g:St}{v:V}(c:Iw C call ops anc i s=some (v,g)):∃o,ops[i]?=some o/\g.f.n=s.f.n/\(∀t,g.f.get t=if o.dst=some t then v else s.f.get t)/\(∀t,o.dst=some t->t<s.f.n)/\
  ((Be s.f ops o=false/\v=.tup []/\g.h=s.h)\/
   (Be s.f ops o=true/\
   ((EB o=true/\GL C s.f s.h o=some (.val v s.h)/\g.h=s.h)\/
    (CB o=true/\∃ob f,fE C s.f o=some (ob,f)/\v=f s.h.nx/\g.h=s.h.push ob)\/
    (CT o=true/\D0 C call s.f s.h o=some (v,g.h)))))/\
  (∀r∈s.r,r∈g.r)/\(EB o=true->QX o=true->Be s.f ops o=true->⟨i,o,s.f,v⟩∈g.r)/\
  (CT o=true->∀r∈s.r,still C anc i g.h r=true):=by
 unfold Iw at c;split at c
 case h_1=>cases c
 rename_i o I;refine⟨o,I,?_⟩;cases E:Be s.f ops o with
 |false=>
  simp only[E,wg]at c;split at c
  case h_2=>cases c
  rename_i B hp;obtain⟨j,q,l⟩:=LK hp;cases x:CT o with
  |false=>
   simp only[x,wg,ze,zl]at c;obtain⟨rfl,rfl⟩:=c;exact⟨j,q,l,.inl ⟨rfl,rfl,rfl⟩,fun r hr=>hr,fun _ _ h=>(by cases h),fun h=>(by cases h)⟩
  |true=>
   simp only[x,we]at c;cases u:s.r.all (still C anc i s.h)with
   |false=>simp[u]at c
   |true=>
    simp only[u,we,ze,zl]at c;obtain⟨rfl,rfl⟩:=c;exact⟨j,q,l,.inl ⟨rfl,rfl,rfl⟩,fun r hr=>hr,fun _ _ h=>(by cases h),fun _ r hr=>zm.1 u r hr⟩
 |true=>
  simp only[E,we]at c;cases d:EB o with
  |true=>
   simp only[d,we]at c;split at c
   case h_2=>cases c
   rename_i v1 D z;split at c
   case h_2=>cases c
   rename_i B hp;simp only[ze,zl]at c;obtain⟨rfl,rfl⟩:=c;obtain⟨j,q,l⟩:=LK hp;obtain⟨v2,hv2⟩:=rd_val d z;cases hv2;refine⟨j,q,l,.inr ⟨rfl,.inl ⟨rfl,z,rfl⟩⟩,fun r hr=>?_,fun _ G _=>?_,fun x=>by rw[(OG x).1]at d;cases d⟩
   ·cases QX o<;>simp[hr]
   ·simp[G]
  |false=>
   simp only[d,wg]at c;cases e:CB o with
   |true=>
    simp only[e,we]at c;split at c
    case h_2=>cases c
    rename_i ob f y;split at c
    case h_2=>cases c
    rename_i B hp;simp only[ze,zl]at c;obtain⟨rfl,rfl⟩:=c;obtain⟨j,q,l⟩:=LK hp;exact⟨j,q,l,.inr ⟨rfl,.inr<|.inl ⟨rfl,ob,f,y,rfl,rfl⟩⟩,fun r hr=>hr,fun h=>(by cases h),fun x=>by rw[(OG x).2]at e;cases e⟩
   |false=>
    simp only[e,wg]at c;split at c
    case h_2=>cases c
    rename_i v1 D A;split at c
    case h_2=>cases c
    rename_i B hp;obtain⟨j,q,l⟩:=LK hp;cases u:s.r.all (still C anc i D)with
    |false=>simp[u]at c
    |true=>
     simp only[u,we,ze,zl]at c;obtain⟨rfl,rfl⟩:=c;exact⟨j,q,l,.inr ⟨rfl,.inr<|.inr ⟨by simp[CT,d,e],A⟩⟩,fun r hr=>hr,fun h=>(by cases h),fun _ r hr=>zm.1 u r hr⟩
theorem Nv{anc:Nat->Nat->Bool}:∀(L:List Nat) (s d:St),WE C call ops anc L s=some d->
  ∃(c:Nat->St) (f:Nat->V),c 0=s/\c L.length=d/\∀(q i:Nat),L[q]?=some i->Iw C call ops anc i (c q)=some (f q,c<|q+1)
 |[],s,d,h=>by
  cases h;exact⟨fun _=>s,fun _=>.nilp,rfl,rfl,fun q i h=>by simp at h⟩
 |i::L,s,d,h=>by
  unfold WE at h;split at h
  case h_2=>cases h
  rename_i v s1 g;obtain⟨c,f,h0,l,o⟩:=Nv L s1 d h;refine⟨fun q=>match q with|0=>s|q+1=>c q,fun q=>match q with|0=>v|q+1=>f q,rfl,by simpa using l,fun q j e=>?_⟩;cases q with
  |zero=>simp at e;subst e;simp only[h0];exact g
  |succ q=>simp at e;exact o q j e
theorem pZ{pl:NQ}(hs:Is ops pl=true){O:St}(hd:WE C call ops pl.a pl.ord ⟨fr,h,[]⟩=some O):
  ∃(v:Nat->V) (Hh:Nat->H) (F:Nat->Fr),Canon C call ops pl.a (idx pl.ord) (idx pl.pos) fr h v Hh F/\Hh ops.size=O.h/\F ops.size=O.f:=by
 have st:=aN hs;have W:=wL hs;obtain⟨G,Z,h0,Y,hq⟩:=Nv pl.ord _ _ hd;have D0:∀q,q<ops.size->Iw C call ops pl.a (idx pl.ord q) (G q)=some (Z q,G<|q+1):=by
  intro q l;refine hq q _ ?_;unfold idx;rw[zy,yn<|by omega];rfl
 have I:∀q,q<=ops.size->(G q).f.n=fr.n:=by
  intro q;induction q with
  |zero=>intro _;rw[h0]
  |succ q M=>
   intro l;obtain⟨o,_,U,_⟩:=Ec (D0 q<|by omega);rw[U,M<|by omega]
 have B:∀q z,q<=z->z<=ops.size->∀r∈(G q).r,r∈(G z).r:=by
  intro q z hle;induction z with
  |zero=>
   intro _ r hr;have:q=0:=by omega
   subst this;exact hr
  |succ z M=>
   intro l r hr;by_cases e:q=z+1
   ·subst e;exact hr
   ·obtain⟨o,_,_,_,_,_,g,_⟩:=Ec (D0 z<|by omega);exact g r (M (by omega) (by omega) r hr)
 refine⟨fun i=>Z<|idx pl.pos i,fun q=>(G q).h,fun q=>(G q).f,⟨by simp[h0],by simp[h0],I,fun q l o s t=>?_,fun i o t s ht=>?_,fun i o s=>?_,fun i j o oj s X N K T hw hlt L=>?_⟩,by simp[<-W,Y],by simp[<-W,Y]⟩
 ·obtain⟨o',c,_,U,_⟩:=Ec<|D0 q l;rw[s]at c;cases c;simp only[(st.ordp q l).2];exact U t
 ·have d:=(zc.1 s).1;have hp:=st.posp i d;obtain⟨o',c,_,_,g2,_⟩:=Ec<|D0 _ hp.1;rw[hp.2,s]at c;cases c;rw[<-I _ (yz hp.1)];exact g2 t ht
 ·have d:=(zc.1 s).1;have hp:=st.posp i d;obtain⟨o',c,_,_,_,g3,_⟩:=Ec<|D0 _ hp.1;rw[hp.2,s]at c;cases c;exact g3
 ·have d:=(zc.1 s).1;have R:=(zc.1 X).1;have u:=st.posp i d;have E:=st.posp j R;obtain⟨o',c,_,_,_,_,_,g4,_⟩:=Ec<|D0 _ E.1;rw[E.2,X]at c;cases c;have J:=B _ (idx pl.pos i) (by omega) (yz u.1) _<|g4 K T hw;obtain⟨o'',c,_,_,_,_,_,_,g5⟩:=Ec<|D0 _ u.1;rw[u.2,s]at c;cases c;have A:=g5 N _ J;unfold still at A;rw[E.2]at A;rw[u.2,L]at A;simp only[Bool.false_or]at A;split at A
  case h_2=>cases A
  rename_i x hx D;obtain⟨y,hy⟩:=rd_val K D;cases hy;rw[V.beq_eq A]at D;exact D
theorem QR(g:Is ops (E9 ops)=true)(r:C.Ok P)(c:call.Ok C P)(A:P.follows .mixedOrders=true)(hr:R p h w)(q:Gl C p)(t:CO p fr a){fr':Fr}{h':H}(f:Jq C call ops fr h=some (fr',h')){id:Nat}{ro:Option Nat}{j:Nat}{Q:Exit->Act->World->Prop}
  (l:∀p' d w',CO p' fr' d->Ext p h w p' h' w'->d.defers=a.defers->Q .normal d w'):(yu id ops true).wpIn (FW ro) j P Q a w:=by
 unfold Jq at f;split at f
 case h_2=>cases f
 rename_i s e;cases f;obtain⟨v,Hh,F,i,x,o⟩:=pZ g e;refine fS r c A (aN g) i hr q t fun p' d w' y u z=>l p' d w' ?_ ?_ z
 ·rw[<-o];exact y
 ·rw[<-x];exact u
theorem cA(l:C.Ok P)(c:call.Ok C P)(q:P.follows .mixedOrders=true)(hr:R p h w)(j:Gl C p)(o:CO p fr a){fr':Fr}{h':H}(d:Wm C call ops fr h=some (fr',h')){id:Nat}{ro:Option Nat}{g:Nat}{Q:Exit->Act->World->Prop}
  (i:∀p' e w',CO p' fr' e->Ext p h w p' h' w'->e.defers=a.defers->Q .normal e w'):(yu id ops true).wpIn (FW ro) g P Q a w:=by
 unfold Wm at d;cases f:Is ops (E9 ops)with
 |false=>simp[f]at d
 |true=>
  simp only[f,we]at d;exact QR f l c q hr j o d i
end
section
variable {P:Program}{F:Fence}{n:Nat}{b:Frame}{a:Act}{k:List Item}{cs:List Frame}{w:World}{Q:Exit->Act->World->Prop}
theorem Ei{c:Code}:step P (lone (b.atR a (.code (.scope c)::k)) cs w)=.next (lone (b.atR a (.code c:: .inScope c::k)) cs w):=
 step_lone_go (by simp[stepG,stepG.exec,Frame.atR])
theorem Rj{c:Code}:step P (lone (b.atR a (.inScope c::k)) cs w)=.next (lone (b.atR a k) cs w):=
 step_lone_go (by simp[stepG,stepG.exec,Frame.atR])
theorem J2{c:Code}(h:c.wpIn F n P (Exit.noGoto Q) a w):(Code.scope c).wpIn F n P Q a w:=by
 intro b k cs q j hr;have h0:(lone (b.atR a (.code (.scope c)::k)) cs w).fenced P F:=fenced_calm j hr rfl;obtain⟨e,f,g,i,d⟩:=h b (.inScope c::k) cs q j hr;cases e with
 |normal=>exact⟨.normal,f,g,i,.head h0 Ei<|StepsIn.trans d<|.one (fenced_calm j hr rfl) Rj⟩
 |exit id=>
  have s:exitTo id (.inScope c::k)=exitTo id k:=by simp[exitTo]
  exact⟨.exit id,f,g,i,fun t o=>.head h0 Ei (d.1 t<|by rw[s];exact o),
   fun r o=>let ⟨k₁,h1,h2⟩:=d.2 r (by rw[s];exact o);⟨k₁,h1,.head h0 Ei h2⟩⟩
 |goto l=>exact i.elim
 |ret=>exact⟨_,f,g,i,.of_steps (.one h0 Ei) d⟩
 |panic u=>exact⟨_,f,g,i,.of_steps (.one h0 Ei) d⟩
 |outgrown=>exact⟨_,f,g,i,.of_steps (.one h0 Ei) d⟩
end
structure X where
 e:DX
 fr:Fr
 h:H
 ds:List Nat
def Yg(ro:Option Nat)(fr:Fr)(h:H)(ps:Array Tmp)(asg body:Code)(ds:List Nat):Option (Nat×H×List Nat):=
 match ro with
 |none=>some (h.nx+1,(h.push<|.defd true).push<|.loop ⟨.ready,none,fr,ps,asg,body,h.nx⟩,h.nx::ds)
 |some b=>match h.get b with
  |some (.loop l)=>some (h.nx,h.push<|.loop ⟨.ready,none,fr,ps,asg,body,l.db⟩,ds)
  |_=>none
def BR(C:Ctx)(call:DM)(ro:Option Nat)(ct:Bool):Nat->Code->Fr->H->List Nat->Option (List X)
 |0,_,_,_,_=>none
 |m+1,c,fr,h,ds=>
  match c with
  | .skip| .label _=>some [⟨.normal,fr,h,ds⟩]
  | .region _ ops dr=>bif dr then(match (bif ct then Jq C call ops fr h else Wm C call ops fr h)with
    |some (fr',h')=>some [⟨.normal,fr',h',ds⟩]
    |none=>none)
   else(match SZ C call ops ops.toList fr h with
    |some l=>some<|l.map fun x=>⟨.normal,x.1,x.2,ds⟩
    |none=>none)
  | .seq a b=>match BR C call ro ct m a fr h ds with
   |some l=>bl l fun x=>match x.e with
    | .normal=>BR C call ro ct m b x.fr x.h x.ds
    |_=>some [x]
   |none=>none
  | .cond x a b=>match ev C fr x with
   |some (.bool true)=>BR C call ro ct m a fr h ds
   |some (.bool false)=>BR C call ro ct m b fr h ds
   |_=>none
  | .block id b=>match BR C call ro ct m b fr h ds with
   |some l=>some<|l.map fun x=>match x.e with
    | .exit i=>bif zi i id then { x with e:=.normal }else x
    |_=>x
   |none=>none
  | .loop b=>match BR C call ro ct m b fr h ds with
   |some l=>bl l fun x=>match x.e with
    | .normal=>BR C call ro ct m (.loop b) x.fr x.h x.ds
    |_=>some [x]
   |none=>none
  | .exit i=>some [⟨.exit i,fr,h,ds⟩]
  | .ret=>some [⟨.ret,fr,h,ds⟩]
  | .scope b=>BR C call ro ct m b fr h ds
  | .rangeFunc g ps asg body=>match Yg ro fr h ps asg body ds,ev C fr g with
   |some (b,j,d),some o=>match K9 C j o [.yld b]with
    |some (.enter f args)=>match call (.fn f args) j with
     |some l=>bl l fun x=>match x.2.get b with
      |some (.loop ls)=>match ls.st,ls.pend with
       | .busy,_=>none
       |_,none=>some [⟨.normal,fr,x.2.put b<|.loop { ls with st:=.exhausted },d⟩]
       |_,some c=>BR C call ro false m c fr (x.2.put b<|.loop { ls with st:=.exhausted }) d
      |_=>none
     |none=>none
    |_=>none
   |_,_=>none
  |_=>none
def HM(p:Pl):List Nat->List Deferred->Prop
 |[],l=>l=[]
 |b::c,l=>∃r n l',p[b]?=some (r,n)/\l={ target:=.collected r,args:= #[] }::l'/\HM p c l'
theorem HF{p:Pl}(q:Pl){b:Nat}{x:Nat×Nat}(h:p[b]?=some x):(p++q)[b]?=some x:=by
 rw[z7 (List.getElem?_eq_some_iff.1 h).1];exact h
theorem HM.mono{p:Pl}(q:Pl):∀ {ds:List Nat} {l:List Deferred},HM p ds l->HM (p++q) ds l
 |[],_,h=>h
 |_b::_bs,_l,⟨r,n,l',c,d,e⟩=>⟨r,n,l',HF q c,d,e.mono q⟩
theorem HM.ext{p p':Pl}{h h':H}{w w':World}(e:Ext p h w p' h' w'){ds:List Nat}{l:List Deferred}(c:HM p ds l):HM p' ds l:=by
 obtain⟨q,rfl⟩:=e.pre;exact c.mono q
def R9(p:Pl):Option Nat->Option Nat->Prop
 |none,none=>True
 |some b,some r=>∃n,p[b]?=some (r,n)
 |_,_=>False
theorem R9.ext{p p':Pl}{h h':H}{w w':World}(e:Ext p h w p' h' w'){ro k:Option Nat}(c:R9 p ro k):R9 p' ro k:=by
 obtain⟨q,rfl⟩:=e.pre;cases ro with
 |none=>cases k with
  |none=>trivial
  |some r=>exact c.elim
 |some b=>
  cases k with
  |none=>exact c
  |some r=>obtain⟨n,d⟩:=c;exact⟨n,HF q d⟩
theorem Ext.at{p p':Pl}{h h':H}{w w':World}(e:Ext p h w p' h' w'){b:Nat}{x:Nat×Nat}(c:p[b]?=some x):p'[b]?=some x:=by
 obtain⟨q,rfl⟩:=e.pre;exact HF q c
section
variable {C:Ctx}{P:Program}{call:DM}{ops:Array Oper}{p:Pl}{h:H}{w:World}{fr:Fr}{a:Act}
theorem JY(hr:R p h w)(z:CO p fr a){ro k:Option Nat}(d:R9 p ro k){ps:Array Tmp}{asg body:Code}{ds e:List Nat}(i:HM p ds a.defers){b:Nat}{g:H}
  (c:Yg ro fr h ps asg body ds=some (b,g,e)) (fn:FuncId):∃l mark y j n,(Instr.enterLoop fn a.tmps ps asg body k).run P w=.ok (l,mark) y/\Ext p h w j g y/\j[b]?=some (l,n)/\HM j e (mark++a.defers):=by
 unfold Yg at c;cases ro with
 |none=>
  cases k with
  |some k=>exact d.elim
  |none=>
   simp only[ze,zl]at c;obtain⟨rfl,rfl,rfl⟩:=c;have u:=Ext.push (n:=0) hr (o:=.defd true) (x:=.deferred<|some []) (by simp[Hw]);have f:(p++[(w.heap.size,0)])[h.nx]?=some (w.heap.size,0):=by rw[<-hr.len];simp
   have t:FE (p++[(w.heap.size,0)]) fr a.tmps:=FE.mono _ z;have q:=Ext.push (n:=0) u.rel (o:=.loop ⟨.ready,none,fr,ps,asg,body,h.nx⟩) (x:=.loop { state:=.ready,pending:=none,fn,tmps:=a.tmps,params:=ps,assign:=asg,body,defers:=w.heap.size })
    ⟨fn,a.tmps,_,_,t,f,rfl⟩
   refine⟨_,_,_,_,0,run_enterLoop_outer fn a.tmps ps asg body,u.trans q,?_,?_⟩
   ·have:h.nx+1=(p++[(w.heap.size,0)]).length:=by simp[hr.len]
    rw[this,List.getElem?_append_right<|zo _];simp only[Nat.sub_self,List.getElem?_cons_zero,ze,zl,ve];simp
   ·exact⟨w.heap.size,0,a.defers,HF _ f,rfl,HM.mono _<|HM.mono _ i⟩
 |some A=>
  cases k with
  |none=>exact d.elim
  |some k=>
   simp only at c;split at c
   case h_2=>cases c
   rename_i l0 s;simp only[ze,zl]at c;obtain⟨rfl,rfl,rfl⟩:=c;obtain⟨n0,hn0⟩:=d;obtain⟨r',n',x,g,h2,f0,tmps,r,m,h3,h4,rfl⟩:=hr.obj _ _ s;rw[hn0]at g;cases g;have q:=Ext.push (n:=0) hr (o:=.loop ⟨.ready,none,fr,ps,asg,body,l0.db⟩) (x:=.loop { state:=.ready,pending:=none,fn,tmps:=a.tmps,params:=ps,assign:=asg,body,defers:=r })
    ⟨fn,a.tmps,_,_,z,h4,rfl⟩
   refine⟨w.heap.size,[],_,_,0,?_,q,?_,?_⟩
   ·unfold Instr.enterLoop;simp only[zj,run_getLoop h2,run_newObj_alloc,zh,zn,World.alloc]
   ·rw[<-hr.len];simp
   ·exact HM.mono _ i
theorem Result.W1{α d:Type}{r:Result α}{f:α->World->Result d}{b:d}{w':World}(h:r.andThen f=.ok b w'):∃a c,r=.ok a c/\f a c=.ok b w':=by
 cases r with
 |ok a c=>exact⟨a,c,rfl,h⟩
 |halt x c=>simp[Result.andThen]at h
theorem LY(hC:C.Ok P)(G:call.Ok C P)(hm:P.follows .mixedOrders=true){ro k:Option Nat}{n:Nat}:∀(m:Nat) (ct:Bool) (c:Code) {fr:Fr} {h:H} {ds:List Nat} {L:List X},(ct=true->DS c=true)->BR C call ro ct m c fr h ds=some L->
  ∀(p:Pl) (a:Act) (w:World) (Q:Exit->Act->World->Prop),R p h w->Gl C p->CO p fr a->HM p ds a.defers->R9 p ro k->
   (∀x∈L,∀p' a' w',CO p' x.fr a'->Ext p h w p' x.h w'->HM p' x.ds a'.defers->Q x.e.Sr a' w')->
   c.wpIn (FW k) n P Q a w/\∀b,c=.loop b->Code.roundsIn (FW k) n P b Q m a w
 |0,ct,c,fr,h,ds,L,E,o=>by cases o
 |m+1,ct,c,fr,h,ds,L,E,o=>by
  intro p a w Q hr M K B D J;have ih:∀ {ct:Bool} (c:Code) {fr:Fr} {h:H} {ds:List Nat} {L:List X},(ct=true->DS c=true)->BR C call ro ct m c fr h ds=some L->∀ {p:Pl} {a:Act} {w:World},R p h w->Gl C p->CO p fr a->HM p ds a.defers->R9 p ro k->
    ∀ {Q:Exit->Act->World->Prop},(∀x∈L,∀p' a' w',CO p' x.fr a'->Ext p h w p' x.h w'->HM p' x.ds a'.defers->Q x.e.Sr a' w')->
   c.wpIn (FW k) n P Q a w/\∀b,c=.loop b->Code.roundsIn (FW k) n P b Q m a w:=fun {ct} c {fr h ds L} E o {p a w} hr M K B D {Q} J=>LY hC G hm m ct c E o p a w Q hr M K B D J
  cases c with
  |skip=>cases o;exact⟨wpIn_skip<|J _ (zf.2 rfl) p a w K (yh hr) B,fun b I=>by cases I⟩
  |label l=>cases o;exact⟨wpIn_label<|J _ (zf.2 rfl) p a w K (yh hr) B,fun b I=>by cases I⟩
  |region id ops dr=>
   refine⟨?_,fun b I=>by cases I⟩;simp only[BR]at o;cases dr with
   |true=>
    simp only[we]at o;split at o
    case h_2=>cases o
    rename_i fr1 h1 hs;cases o;refine(show ∀ {Q':Exit->Act->World->Prop},(∀p' a' w',CO p' fr1 a'->Ext p h w p' h1 w'->a'.defers=a.defers->Q' .normal a' w')->(yu id ops true).wpIn (FW k) n P Q' a w from fun {Q'} Z=>?_) fun O a1 N A j t=>J _ (zf.2 rfl) O a1 N A j<|t▸B.ext j
    cases ct with
    |false=>exact cA hC G hm hr M K hs Z
    |true=>exact QR (by simpa [DS]using E rfl) hC G hm hr M K hs Z
   |false=>
    simp only[wg]at o;split at o
    case h_2=>cases o
    rename_i l hs;cases o;exact WU hC G hr M K hs fun x hx O a1 N A j t=>J _ (y7.2 ⟨x,hx,rfl⟩) O a1 N A j<|t▸B.ext j
  |seq x y=>
   refine⟨wpIn_seq ?_,fun b I=>by cases I⟩;simp only[BR]at o;split at o
   case h_2=>cases o
   rename_i l hs;refine(ih x (fun e=>by have:=E e;simp[DS]at this;exact this.1) hs hr M K B D fun z hz O a1 N A j t=>?_).1;obtain⟨L1,U,g2⟩:=Jr o z hz;cases q:z.e with
   |normal=>
    simp only[q]at U;exact(ih y (fun e=>by have:=E e;simp[DS]at this;exact this.2) U j.rel (M.ext j) A t (D.ext j) fun u hu p2 a2 w2 T he2 Y=>J u (g2 u hu) p2 a2 w2 T (j.trans he2) Y).1
   |exit i=>
    simp only[q,ze]at U;subst U;have:=J z (g2 z<|zf.2 rfl) O a1 N A j t;rw[q]at this;exact this
   |ret=>
    simp only[q,ze]at U;subst U;have:=J z (g2 z<|zf.2 rfl) O a1 N A j t;rw[q]at this;exact this
  |cond x b1 b2=>
   refine⟨?_,fun b I=>by cases I⟩;simp only[BR]at o;split at o
   case h_1=>
    rename_i hx;have hv:=A9 M K hx;simp only[Ac]at hv;exact wpIn_cond_true hv (ih b1 (fun e=>by have:=E e;simp[DS]at this;exact this.1) o hr M K B D J).1
   case h_2=>
    rename_i hx;have hv:=A9 M K hx;simp only[Ac]at hv;exact wpIn_cond_false hv (ih b2 (fun e=>by have:=E e;simp[DS]at this;exact this.2) o hr M K B D J).1
   case h_3=>cases o
  |block id b=>
   refine⟨wpIn_block ?_,fun b I=>by cases I⟩;simp only[BR]at o;split at o
   case h_2=>cases o
   rename_i l hs;cases o;refine(ih b (fun e=>by have:=E e;simpa [DS]using this) hs hr M K B D fun z hz O a1 N A j t=>?_).1;have Z:=J _ (y7.2 ⟨z,hz,rfl⟩) O a1 N;cases q:z.e with
   |normal=>
    simp only[q]at Z;exact Z A j t
   |ret=>
    simp only[q]at Z;exact Z A j t
   |exit i=>
    simp only[q,Bt]at Z;by_cases ei:i=id
    ·simp only[ei,decide_true,we]at Z;simp only[DX.Sr,Exit.inBlock,ei,wk];exact Z A j t
    ·simp only[ei,decide_false,wg,q]at Z;simp only[DX.Sr,Exit.inBlock,ei,vg];exact Z A j t
  |loop b=>
   have key:Code.roundsIn (FW k) n P b Q (m+1) a w:=by
    rw[roundsIn_succ];simp only[BR]at o;split at o
    case h_2=>cases o
    rename_i l hs;refine(ih b (fun e=>by have:=E e;simpa [DS]using this) hs hr M K B D fun z hz O a1 N A j t=>?_).1;obtain⟨L1,U,g2⟩:=Jr o z hz;cases q:z.e with
    |normal=>
     simp only[q]at U;exact(ih (.loop b) E U j.rel (M.ext j) A t (D.ext j) fun u hu p2 a2 w2 T he2 Y=>J u (g2 u hu) p2 a2 w2 T (j.trans he2) Y).2 b rfl
    |exit i=>
     simp only[q,ze]at U;subst U;have:=J z (g2 z<|zf.2 rfl) O a1 N A j t;rw[q]at this;exact this
    |ret=>
     simp only[q,ze]at U;subst U;have:=J z (g2 z<|zf.2 rfl) O a1 N A j t;rw[q]at this;exact this
   exact⟨wpIn_loop_rounds (m+1) key,fun b' I=>by cases I;exact key⟩
  |exit i=>cases o;exact⟨wpIn_exit<|J _ (zf.2 rfl) p a w K (yh hr) B,fun b I=>by cases I⟩
  |ret=>cases o;exact⟨wpIn_ret<|J _ (zf.2 rfl) p a w K (yh hr) B,fun b I=>by cases I⟩
  |scope b=>
   refine⟨J2 ?_,fun b I=>by cases I⟩;simp only[BR]at o;refine(ih b (fun e=>by have:=E e;simpa [DS]using this) o hr M K B D fun z hz O a1 N A j t=>?_).1;have h1:=J z hz O a1 N A j t;cases q:z.e<;>rw[q]at h1<;>exact h1
  |rangeFunc g ps asg body=>
   refine⟨wpIn_rangeFunc fun fn _=>?_,fun b I=>by cases I⟩;simp only[BR]at o;split at o
   case h_2=>cases o
   rename_i b h1 ds1 g' hen hgv;split at o
   case h_2=>cases o
   rename_i f args hdc;split at o
   case h_2=>cases o
   rename_i l hcl;obtain⟨r,mark,N,O,nb,q1,q2,q3,q4⟩:=JY (P:=P) hr K D B hen fn;have hyld:Av O [.yld b] (#[Value.func (.yield r) #[] #[]]).toList:=by
    simp only[Bi,Hg,ve];simp only[Ac];exact⟨r,nb,q3,rfl⟩
   obtain⟨args',s1,s2⟩:=Nb hC q2.rel (M.ext q2) (q2.oD<|A9 M K hgv) hyld hdc;rw[zj]at s1;obtain⟨d,w1',s3,s4⟩:=Result.W1 s1;refine⟨r,mark,N,d,w1',f,args',N,q1,?_,fun _ _=>trivial,s4,fun h=>(by simp[FW,yi]at h),XM.2<|(G.fn f args h1 l hcl O N args' q2.rel (M.ext q2) s2).mono ?_⟩
   ·unfold resolve;simpa [Act.eval]using s3
   ·rintro e w2 ⟨v,h2,v',p2,hmem,rfl,k1,k2⟩;obtain⟨L1,t1,t2⟩:=Jr o (v,h2) hmem;simp only at t1;split at t1
    case h_2=>cases t1
    rename_i ls hls;obtain⟨r',n',x,u1,u2,f0,tmps,rd,md,u3,u4,rfl⟩:=k2.rel.obj _ _ hls;have hpb:=k2.at q3;rw[hpb]at u1;cases u1;have hbusy:ls.st≠ .busy:=by
     intro e;rw[e]at t1;simp at t1
    obtain⟨W,hW,hput⟩:∃W,(Instr.endLoop r).run P w2=.ok ls.pend W/\Ext p2 h2 w2 p2 (h2.put b<|.loop { ls with st:=.exhausted }) W:=
     ⟨_,run_endLoop u2 hbusy,Ext.put k2.rel hls hpb (o':=.loop { ls with st:=.exhausted }) (x':=.loop { state:=.exhausted,pending:=ls.pend,fn:=f0,tmps,params:=ls.ps,assign:=ls.asg,body:=ls.body,defers:=rd }) ⟨f0,tmps,rd,md,u3,u4,rfl⟩ rfl rfl rfl rfl⟩
    have hex:=q2.trans<|k2.trans hput;refine⟨ls.pend,W,hW,?_⟩;have T:CO p2 fr { a with defers:=mark++a.defers }:=CO.ext (a:={ a with defers:=mark++a.defers }) K<|q2.trans k2;have Y:HM p2 ds1 (mark++a.defers):=HM.ext k2 q4;split at t1
    case h_1=>cases t1
    case h_2=>
     rename_i hpe _;cases t1;simp only[hpe];exact J _ (t2 _<|zf.2 rfl) p2 _ _ T hex Y
    case h_3=>
     rename_i c hpe _;simp only[hpe];exact(ih c (fun e=>by cases e) t1 hput.rel (M.ext hex) T Y (D.ext hex) fun u hu p3 a3 w3 hf3 he3 hd3=>J u (t2 u hu) p3 a3 w3 hf3 (hex.trans he3) hd3).1
  |goto l=>simp[BR]at o
  |refuse s=>simp[BR]at o
end
section
variable {C:Ctx}{P:Program}{p:Pl}{h:H}{w:World}{fr:Fr}{a:Act}
def Y8(C:Ctx)(fr:Fr)(h:H):ResultVar->Option V
 | .tmp t=>some<|fr.get t
 | .cell a t=>Fv C.T h t<|fr.get a
def QT(C:Ctx)(fr:Fr)(h:H):List ResultVar->Option (List V)
 |[]=>some []
 |r::c=>match Y8 C fr h r,QT C fr h c with
  |some v,some vs=>some (v::vs)
  |_,_=>none
def PJ(C:Ctx)(fr:Fr)(h:H)(c:List ResultVar):Option V:=
 match QT C fr h c with
 |some [v]=>some v
 |some vs=>some<|.tup vs
 |none=>none
def wF(a:Act):ResultVar->Sem Value
 | .tmp t=>pure<|a.tmps.getD t undef
 | .cell x t=>do loadVar t (<-asAddr (a.tmps.getD x undef))
theorem XL(fn:Func)(a:Act):results fn a.tmps=(do let vs<-fn.results.mapM (wF a);pure (if h:vs.size=1 then vs[0]else .tuple vs)):=by
 unfold results;congr 1
theorem mB(q:C.T.Ok P)(hr:R p h w)(g:CO p fr a){r:ResultVar}{v:V}(f:Y8 C fr h r=some v):
  ∃v',(wF a r).run P w=.ok v' w/\Ac p v v':=by
 cases r with
 |tmp t=>cases f;exact⟨_,rfl,g.2 t⟩
 |cell x t=>
  simp only[Y8]at f;obtain⟨v',j,o⟩:=UT (P:=P) q hr (g.2 x) f;refine⟨v',?_,o⟩;have hp:∃b i,fr.get x=.ptr b i:=by
   unfold Fv at f;split at f
   ·rename_i b off d i l s u;exact⟨b,off,l⟩
   ·cases f
  obtain⟨b,i,e⟩:=hp;have c:=g.2 x;rw[e]at c;simp only[Ac]at c;obtain⟨r,n,_,c⟩:=c;rw[c]at j;simp only[wF,c];exact j
theorem Wb(g:C.T.Ok P)(hr:R p h w)(f:CO p fr a):∀ {e:List ResultVar} {vs:List V},QT C fr h e=some vs->
  ∃c:List Value,(e.mapM<|wF a).run P w=.ok c w/\Av p vs c
 |[],vs,d=>by cases d;exact⟨[],rfl,by simp⟩
 |r::e,vs,d=>by
  unfold QT at d;split at d
  case h_2=>cases d
  rename_i v j l i;cases d;obtain⟨v',q,o⟩:=mB (P:=P) g hr f l;obtain⟨c,g3,g4⟩:=Wb g hr f i;refine⟨v'::c,?_,(Bi ..).2 ⟨o,g4⟩⟩;rw[List.mapM_cons];simp only[zj];rw[q];simp only[zh,g3,zn]
theorem tZ(q:C.T.Ok P)(hr:R p h w)(j:CO p fr a){fn:Func}{v:V}(d:PJ C fr h fn.results.toList=some v):∃v',(results fn a.tmps).run P w=.ok v' w/\Ac p v v':=by
 unfold PJ at d;cases f:QT C fr h fn.results.toList with
 |none=>simp[f]at d
 |some vs=>
  obtain⟨c,o,g⟩:=Wb (P:=P) q hr j f;have i:=g.length;have e:(results fn a.tmps).run P w=.ok (if h:c.toArray.size=1 then c.toArray[0]else .tuple c.toArray) w:=by
   rw[XL];simp only[zj];rw[Array.mapM_eq_mapM_toList];simp only[Sem.run_map,o,zh,zn]
  refine⟨_,e,?_⟩;simp only[f]at d;cases vs with
  |nil=>
   cases d;have:c=[]:=List.length_eq_zero_iff.1 i.symm;subst this;simp[Ac]
  |cons x xs=>
   cases xs with
   |nil=>
    cases d;obtain⟨y,rfl,l⟩:=g.one;simpa using l
   |cons r xs=>
    cases d;rw[dif_neg<|by simp at i ⊢;omega];simp only[Ac];exact⟨_,rfl,g⟩
def V6:List V->Nat->PM V->PM V
 |[],_,m=>m
 |v::vs,i,m=>V6 vs (i+1)<|m.set i<|some v
def Nh(n:Nat)(args:List V):Fr:=⟨args.length+(n-args.length),V6 args 0 .leaf⟩
theorem Nc:∀(vs:List V) (i:Nat) (m:PM V) (t:Nat),(V6 vs i m).get t=if i<=t/\t<i+vs.length then vs[t-i]? else m.get t
 |[],i,m,t=>by simp[V6];omega
 |v::vs,i,m,t=>by
  unfold V6;rw[Nc vs (i+1) _ t];by_cases e:t=i
  ·subst e;rw[wc (by omega),wd<|by simp];simp
  ·by_cases c:i+1<=t/\t<i+1+vs.length
   ·rw[wd c,wd<|by simp;omega];have:t-i=(t-(i+1))+1:=by omega
    rw[this];simp
   ·rw[wc c,wc<|by simp;omega];simp[e]
theorem jS{args:List V}{args':Array Value}(g:Av p args args'.toList)(n:Nat):CO p (Nh n args) { tmps:=args'++yr (n-args'.size) undef,defers:=[] }:=by
 have e:=g.length;simp at e;refine⟨by simp[Nh,e],fun t=>?_⟩;unfold Nh Fr.get;rw[Nc];by_cases f:t<args.length
 ·rw[wd<|by omega];obtain⟨u,l,j⟩:=g.get (i:=t) (d:=args[t]) (by simp[f]);have c:args'[t]?=some u:=by simpa using l
  simp only[Nat.sub_zero,yn f,yo];rw[zk,Array.getElem?_append_left (by omega),c];exact j
 ·rw[wc<|by omega];simp only[PM.DE,Option.getD_none];have:(args'++yr (n-args'.size) undef).getD t undef=undef:=by
   rw[zk,Array.getElem?_append_right<|by omega];rw[Array.getElem?_replicate];split<;>rfl
  rw[this];simp[Ac,undef]
def Gg:List Nat->H->Option H
 |[],h=>some h
 |b::c,h=>match h.get b with
  |some (.defd true)=>Gg c<|h.put b<|.defd false
  |_=>none
theorem Si{fn:Func}{tmps:Array Value}{n:Nat}:∀ {ds:List Nat} {l:List Deferred} {p:Pl} {h:H} {w:World} {g:H},HM p ds l->R p h w->Gg ds h=some g->
  ∃e,Ext p h w p g e/\∀f:Ending->World->Prop,(∃v,(results fn tmps).run P e=.ok v e/\f (.returned v) e)->LeavesInM yi n P fn tmps f l .returning w
 |[],l,p,h,w,g,i,hr,d=>by
  cases d;cases (show l=[]from i);exact⟨w,yh hr,fun f hR=>hR⟩
 |b::q,l,p,h,w,g,i,hr,d=>by
  unfold Gg at d;split at d
  case h_2=>cases d
  rename_i o;obtain⟨r,m,l',hp,rfl,j⟩:=i;obtain⟨r',m',x,k1,k2,k3⟩:=hr.obj _ _ o;rw[hp]at k1;cases k1;simp only[Hw,we]at k3;subst k3;have c:=Ext.put hr o hp (o':=.defd false) (x':=.deferred none) (by simp[Hw]) (w':=w.putObj r<|.deferred none) rfl rfl rfl rfl;obtain⟨e,g1,g2⟩:=Si (fn:=fn) (tmps:=tmps) (n:=n) j c.rel d;exact⟨e,c.trans g1,fun f hR=>⟨by simp,.inl ⟨r,_,rfl,run_takeDeferred k2,g2 f hR⟩⟩⟩
def Up(C:Ctx)(m:Nat)(call:DM)(b:Nat)(ls:LS)(fr:Fr)(h:H):Option (List<|V×H):=
 match BR C call (some b) false m ls.asg fr h []with
 |some l=>bl l fun x=>match x.e,x.h.get b with
  | .normal,some (.loop l1)=>match l1.st with
   | .ready=>match BR C call (some b) false m ls.body x.fr (x.h.put b<|.loop { l1 with st:=.busy }) x.ds with
    |some d=>bl d fun y=>match y.h.get b with
     |some (.loop c)=>match y.e with
      | .normal=>some [(.bool true,y.h.put b<|.loop { c with st:=.ready,pend:=none })]
      | .ret=>some [(.bool false,y.h.put b<|.loop { c with st:=.done,pend:=some .ret })]
      | .exit i=>some [(.bool false,y.h.put b<|.loop { c with st:=.done,pend:=some (.exit i) })]
     |_=>none
    |none=>none
   |_=>none
  |_,_=>none
 |none=>none
mutual
def LC:V->List Nat
 | .ptr b _| .sl b _ _ _ _| .map b| .yld b=>[b]
 | .fn _ a b=>I6 a++I6 b
 | .iface _ v=>LC v
 | .agg l| .tup l=>I6 l
 |_=>[]
def I6:List V->List Nat
 |[]=>[]
 |v::vs=>LC v++I6 vs
end
def rR:O->List Nat
 | .cells cs _ _=>I6 cs
 | .map es _=>es.flatMap fun e=>LC e.1++LC e.2.1
 |_=>[]
def reach(h:H)(n0:Nat):Nat->List Nat->List Nat->List Nat
 |0,_,acc=>acc
 |_+1,[],acc=>acc
 |f+1,b::c,acc=>bif zz b n0||acc.any (zi b)then reach h n0 f c acc
  else match h.get b with
   |some o=>reach h n0 f (rR o++c) (b::acc)
   |none=>reach h n0 f c acc
def Oa(Qq:List Nat):Nat->Nat->H->H
 |0,_,h=>h
 |f+1,b,h=>Oa Qq f (b+1)<|bif Qq.any (zi b)then h else h.kill b
def iB:O->Bool
 | .loop l=>match l.st with| .exhausted=>true|_=>false
 |_=>false
def V0:Option O->Option O
 |some o=>bif iB o then none else some o
 |none=>none
def TG:PM O->PM O
 | .leaf=>.leaf
 | .node l v r=>.node (TG l) (V0 v)<|TG r
theorem Lh:∀(q:Hl) (m:PM O),q.get (TG m)=V0 (q.get m)
 |Hl.here,PM.leaf=>rfl
 |Hl.l _,PM.leaf=>rfl
 |Hl.r _,PM.leaf=>rfl
 |Hl.here,PM.node _ _ _=>rfl
 |Hl.l q,PM.node l _ _=>Lh q l
 |Hl.r q,PM.node _ _ r=>Lh q r
def H.qL(h:H):H:=⟨TG h.m,h.nx⟩
theorem VY{p:Pl}{h:H}{w:World}(hr:R p h w):Ext p h w p h.qL w:=by
 have sub:∀b o,h.qL.get b=some o->h.get b=some o:=by
  intro b o c;have:h.qL.get b=V0 (h.get b):=Lh _ _;rw[this]at c;cases i:h.get b with
  |none=>rw[i]at c;cases c
  |some x=>
   rw[i]at c;unfold V0 at c;cases d:iB x with
   |true=>simp[d]at c
   |false=>simpa [d]using c
 refine⟨⟨[],by simp⟩,⟨hr.len,fun b o c=>hr.obj b o<|sub b o c,fun b b' o o' r n n' c e=>hr.inj b b' o o' r n n' (sub b o c)<|sub b' o' e⟩,zo _,fun _ _ _=>rfl,fun r d=>?_,rfl,rfl,rfl,fun r q j=>⟨rfl,?_⟩⟩
 ·obtain⟨b,o,n,g,f⟩:=d;exact .inl ⟨b,o,n,sub b o g,f⟩
 ·obtain⟨b,n,cs,t,fz,g,f,l⟩:=j;refine .inl ⟨b,n,cs,t,fz,?_,f,l⟩;rw[show h.qL.get b=V0 (h.get b)from Lh _ _,g];rfl
def gcO(n0:Nat)(x:V×H):V×H:=(x.1,Oa (reach x.2 n0 1000 (LC x.1) []) (x.2.nx-n0) n0 x.2.qL)
def dI:List (V×V×Nat)->List (V×V×Nat)->Bool
 |[],[]=>true
 |(a,b,c)::l,(d,b',e)::l'=>V.beq a d&&V.beq b b'&&zi c e&&dI l l'
 |_,_=>false
def QW:List Nat->List Nat->Bool
 |[],[]=>true
 |a::l,b::l'=>zi a b&&QW l l'
 |_,_=>false
def AbW:O->O->Bool
 | .cells cs t fz,.cells cs' i fz'=>V.Lq cs cs'&&zi t i&&zi fz.1 fz'.1&&zi fz.2 fz'.2
 | .map es c,.map e j=>dI es e&&zi c j
 | .siter s n,.siter g n'=>s==g&&zi n n'
 | .miter none a l b,.miter none d l' b'=>zi a d&&QW l l'&&zi b b'
 | .miter (some m) a l b,.miter (some f) d l' b'=>zi m f&&zi a d&&QW l l'&&zi b b'
 | .defd a,.defd b=>a==b
 |_,_=>false
def Sn:Option O->Option O->Bool
 |none,none=>true
 |some a,some b=>AbW a b
 |_,_=>false
def PL:PM O->PM O->Bool
 | .leaf,.leaf=>true
 | .node l v r,.node l' v' c=>Sn v v'&&PL l l'&&PL r c
 |_,_=>false
def ZV(x y:V×H):Bool:=V.beq x.1 y.1&&zi x.2.nx y.2.nx&&PL x.2.m y.2.m
def dedup:List (V×H)->List (V×H)
 |[]=>[]
 |x::l=>let r:=dedup l;bif r.any (ZV x)then r else x::r
def OE(n0:Nat):List (V×H)->List (V×H)
 |[]=>[]
 |[x]=>[x]
 |l=>dedup<|l.map<|gcO n0
theorem Z9:∀ {a b:List (V×V×Nat)},dI a b=true->a=b
 |[],[],_=>rfl
 |[],_::_,h=>by simp[dI]at h
 |_::_,[],h=>by simp[dI]at h
 |(a,b,c)::l,(d,b',e)::l',h=>by
  simp only[dI,zd]at h;rw[V.beq_eq h.1.1.1,V.beq_eq h.1.1.2,zg h.1.2,Z9 h.2]
theorem P5:∀ {a b:List Nat},QW a b=true->a=b
 |[],[],_=>rfl
 |[],_::_,h=>by simp[QW]at h
 |_::_,[],h=>by simp[QW]at h
 |a::l,b::l',h=>by
  simp only[QW,zd]at h;rw[zg h.1,P5 h.2]
theorem Yy{a b:O}(h:AbW a b=true):a=b:=by
 unfold AbW at h;split at h
 ·rename_i fz _ _ fz';simp only[zd]at h;obtain⟨⟨⟨c,d⟩,f⟩,e⟩:=h;rw[V.HG c,zg d,show fz=fz' from Prod.ext (zg f)<|zg e]
 ·simp only[zd]at h;rw[Z9 h.1,zg h.2]
 ·simp only[zd,wj]at h;rw[h.1,zg h.2]
 ·simp only[zd]at h;rw[zg h.1.1,P5 h.1.2,zg h.2]
 ·simp only[zd]at h;rw[zg h.1.1.1,zg h.1.1.2,P5 h.1.2,zg h.2]
 ·simp only[wj]at h;rw[h]
 ·cases h
theorem OU:∀ {a b:PM O},PL a b=true->a=b
 | .leaf,.leaf,_=>rfl
 | .leaf,.node _ _ _,h=>by simp[PL]at h
 | .node _ _ _,.leaf,h=>by simp[PL]at h
 | .node l v r,.node l' v' c,h=>by
  simp only[PL,zd]at h;rw[OU h.1.2,OU h.2];congr 1;cases v<;>cases v'<;>first|rfl|exact wi some (Yy h.1.1)|(simp[Sn]at h)
theorem nQ{x y:V×H}(h:ZV x y=true):x=y:=by
 simp only[ZV,zd]at h;obtain⟨v,m,n⟩:=x;obtain⟨v',m',n'⟩:=y;have d:=V.beq_eq h.1.1;have c:=zg h.1.2;have e:=OU h.2;simp only at d c e;rw[d,c,e]
theorem ME:∀ {l:List (V×H)} {x:V×H},x∈l->x∈dedup l
 |a::l,x,h=>by
  unfold dedup;simp only;cases c:(dedup l).any (ZV a)with
  |true=>
   simp only[we];rcases yw.1 h with rfl|h
   ·obtain⟨y,e,d⟩:=ye.1 c;rw[nQ d];exact e
   ·exact ME h
  |false=>
   simp only[wg];rcases yw.1 h with rfl|h
   ·exact List.mem_cons_self
   ·exact List.mem_cons_of_mem _<|ME h
theorem IJ(Qq:List Nat):∀(f b:Nat) {p:Pl} {h:H} {w:World},R p h w->Ext p h w p (Oa Qq f b h) w
 |0,_,_,_,_,hr=>yh hr
 |f+1,b,p,h,w,hr=>by
  unfold Oa;cases Qq.any (zi b)with
  |true=>simp only[we];exact IJ Qq f (b+1) hr
  |false=>simp only[wg];exact(Ext.kill hr b).trans<|IJ Qq f (b+1)<|hr.kill b
theorem G5.merge{l:List (V×H)}{n0:Nat}{e:Ending}{w':World}(i:G5 p h w l e w'):G5 p h w (OE n0 l) e w':=by
 obtain⟨v,h',v',p',d,g,f,c⟩:=i;unfold OE;split
 ·cases d
 ·exact⟨v,h',v',p',d,g,f,c⟩
 ·exact⟨v,(gcO n0 (v,h')).2,v',p',ME<|y7.2 ⟨_,d,rfl⟩,g,f,c.trans<|(VY c.rel).trans<|IJ _ _ _ (VY c.rel).rel⟩
def Bl(C:Ctx):Nat->DM
 |0=>fun _ _=>none
 |n+1=>fun c h=>
  match c with
  | .rnd b ls fr=>Up C n (Bl C n) b ls fr h
  | .fn f args=>
   match C.spec f with
   |some q=>match q args h with
    |some x=>some [x]
    |none=>none
   |none=>
    match C.fn f with
    |none=>none
    |some i=>
     match BR C (Bl C n) none i.cert n i.body (Nh i.ntmps args) h []with
     |none=>none
     |some l=>match (bl l fun x=>match x.e with
      | .exit _=>none
      |_=>match Gg x.ds x.h with
       |some d=>match PJ C x.fr d i.results.toList with
        |some v=>some [(v,d)]
        |none=>none
       |none=>none)with
      |some r=>some<|bif C.mg then OE h.nx r else r
      |none=>none
theorem NA(hr:R p h w){b r n:Nat}{ls:LS}(d:h.get b=some (.loop ls))(hp:p[b]?=some (r,n)):
  ∃rec:Loop,w.heap[r]?=some (.loop rec)/\rec.state=ls.st/\rec.pending=ls.pend/\∀(st:LoopState) (c:Option Code),Ext p h w p (h.put b<|.loop { ls with st:=st,pend:=c }) (w.putObj r<|.loop { rec with state:=st,pending:=c }):=by
 obtain⟨i,n',x,u1,u2,f0,tmps,rd,g,e,f,rfl⟩:=hr.obj _ _ d;rw[hp]at u1;cases u1;exact⟨_,u2,rfl,rfl,fun st c=>Ext.put hr d hp (o':=.loop { ls with st:=st,pend:=c }) ⟨f0,tmps,rd,g,e,f,rfl⟩ rfl rfl rfl rfl⟩
theorem R1(O:C.Ok P){call:DM}(d:call.Ok C P)(T:P.follows .mixedOrders=true){b:Nat}{ls:LS}{l:List (V×H)}{k m D:Nat}(r:Up C D call b ls fr h=some l){f:FuncId}{tmps:Array Value}
  (hr:R p h w) (N:Gl C p) (hp:p[b]?=some (k,m)) (Z:FE p fr tmps):RoundIn yi 0 P k f tmps ls.asg ls.body w (G5 p h w l):=by
 unfold Up at r;split at r
 case h_2=>cases r
 rename_i L hL;refine roundIn_of_wpIn trivial ?_;refine(LY (k:=some k) (n:=0) O d T D false ls.asg (fun e=>by cases e) hL p { tmps:=tmps,defers:=[] } w _ hr N Z rfl ⟨m,hp⟩ fun x hx s a1 K A g B=>?_).1;obtain⟨L1,o,I⟩:=Jr r x hx;split at o
 case h_2=>cases o
 rename_i l1 E t;split at o
 case h_2=>cases o
 rename_i G;split at o
 case h_2=>cases o
 rename_i L2 z;rw[E];obtain⟨rec,q1,Y,U,q4⟩:=NA g.rel t<|g.at hp;have W:=q4 .busy l1.pend;refine⟨_,run_beginRound q1<|Y.trans G,?_⟩;have q:Ext s x.h K s (x.h.put b<|.loop { l1 with st:=.busy }) (K.putObj k<|.loop { rec with state:=.busy }):=by
  have:({ rec with state:=.busy }:Loop)={ rec with state:=.busy,pending:=l1.pend }:=by rw[<-U]
  rw[this];exact W
 have ex:=g.trans q;refine(LY (k:=some k) (n:=0) O d T D false ls.body (fun e=>by cases e) z s a1 _ _ q.rel (N.ext ex) A B ⟨m,g.at hp⟩ fun y hy J a2 w2 X c hd2=>?_).1;obtain⟨L3,t1,t2⟩:=Jr o y hy;split at t1
 case h_2=>cases t1
 rename_i l3 u;obtain⟨M,s1,s2,s3,s4⟩:=NA c.rel u<|c.at (g.at hp);cases j:y.e with
 |normal=>
  simp only[j,ze]at t1;subst t1;exact⟨_,_,run_endRound none s1,.bool true,_,.bool true,J,I _<|t2 _<|zf.2 rfl,rfl,by simp[Ac],ex.trans<|c.trans<|s4 .ready none⟩
 |ret=>
  simp only[j,ze]at t1;subst t1;exact⟨_,_,run_endRound (some .ret) s1,.bool false,_,.bool false,J,I _<|t2 _<|zf.2 rfl,rfl,by simp[Ac],ex.trans<|c.trans<|s4 .done<|some .ret⟩
 |exit i=>
  simp only[j,ze]at t1;subst t1;exact⟨_,_,run_endRound (some<|.exit i) s1,.bool false,_,.bool false,J,I _<|t2 _<|zf.2 rfl,rfl,by simp[Ac],ex.trans<|c.trans<|s4 .done<|some<|.exit i⟩
def G0(C:Ctx):Prop:=∀f i,C.fn f=some i->i.cert=true->DS i.body=true
theorem I1(s:C.Ok P)(t:G0 C)(z:P.follows .mixedOrders=true):∀n,(Bl C n).Ok C P
 |0=>⟨fun f args h l c=>(by cases c),fun b ls fr h l c=>(by cases c)⟩
 |n+1=>by
  refine⟨fun f args h l c p w args' hr y O=>?_,fun b ls fr h l c p w k m f tmps hr y hb hp hf=>R1 s (I1 s t z n) z c hr y hp hf⟩;unfold Bl at c;simp only at c;split at c
  case h_1=>
   rename_i q hq;split at c
   case h_2=>cases c
   rename_i x J;cases c;refine(s.spec f q hq p h w args args' x.1 x.2 hr y O J).mono ?_;rintro e w' ⟨v',p',rfl,o,I⟩;exact⟨x.1,x.2,v',p',zf.2 rfl,rfl,o,I⟩
  case h_2=>
   split at c
   case h_1=>cases c
   rename_i i N;split at c
   case h_1=>cases c
   rename_i L hL;split at c
   case h_2=>cases c
   rename_i lr K;cases c;refine Calls.mono ?_ (fun e w' M=>(show G5 p h w (bif C.mg then OE h.nx lr else lr) e w' from by cases C.mg with|true=>exact G5.merge M|false=>exact M));have c:=K;generalize lr=l at c;obtain⟨fn,r,U,Z,h4,Y⟩:=s.fn f i N;have W:=t f i N;refine callsIn_wide.1<|callsIn_of_wp_marks (F:=yi) (n:=0) r Z trivial ?_;rw[h4];refine(LY (k:=none) (n:=0) s (I1 s t z n) z n i.cert i.body W hL p _ w _ hr y (jS O i.ntmps) rfl trivial fun x J R a1 X D u E=>?_).1;obtain⟨L1,o,I⟩:=Jr c x J;have fin:∀ {r:H} {v:V},Gg x.ds x.h=some r->PJ C x.fr r i.results.toList=some v->L1=[(v,r)]->LeavesInM yi 0 P fn a1.tmps (G5 p h w l) a1.defers .returning X:=by
    intro r v g d B;subst B;obtain⟨w2,q1,q2⟩:=Si (P:=P) (fn:=fn) (tmps:=a1.tmps) (n:=0) E u.rel g;obtain⟨v',s1,s2⟩:=tZ (P:=P) (fn:=fn) s.T q1.rel (D.ext q1) (by rw[Y];exact d);exact q2 _ ⟨v',s1,v,r,v',R,I _<|zf.2 rfl,rfl,s2,u.trans q1⟩
   split at o
   case h_1=>cases o
   case h_2=>
    rename_i A;split at o
    case h_2=>cases o
    rename_i U g;split at o
    case h_2=>cases o
    rename_i v d;cases o;cases G:x.e with
    |normal=>exact fin g d rfl
    |ret=>exact fin g d rfl
    |exit j=>exact wh G<|A j
end
def iT(P:Program)(t:TypeId):Option TI:=
 match P.info? t with
 |some i=>match i.zero with
  |some z=>match cv z with
   |some v=>some ⟨i.size,i.bytes,v⟩
   |none=>none
  |none=>none
 |none=>none
theorem qA{P:Program}{t:TypeId}{i:TI}(h:iT P t=some i):∃j v,P.info? t=some j/\j.size=i.size/\j.bytes=i.bytes/\j.zero=some v/\∀p,Ac p i.zv v:=by
 unfold iT at h;split at h
 case h_2=>cases h
 rename_i j e;split at h
 case h_2=>cases h
 rename_i z d;split at h
 case h_2=>cases h
 rename_i v c;cases h;exact⟨j,z,e,rfl,rfl,d,fun p=>W3 p c⟩
def qT(P:Program)(t:TypeId):Option FK:=
 match P.underlying t with
 |some (.int k)=>some<|.int k
 |some .string=>some .str
 |some .bool=>some .bool
 |_=>none
def P6(P:Program):List Field->Nat->Option (List FK)
 |[],_=>some []
 | f :: fs, i => if f.name = "_" \/ f.offset ≠ i then none else match qT P f.type, P6 P fs (i + 1) with
  |some k,some ks=>some (k::ks)
  |_,_=>none
def WN(P:Program)(t:TypeId):Option (List FK):=
 match P.underlying t with
 |some (.struct fs)=>if P.stoodInHeld t=true\/P.eqGuardType P.depth t=true then none else P6 P fs.toList 0
 |_=>none
def jN:TypeDesc->Bool
 | .pointer _=>false
 |_=>true
def fY(P:Program)(t:TypeId)(name:String):Option FuncId:=
 match P.info? t,P.underlying t with
 |some j,some d=>match j.methods.find? (·.name==name)with
  |some m=>match m.path,m.func with
   |⟨[]⟩,some (f,false)=>bif jN d then some f else none
   |_,_=>none
  |none=>none
 |_,_=>none
theorem iM{P:Program}{t:TypeId}{name:String}{f:FuncId}(h:fY P t name=some f):∃j m d,P.info? t=some j/\j.methods.find? (·.name==name)=some m/\m.path= #[]/\m.func=some (f,false)/\P.underlying t=some d/\∀e,d≠ .pointer e:=by
 unfold fY at h;split at h
 case h_2=>cases h
 rename_i j d o c;split at h
 case h_2=>cases h
 rename_i m q;split at h
 case h_2=>cases h
 rename_i r g i;cases hp:jN d with
 |false=>rw[hp]at h;cases h
 |true=>
  rw[hp]at h;simp only[we,ze]at h;subst h;exact⟨j,m,d,o,q,g,i,c,fun e l=>by subst l;cases hp⟩
def Aah(P:Program):Cc:=⟨P.underlying,iT P,WN P,fY P⟩
section
variable {P:Program}{p:Pl}
theorem Pz{t:TypeId}{k:FK}(h:qT P t=some k):∃d,P.underlying t=some d/\Eb d=false/\(∀f,d≠ .interface f)/\match k with
  | .int k=>d=.int k
  | .str=>d=.string
  | .bool=>d=.bool:=by
 unfold qT at h;split at h
 case h_1=>rename_i c;cases h;exact⟨_,c,rfl,fun _ e=>(by cases e),rfl⟩
 case h_2=>rename_i c;cases h;exact⟨_,c,rfl,fun _ e=>(by cases e),rfl⟩
 case h_3=>rename_i c;cases h;exact⟨_,c,rfl,fun _ e=>(by cases e),rfl⟩
 case h_4=>cases h
theorem Qj{t:TypeId}{d:TypeDesc}(g:P.underlying t=some d)(f:Eb d=false){cs:Array Value}{i:Nat}{v:Value}(e:cs[i]?=some v)(w:World):(part t cs i).run P w=.ok v w:=by
 unfold part isAgg;have c:(underlying t).run P w=.ok d w:=by unfold underlying;simp[g]
 simp only[zj,c,zh];cases d<;>first|(cases f;done)|simp[e]
theorem YR{t:TypeId}{k:FK}(h:qT P t=some k){a b:V}{o b':Value}(g:k.ok a=true)(f:k.ok b=true)(c:Ac p a o)(e:Ac p b b'){r:Bool}(i:D2 a b=some r)(d:Nat)(w:World):
  (Op.equalIn (d+1) t o b').run P w=.ok r w:=by
 obtain⟨D,l,_,_,j⟩:=Pz h;cases k with
 |int k=>
  simp only at j;subst j;cases a<;>simp only[FK.ok]at g<;>try (cases g;done)
  cases b<;>simp only[FK.ok]at f<;>try (cases f;done)
  simp only[Ac]at c e;subst c e;simp at g f;subst g f;simp[D2]at i;rw[run_equalIn_int w d t _ _ _ _ l,i]
 |str=>
  simp only at j;subst j;cases a<;>simp only[FK.ok]at g<;>try (cases g;done)
  cases b<;>simp only[FK.ok]at f<;>try (cases f;done)
  simp only[Ac]at c e;subst c e;simp only[D2,ze]at i;rw[run_equalIn_string w d t _ _ l,Gw,Gw,i]
 |bool=>
  simp only at j;subst j;cases a<;>simp only[FK.ok]at g<;>try (cases g;done)
  cases b<;>simp only[FK.ok]at f<;>try (cases f;done)
  simp only[Ac]at c e;subst c e;simp only[D2,ze]at i;rw[run_equalIn_bool' w d t _ _ l,i]
theorem TU:∀ {ks:List FK} {x:List V},fit ks x=true->ks.length=x.length
 |[],[],_=>rfl
 |[],_::_,h=>by simp[fit]at h
 |_::_,[],h=>by simp[fit]at h
 |k::ks,v::vs,h=>by
  unfold fit at h;cases c:k.ok v with
  |false=>simp[c]at h
  |true=>simp only[c,we]at h;simp[TU h]
theorem Lp(d:Nat){w:World}{x' y':Array Value}:∀ {fs:List Field} {i:Nat} {ks:List FK},P6 P fs i=some ks->∀ {x y:List V} {u v:List Value},fit ks x=true->fit ks y=true->Av p x u->Av p y v->
  (∀j a,u[j]?=some a->x'[i+j]?=some a)->(∀j a,v[j]?=some a->y'[i+j]?=some a)->∀ {r:Bool},B6 x y=some r->(Op.eqFields (d+1) x' y' fs).run P w=.ok r w
 |[],i,ks,g,x,y,u,v,s,t,_,_,_,_,r,l=>by
  cases g;cases x with
  |cons _ _=>simp[fit]at s
  |nil=>cases y with
   |cons _ _=>simp[fit]at t
   |nil=>simp[B6]at l;subst l;simp[Op.eqFields]
 |f::fs,i,ks,g,x,y,u,v,s,t,U,W,O,T,r,l=>by
  unfold P6 at g;split at g
  case isTrue=>cases g
  rename_i B;have G : f.name ≠ "_" := fun e => B (.inl e)
  have A:f.offset=i:=z8 fun e=>B (.inr e)
  split at g
  case h_2=>cases g
  rename_i k z J Y;cases g;cases x with
  |nil=>simp[fit]at s
  |cons a x=>cases y with
   |nil=>simp[fit]at t
   |cons b y=>
    simp only[Av]at U W;obtain⟨X,u',rfl,E,K⟩:=U;obtain⟨b',v',rfl,hv1,hv2⟩:=W;have N:k.ok a=true:=by unfold fit at s;cases g:k.ok a with|false=>simp[g]at s|true=>rfl
    have M:k.ok b=true:=by unfold fit at t;cases g:k.ok b with|false=>simp[g]at t|true=>rfl
    have fx:fit z x=true:=by unfold fit at s;rw[N]at s;exact s
    have Z:fit z y=true:=by unfold fit at t;rw[M]at t;exact t
    obtain⟨D,o,q,_,_⟩:=Pz J;have R:=Qj o q (O 0 X rfl) w;have pb:=Qj o q (T 0 b' rfl) w;simp only[y8]at R pb;simp only[Op.eqFields,G,wm,not_false_eq_true,wk,zj,A,R,pb,zh];unfold B6 at l;split at l
    case h_1=>
     rename_i L;rw[YR J N M E hv1 L];simp only[zh,Bool.not_true,zu,vg];exact Lp d Y fx Z K hv2 (fun j c I=>by have:=O (j+1) c (by simpa using I);rwa [show i+1+j=i+(j+1)from by omega]) (fun j c I=>by have:=T (j+1) c (by simpa using I);rwa [show i+1+j=i+(j+1)from by omega]) l
    case h_2=>
     rename_i L;rw[YR J N M E hv1 L];split at l
     ·cases l;simp
     ·cases l
    case h_3=>cases l
theorem Kg{b:Bool}{w:World}{x':Array Value}:∀ {fs:List Field} {i:Nat} {ks:List FK},P6 P fs i=some ks->∀ {x:List V} {u:List Value},fit ks x=true->Av p x u->
  (∀j a,u[j]?=some a->x'[i+j]?=some a)->
  (forIn (m := Sem) fs PUnit.unit fun f _ => if f.name ≠ "_" then do
    yj b 9999 f.type (<-part f.type x' f.offset)
    pure (ForInStep.yield yx)
   else do
    pure yx
    pure (ForInStep.yield yx)).run P w=.ok yx w
 |[],i,ks,d,x,u,q,_,_=>by simp
 |f::fs,i,ks,d,x,u,q,J,G=>by
  unfold P6 at d;split at d
  case isTrue=>cases d
  rename_i s;have t : f.name ≠ "_" := fun e => s (.inl e)
  have r:f.offset=i:=z8 fun e=>s (.inr e)
  split at d
  case h_2=>cases d
  rename_i k y N L;cases d;cases x with
  |nil=>simp[fit]at q
  |cons a x=>
   simp only[Av]at J;obtain⟨E,U,rfl,T,z⟩:=J;have R:k.ok a=true:=by unfold fit at q;cases d:k.ok a with|false=>simp[d]at q|true=>rfl
   have O:fit y x=true:=by unfold fit at q;rw[R]at q;exact q
   obtain⟨D,g,l,A,_⟩:=Pz N;have I:=Qj g l (G 0 E rfl) w;simp only[y8]at I;have B:(yj b 9999 f.type E).run P w=.ok () w:=by
    unfold yj;have o:(underlying f.type).run P w=.ok D w:=by unfold underlying;simp[g]
    simp only[zj,o,zh];cases D<;>first|rfl|(cases l;done)|exact wh rfl (A _)
   have K:=Kg (b:=b) (w:=w) (x':=x') L O z (fun j c M=>by have:=G (j+1) c (by simpa using M);rwa [show i+1+j=i+(j+1)from by omega]);simp only[List.forIn_cons,t,wm,not_false_eq_true,wk,zj,r,I,B,zh,zn]at K ⊢;exact K
theorem Ab9(P:Program):(Aah P).Ok P:=by
 have key:∀t ks,WN P t=some ks->∃fs,P.underlying t=some (.struct fs)/\P.stoodInHeld t=false/\P.eqGuardType P.depth t=false/\P6 P fs.toList 0=some ks:=by
  intro t ks h;unfold WN at h;split at h
  case h_2=>cases h
  rename_i fs c;split at h
  case isTrue=>cases h
  rename_i o;refine⟨fs,c,?_,?_,h⟩
  ·cases s:P.stoodInHeld t with
   |false=>rfl
   |true=>exact wh (.inl s) o
  ·cases s:P.eqGuardType P.depth t with
   |false=>rfl
   |true=>exact wh (.inr s) o
 refine⟨fun t d h=>h,fun t i h=>qA h,?_,?_,?_,?_,fun t name f h=>iM h⟩
 ·intro t ks h p x y x' y' r w A D B G E;obtain⟨fs,c,z,u,q⟩:=key t ks h;have l:P.fieldsOf t=fs:=by unfold Program.fieldsOf;rw[c]
  unfold Op.equal Op.maxDepth;rw[run_equalIn_struct w 9999 t x' y' (by rw[l];exact c) z,l];exact Lp 9998 q A D B G (fun j a g=>by simpa using g) (fun j a g=>by simpa using g) E
 ·intro t ks h;obtain⟨fs,c,z,u,q⟩:=key t ks h;exact u
 ·intro t ks h p x x' b w A B;obtain⟨fs,c,z,u,q⟩:=key t ks h;unfold yj;have e:(underlying t).run P w=.ok (.struct fs) w:=by unfold underlying;simp[c]
  simp only[zj,e,zh];rw[<-Array.forIn_toList];have:=Kg (b:=b) (w:=w) (x':=x') q A B (fun j a g=>by simpa using g);simp only[this,zh,zn]
 ·intro t ks h;obtain⟨fs,c,_⟩:=key t ks h;exact⟨fs,c⟩
end
def Q7(P:Program)(ct:FuncId->Bool)(f:FuncId):Option Fn:=
 match P.funcs[f]? with
 |some fn=>match fn.body with
  | some b => if fn.name = "runtime.NumGoroutine" then none else some ⟨fn.ntmps, fn.results, b, ct f⟩
  |none=>none
 |none=>none
theorem qR {P : Program} {ct : FuncId -> Bool} {f : FuncId} {i : Fn} (h : Q7 P ct f = some i) : ∃ fn, P.funcs[f]? = some fn /\ fn.name ≠ "runtime.NumGoroutine" /\ fn.body = some i.body /\ fn.ntmps = i.ntmps /\ fn.results = i.results := by
 unfold Q7 at h;split at h
 case h_2=>cases h
 rename_i fn c;split at h
 case h_2=>cases h
 rename_i b d;split at h
 case isTrue=>cases h
 rename_i e;cases h;exact⟨fn,c,e,d,rfl,rfl⟩
inductive PK where
 |indexByte
 |add64
 |sub64
 |count
 |noEsc
def Pf:Array Value->Sem Value:=fun args=>do
 let (x, y, b) <- Extern.MathBitsCarry.three "Sub64" args
 pure (ya ((x+zr-y-b) % zr) (if x<y+b then 1 else 0))
def PK.entry:PK->Array Value->Sem Value
 | .indexByte=>Extern.BytealgIndexByte.indexByte
 | .add64=>add64Entry
 | .sub64=>Pf
 | .count=>Extern.BytealgCount.count
 | .noEsc=>Extern.AbiNoEscape.same
def UX:Option Nat->V
 |some i=>i64 i
 |none=>.int .i64<| -1
def fG:Nat:=18446744073709551616
def PK.run:PK->List V->H->Option (V×H)
 | .indexByte,[.str s,.int .u8 c],h=>some (UX<|s.findIdx? fun x=>x==c.toNat.toUInt8,h)
 | .add64,[.int .u64<|.ofNat x,.int .u64<|.ofNat y,.int .u64<|.ofNat c],h=>
  bif yy c 1 then some (.tup [.int .u64<|.ofNat<|(x+y+c) % fG,.int .u64<|.ofNat<|(x+y+c)/fG],h)else none
 | .sub64,[.int .u64<|.ofNat x,.int .u64<|.ofNat y,.int .u64<|.ofNat c],h=>
  bif yy c 1 then some (.tup [.int .u64<|.ofNat<|(x+fG-y-c) % fG,.int .u64<|.ofNat<|bif zz x (y+c)then 1 else 0],h)else none
 | .count,[.str s,.int .u8 c],h=>some (.int .i64 (s.foldl (fun n x=>bif x==c.toNat.toUInt8 then Nat.add n 1 else n) 0:Nat),h)
 | .noEsc,[.ptr b o],h=>some (.ptr b o,h)
 |_,_,_=>none
theorem Ra(s:Z)(c:UInt8):((zq (bytesOf s).size).find? fun i=>(bytesOf s)[i]! ==c)=s.findIdx? fun x=>x==c:=by
 have key:∀(l pre:Z),pre++l=s->((List.range' pre.length l.length).find? fun i=>(bytesOf s)[i]! ==c)=(l.findIdx? fun x=>x==c).map (· +pre.length):=by
  intro l;induction l with
  |nil=>intro pre _;simp
  |cons a l f=>
   intro pre hp;have d:(bytesOf s)[pre.length]! =a:=by
    subst hp;rw[getElem!_pos _ _<|by simp[BK]];simp[bytesOf,ByteArray.getElem_eq_getElem_data]
   rw[zt,List.range'_succ,List.find?_cons,d,List.findIdx?_cons];cases e:a==c with
   |true=>simp
   |false=>
    have:=f (pre++[a]) (by simpa using hp);simp only[List.length_append,List.length_singleton]at this;simp only[this,zu,vg,Option.map_map];congr 1;funext k;simp;omega
 have:=key s [] rfl;simp only[List.length_nil,y8]at this;rw[List.range_eq_range',BK,this];simp
theorem Av.three{p:Pl}{a b c:V}{l:List Value}(h:Av p [a,b,c] l):∃x y z,l=[x,y,z]/\Ac p a x/\Ac p b y/\Ac p c z:=by
 simp only[Av]at h;obtain⟨x,l1,rfl,e,y,g,rfl,d,z,i,rfl,f,rfl⟩:=h;exact⟨x,y,z,rfl,e,d,f⟩
theorem PK.sim{P:Program}{k:PK}{p:Pl}{h:H}{w:World}{args:List V}{args':Array Value}{v:V}{h':H}(j:Av p args args'.toList)(d:k.run args h=some (v,h')):
  h'=h/\∃v',(k.entry args').run P w=.ok v' w/\Ac p v v':=by
 unfold PK.run at d;split at d
 case h_6=>cases d
 case h_5=>
  rename_i b o;cases d;obtain⟨x,g,e⟩:=j.one;have:args'= #[x]:=z6.1 g;subst this;exact⟨rfl,x,Lib.run_noEscape w x,e⟩
 case h_1=>
  rename_i s c;cases d;obtain⟨x,y,g,e,f⟩:=j.two;have:args'= #[x,y]:=z6.1 g;subst this;simp only[Ac]at e f;subst e f;refine⟨rfl,_,run_indexByte_string (bytesOf s) c w,?_⟩;unfold firstIdx;rw[Ra];cases s.findIdx? fun x=>x==c.toNat.toUInt8<;>simp[UX,i64,Ac]
 case h_2=>
  rename_i x y c;rw[show yy c 1=decide (c<=1)from by rw[Bool.eq_iff_iff];simp]at d;by_cases i:c<=1
  ·simp only[i,decide_true,we,ze,zl]at d;obtain⟨rfl,rfl⟩:=d;obtain⟨x',y',z',g,e,f,h3⟩:=j.three;have:args'= #[x',y',z']:=z6.1 g;subst this;simp only[Ac]at e f h3;subst e f h3;refine⟨rfl,_,run_add64 x y c (by omega) (by omega) (by omega) (by omega) w,?_⟩;simp only[Ac];refine⟨_,rfl,?_⟩;simp only[Bi,Hg,ve,Ac];exact⟨by simp[fG],by simp[fG]⟩
  ·simp[i]at d
 case h_3=>
  rename_i x y c;rw[show yy c 1=decide (c<=1)from by rw[Bool.eq_iff_iff];simp]at d;by_cases i:c<=1
  ·simp only[i,decide_true,we,ze,zl]at d;obtain⟨rfl,rfl⟩:=d;obtain⟨x',y',z',g,e,f,h3⟩:=j.three;have:args'= #[x',y',z']:=z6.1 g;subst this;simp only[Ac]at e f h3;subst e f h3;have key:(Pf #[.int .u64 x,.int .u64 y,.int .u64 c]).run P w=
     .ok (ya ((x+zr-y-c) % zr)<|if x<y+c then 1 else 0) w:=by
    have:c=0\/c=1:=by omega
    rcases this with rfl|rfl<;>rfl
   refine⟨rfl,_,key,?_⟩;simp only[Ac,ya];refine⟨_,rfl,?_⟩;simp only[Bi,Hg,ve,Ac];refine⟨rfl,?_⟩;rw[Hx];by_cases q:x<y+c<;>simp[q]
  ·simp[i]at d
 case h_4=>
  rename_i s c;cases d;obtain⟨x,y,g,e,f⟩:=j.two;have:args'= #[x,y]:=z6.1 g;subst this;simp only[Ac]at e f;subst e f;refine⟨rfl,_,Lib.run_countString (bytesOf s) c w,?_⟩;have key:∀(l:Z) (n:Nat),l.foldl (fun n x=>bif x==c.toNat.toUInt8 then Nat.add n 1 else n) n=n+Lib.countByte l c.toNat.toUInt8:=by
   intro l;induction l with
   |nil=>intro n;simp[Lib.countByte]
   |cons x l r=>
    intro n;rw[List.foldl_cons,r];unfold Lib.countByte;rw[List.count_cons];cases t:x==c.toNat.toUInt8 with
    |true=>simp only[we,wk];show n+1+_=_;omega
    |false=>simp
  simp only[Ac,key,Nat.zero_add];simp[bytesOf]
def Su(L:List (FuncId×PK))(f:FuncId):Option (List V->H->Option (V×H)):=
 match L with
 |[]=>none
 |(g,k)::L=>bif zi g f then some k.run else Su L f
structure KJ(P:Program)(x:FuncId×PK):Prop where
 ok : ∃ fn, P.funcs[x.1]? = some fn /\ (fn.name == "runtime.NumGoroutine") = false /\ fn.body.isNone = true /\ Extern.findNext fn = none /\ Extern.find fn = some x.2.entry
theorem YZ{P:Program}:∀ {L:List (FuncId×PK)},(∀x∈L,KJ P x)->∀f q,Su L f=some q->∀(p:Pl) (h:H) (w:World) (args:List V) (args':Array Value) v h',R p h w->Av p args args'.toList->q args h=some (v,h')->
  ∃v' p' w',(callFunc f args').run P w=.ok (.value v') w'/\Ac p' v v'/\Ext p h w p' h' w'
 |[],_,f,q,c,_,_,_,_,_,_,_,_,_,_=>by cases c
 |(g,k)::L,j,f,q,c,p,h,w,args,args',v,h',hr,i,d=>by
  unfold Su at c;rw[Bt]at c;by_cases e:g=f
  ·subst e;simp only[decide_true,we,ze]at c;subst c;obtain⟨fn,r,l,s,t,o⟩:=(j (g,k)<|by simp).ok;obtain⟨rfl,v',g1,g2⟩:=PK.sim (P:=P) (w:=w) i d;refine⟨v',p,w,?_,g2,yh hr⟩;rw[run_callFunc_extern r l s t o,g1];rfl
  ·simp only[e,decide_false,wg]at c;exact YZ (fun x u=>j x<|by simp[u]) f q c p h w args args' v h' hr i d
def Ad2:Option (List<|V×H)->Option V
 |some [(v,_)]=>some v
 |_=>none
def Zy(C:Ctx)(n:Nat)(f:FuncId)(args:List V)(v:V):Bool:=match Ad2 (Bl C n (.fn f args) hG)with
 |some x=>V.beq x v
 |none=>false
theorem Yb{C C':Ctx}{P:Program}(N:C.Ok P)(A:G0 C)(U:P.follows .mixedOrders=true){n:Nat}{f:FuncId}{args:List V}{v:V}
  (s:Zy C n f args v=true) (O:V.Jh args=true) (z:v.flat=true) {p:Pl} {h:H} {w:World} {args':Array Value} (hr:R p h w) (q:Gl C' p) (L:Gh h) (d:Av p args args'.toList):
  Calls P f args' w fun e w'=>∃v' p',e=.returned v'/\Ac p' v v'/\Ext p h w p' h w':=by
 unfold Zy at s;split at s
 case h_2=>cases s
 rename_i x t;have B:x=v:=V.beq_eq s;subst B;unfold Ad2 at t;split at t
 case h_2=>cases t
 rename_i l D G;cases t;have q:Gp p:=q;refine((I1 N A U n).fn f args hG _ G _ w args' (Aa8 hr q L) q.take<|V.JG O d).mono ?_;rintro e w' ⟨u,h',v',p',j,rfl,I,i⟩;cases zf.1 j;have g:∀r,r<w.heap.size->w'.heap[r]?=w.heap[r]?:=fun r hr=>i.GC q.take r hr
 refine⟨v',p,rfl,V.De z I,⟨⟨[],by simp⟩,⟨hr.len,fun b o M=>?_,hr.inj⟩,i.size,fun r c _=>g r c,fun r K=>.inl K,i.os,i.out,i.tape,fun r c D=>⟨g r c,.inl D⟩⟩⟩;obtain⟨r,m,y,T,E,J⟩:=hr.obj b o M;exact⟨r,m,y,T,by rw[g r (zc.1 E).1];exact E,J⟩
def uL(h:H):List (Nat×O)->Bool
 |[]=>true
 |(i,o)::l=>Sn (h.get i) (some o)&&uL h l
theorem Zl{h:H}:∀ {l:List (Nat×O)},uL h l=true->∀x∈l,h.get x.1=some x.2
 |[],_,x,c=>by cases c
 |(i,o)::l,d,x,c=>by
  simp only[uL,zd]at d;rcases yw.1 c with rfl|c
  ·have:=d.1;cases e:h.get i with
   |none=>rw[e]at this;simp[Sn]at this
   |some q=>rw[e]at this;rw[Yy (a:=q) (b:=o)<|by simpa [Sn]using this]
  ·exact Zl d.2 x c
def goS:List (Nat×O)->Bool
 |[]=>true
 |(_,o)::l=>Sn (some o) (some o)&&goS l
theorem cJ:goS GC=true:=by kernel_rfl
theorem Abt{h:H}(f:Gh h):uL h GC=true:=by
 have key:∀l:List (Nat×O),(∀x∈l,h.get x.1=some x.2)->goS l=true->uL h l=true:=by
  intro l;induction l with
  |nil=>exact fun _ _=>rfl
  |cons x l g=>
   intro d c;simp only[goS,zd]at c;simp only[uL,zd];exact⟨by rw[d x List.mem_cons_self];exact c.1,g (fun y e=>d y<|List.mem_cons_of_mem _ e) c.2⟩
 exact key GC f cJ
abbrev CX:=List<|FuncId×List V×V
def I9:CX->FuncId->List V->Option V
 |[],_,_=>none
 |(g,a,v)::l,f,args=>bif zi g f&&V.Lq a args then some v else I9 l f args
def SF:CX->FuncId->Bool
 |[],_=>false
 |(g,_,_)::l,f=>bif zi g f then true else SF l f
def KM(L:CX)(f:FuncId):Option (List V->H->Option (V×H)):=
 bif SF L f then some (fun args h=>bif uL h GC then(match I9 L f args with|some v=>some (v,h)|none=>none)else none)else none
def A3(C:Ctx)(n:Nat):CX->Bool
 |[]=>true
 |(f,a,v)::l=>Zy C n f a v&&V.Jh a&&v.flat&&A3 C n l
theorem dP{L:CX}{f:FuncId}{args:List V}{v:V}(h:I9 L f args=some v){C:Ctx}{n:Nat}(d:A3 C n L=true):Zy C n f args v=true/\V.Jh args=true/\v.flat=true:=by
 induction L with
 |nil=>cases h
 |cons x l j=>
  obtain⟨g,a,u⟩:=x;simp only[A3,zd]at d;unfold I9 at h;cases c:(zi g f&&V.Lq a args)with
  |false=>rw[c]at h;exact j h d.2
  |true=>
   rw[c]at h;cases h;simp only[zd]at c;have e:g=f:=zg c.1;have i:a=args:=V.HG c.2;subst e;subst i;exact⟨d.1.1.1,d.1.1.2,d.1.2⟩
theorem wN{C C':Ctx}{P:Program}(s:C.Ok P)(j:G0 C)(A:P.follows .mixedOrders=true){n:Nat}{L:CX}(x:A3 C n L=true):
  ∀f q,KM L f=some q->∀(p:Pl) (h:H) (w:World) (args:List V) (args':Array Value) v h',R p h w->Gl C' p->Av p args args'.toList->q args h=some (v,h')->
  Calls P f args' w fun e w'=>∃v' p',e=.returned v'/\Ac p' v v'/\Ext p h w p' h' w':=by
 intro f q i p h w args args' v h' hr r g c;unfold KM at i;cases l:SF L f with
 |false=>rw[l]at i;cases i
 |true=>
  rw[l]at i;cases i;simp only at c;cases d:uL h GC with
  |false=>rw[d]at c;cases c
  |true=>
  rw[d]at c;simp only[we]at c;split at c
  case h_2=>cases c
  rename_i u y;cases c;obtain⟨z,t,o⟩:=dP y x;exact Yb (C':=C') s j A z t o hr r (Zl d) g
end Go.Det
