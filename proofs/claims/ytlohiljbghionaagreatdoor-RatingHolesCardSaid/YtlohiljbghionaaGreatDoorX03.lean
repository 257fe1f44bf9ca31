import Derived.Test.YtlohiljbghionaaGreatDoorX02
import Derived.Laws.StructEq
import Derived.Lib.Bytealg
import Derived.Laws.Externs
/- A part of a proof; no law is stated here. -/
noncomputable section
open Array renaming getElem?_eq_some_iff -> zc, getD_eq_getD_getElem? -> zk, toList_inj -> z6, getElem?_push -> yb, getElem?_eq_getElem -> yk, replicate -> yr
open Bool renaming and_eq_true -> zd, or_eq_true -> zp, false_eq_true -> zu, not_eq_true' -> zx
open Option.some renaming injEq -> ze
open List renaming mem_singleton -> zf, all_eq_true -> zm, range -> zq, length_cons -> zt, mem_zipIdx_iff_getElem? -> zw, getD_eq_getElem?_getD -> zy, getElem?_append_left -> z7, any_eq_true -> ye, getElem?_eq_getElem -> yn, mem_range -> yv, mem_cons -> yw, mem_map -> y7
open Nat renaming eq_of_beq_eq_true -> zg, beq -> zi, le_refl -> zo, blt -> zz, blt_eq -> yp, lt_or_ge -> yq, ble -> yy, le_of_lt -> yz, add_zero -> y8
open Go.Result renaming andThen_ok -> zh
open Go.Sem renaming run_bind -> zj, run_pure -> zn
open Prod.mk renaming injEq -> zl
open Go.Extern.MathBitsCarry renaming m64 -> zr, pair -> ya
open Classical renaming byContradiction -> z8
open Go.Oper renaming semAt_eq -> yc, uponIn_value -> yd
open Go.Region renaming binds -> yf, ready -> yg
open Go.Det.Ext renaming refl -> yh
open Go.Fence renaming wide -> yi
open Go.Instr renaming checkKey -> yj
open Option renaming isSome_iff_exists -> ym, getD_some -> yo
open Go.Op renaming operands -> yt
open Go.Code renaming region -> yu
open PUnit renaming unit -> yx
namespace Go.Det
section
variable {C:Ctx}{P:Program}{p:Pl}{h:H}{w:World}{fr:Fr}{a:Act}
def XC(T:Ce)(t:TypeId)(len:Nat)(c:List (Nat×V)):Option (List V×TypeId):=
 match T.und t with
 |some (.slice e)=>match T.inf e with
  |some i=>
   bif yy (len*i.size) 16777216&&zz 0 (i.zero.length)&&zi i.zero.length i.size then
    (IX (fun k=>some (k*i.size,i.size)) (Fy i.zero<|len*i.size) c).map fun cs=>(cs,e)
   else none
  |none=>none
 |_=>none
def fI(C:Ctx)(fr:Fr)(o:Oper):Option (O×(Nat->V)):=
 match o.op with
 | .alloc t=>match C.T.inf t with
  |some i=>some (.cells i.zero t (0,0),fun b=>.ptr b 0)
  |none=>none
 | .box t x=>match ev C fr x with
  |some v=>some (.cells v.cells t (0,0),fun b=>.ptr b 0)
  |none=>none
 | .buildSlice t n c=>match XE C fr c.toList with
  |some ps=>match XC C.T t n ps with
   |some (cs,e)=>some (.cells cs e (0,0),fun b=>.sl b 0 n n 0)
   |none=>none
  |none=>none
 |_=>none
theorem jT{o:Oper}{r:O×(Nat->V)}(c:fI C fr o=some r):CH o=true:=by
 unfold fI at c;unfold CH;split at c<;>simp_all
theorem Acd(E:C.Ok P)(R:Gl C p){ops:Array Oper}{o:Oper}(hf:FOn p fr a (reads ops o)){ob:O}{f:Nat->V}(r:fI C fr o=some (ob,f)):
  ∃x n v',(execOp a.eval o).run P w=.ok (.value v') { w with heap:=w.heap.push x }/\Hl p n ob x/\∀(q:Pl) b,q[b]?=some (w.heap.size,n)->Ac q (f b) v':=by
 have B:∀cs b,o.op≠ .select cs b:=by
  intro cs b e;have:=jT r;simp[CH,e]at this
 have hE:∀(P:Program) (w:World),(execOp (IQ (reads ops o) a).eval o).run P w=(execOp a.eval o).run P w:=fun P w=>by rw[execOp_congr o B fun x s=>JA s]
 have U:=hf.Qf;have d:∀(t:TypeId) (cs:List V) (c:Array Value),Ax p cs c.toList->Hl p c.size (.cells cs t (0,0)) (.cells c t):=by
  intro t cs c s;refine⟨c,(0,0),rfl,rfl,by have:=s.length;simp at this;omega,?_,fun i _ G J=>⟨G,J⟩⟩;have:=s.length;rw[List.take_of_length_le<|by simp at this ⊢;omega];exact s.toC
 unfold fI at r;split at r
 case h_4=>cases r
 case h_1=>
  rename_i t u;split at r
  case h_2=>cases r
  rename_i i I;cases r;obtain⟨z,N,y⟩:=EH E.T I;refine⟨.cells z.cells t,_,.pointer<|some ⟨w.heap.size,0,none⟩,?_,d _ _ _<|y p,fun q b A=>by simp only[Ac];exact⟨_,_,A,rfl⟩⟩;unfold execOp;simp only[u];unfold Instr.alloc newVar;simp only[zj,N,zh,CD,zn]
 case h_2=>
  rename_i t x u;split at r
  case h_2=>cases r
  rename_i v X;cases r;have s:Ac p v (a.eval x):=by
   have:=Ba (C:=C) R U (x:=x) (v:=v) (by rw[Tn<|by simp[u,yt]];exact X);rwa [JA<|by simp[u,yt]]at this
  refine⟨.cells (a.eval x).cells t,_,.pointer<|some ⟨w.heap.size,0,none⟩,?_,d _ _ _ s.cells,fun q b A=>by simp only[Ac];exact⟨_,_,A,rfl⟩⟩;unfold execOp;simp only[u];unfold Instr.box newVar;simp only[zj,zh,CD,zn]
 case h_3=>
  rename_i t len g u;split at r
  case h_2=>cases r
  rename_i ps K;split at r
  case h_2=>cases r
  rename_i cs e l;cases r;have hp:V5 p ps (g.map fun(i,x)=>(i,a.eval x)).toList:=by
   have:=OV (C:=C) (fr:=Q2 (reads ops o) fr) R U (xs:=g.toList) (vs:=ps) (by
    rw[JM (fr':=fr) fun x s=>Tn<|by rw[u];simp[yt];exact⟨x.1,by simpa using s⟩];exact K)
   have W:(g.toList.map fun(i,x)=>(i,(IQ (reads ops o) a).eval x))=(g.map fun(i,x)=>(i,a.eval x)).toList:=by
    rw[Array.toList_map];apply List.map_congr_left;rintro⟨i,x⟩ hm;simp only;rw[JA<|by rw[u];simp[yt];exact⟨i,by simpa using hm⟩]
   rwa [W]at this
  unfold XC at l;split at l
  case h_2=>cases l
  rename_i Y hu;split at l
  case h_2=>cases l
  rename_i i I;cases j:(yy (len*i.size) 16777216&&zz 0 (i.zero.length)&&zi i.zero.length i.size)with
  |false=>simp[j]at l
  |true=>
   simp only[j,we,Option.map_eq_some_iff,zl]at l;obtain⟨cs',D,rfl,rfl⟩:=l;simp only[zd,Nat.ble_eq,yp,Bw,w5]at j;obtain⟨⟨c1,c2⟩,c3⟩:=j;obtain⟨z,N,y⟩:=EH E.T I;have L:=(y p).length;simp at L;obtain⟨oo,G,J⟩:=Lt (p:=p) (place:=fun k=>some (k*i.size,i.size)) hp (J5 (y p) c2<|len*i.size) D;refine⟨.cells oo Y,_,.slice (some ⟨w.heap.size,0,none⟩) len len,?_,d _ _ _ J,fun q b A=>by simp only[Ac];exact⟨_,_,len,A,rfl,zo _,zo _,fun _=>rfl,by simp⟩⟩;unfold execOp;simp only[u];unfold Instr.buildSlice;simp only[zj,AA E.T hu,zh,BE E.T I];rw[wc ae];by_cases h0:len*i.size=0
   ·rw[wd h0];simp only[zj,zn,zh];have Z:(Array.map (fun x=>(#[]:Array Value)[x % (#[]:Array Value).size]!)<|Array.range<|len*i.size)=Array.map (fun M=>z.cells[M % z.cells.size]!) (Array.range<|len*i.size):=by simp[h0]
    rw[Z,G];simp only[zj,CD,zh,zn]
   ·simp only[h0,vg,zj,N,zh,zn,G,CD]
theorem Ext.hZ{G p:Pl}{E h:H}{l w:World}(A:Ext G E l p h w){r n:Nat}{o:O}{x:Obj}(hx:w.heap[r]?=some x)(ho:Hl p n o x)(Y:¬Im p h r)(L:l.heap.size<=r):
  Ext G E l (p++[(r,n)]) (h.push o) w:=by
 have hr:=A.rel;have f:(p++[(r,n)])[h.nx]?=some (r,n):=by rw[<-hr.len];simp
 have d:∀b,b<h.nx->(p++[(r,n)])[b]?=p[b]?:=fun b hb=>z7 (by rw[hr.len];exact hb)
 have i:∀c g,(h.push o).get c=some g->(c=h.nx/\g=o)\/(c<h.nx/\h.get c=some g):=by
  intro c g z;rw[H.BV]at z;by_cases e:c=h.nx
  ·rw[wd e]at z;cases z;exact .inl ⟨e,rfl⟩
  ·rw[wc e]at z;exact .inr ⟨hr.lt z,z⟩
 refine⟨?_,⟨by simp[hr.len],fun c g z=>?_,fun c M g I s m Z z T u J=>?_⟩,A.size,A.same,fun s U=>?_,A.os,A.out,A.tape,fun s U hl=>?_⟩
 ·obtain⟨q,rfl⟩:=A.pre;exact⟨q++[(r,n)],by simp⟩
 ·rcases i c g z with⟨rfl,rfl⟩|⟨D,K⟩
  ·exact⟨r,n,x,f,hx,ho.mono _⟩
  ·obtain⟨s,m,y,B,j,X⟩:=hr.obj c g K;exact⟨s,m,y,by rw[d c D];exact B,j,X.mono _⟩
 ·rcases i c g z with⟨rfl,rfl⟩|⟨D,K⟩<;>rcases i M I T with⟨rfl,rfl⟩|⟨R,N⟩
  ·rfl
  ·rw[f]at u;cases u;rw[d M R]at J;exact wh ⟨M,I,Z,N,J⟩ Y
  ·rw[f]at J;cases J;rw[d c D]at u;exact wh ⟨c,g,m,K,u⟩ Y
  ·rw[d c D]at u;rw[d M R]at J;exact hr.inj c M g I s m Z K N u J
 ·obtain⟨c,g,m,B,j⟩:=U;rcases i c g B with⟨rfl,rfl⟩|⟨D,K⟩
  ·rw[f]at j;cases j;exact .inr L
  ·rw[d c D]at j;exact A.im s ⟨c,g,m,K,j⟩
 ·obtain⟨D,u⟩:=A.lock s U hl;refine⟨D,?_⟩;rcases u with⟨c,m,cs,t,fz,B,j,X⟩|u
  ·have W:=hr.lt B;exact .inl ⟨c,m,cs,t,fz,by rw[H.BV,wc ae];exact B,by rw[d c W];exact j,X⟩
  ·refine .inr ?_;rintro⟨c,g,m,B,j⟩;rcases i c g B with⟨rfl,rfl⟩|⟨R,N⟩
   ·rw[f]at j;cases j;omega
   ·rw[d c R]at j;exact u ⟨c,g,m,N,j⟩
theorem Ext.aside{e p:Pl}{d h:H}{f w:World}(c:Ext e d f p h w)(x:Obj):Ext e d f p h { w with heap:=w.heap.push x }:=by
 have hr:=c.rel;refine⟨c.pre,⟨hr.len,fun b o t=>?_,hr.inj⟩,by have:=c.size;simp;omega,fun r g l=>?_,c.im,c.os,c.out,c.tape,fun r g q=>?_⟩
 ·obtain⟨r,n,y,i,j,s⟩:=hr.obj b o t;have:=(zc.1 j).1;exact⟨r,n,y,i,by simp[yb,Nat.ne_of_lt this,j],s⟩
 ·have i:=c.same r g l;have:=c.size;simp only[yb];rw[wc ae];exact i
 ·obtain⟨i,j⟩:=c.lock r g q;have:=c.size;refine⟨?_,j⟩;simp only[yb];rw[wc ae];exact i
end
def DU(C:Ctx)(call:DO)(fr:Fr)(h:H)(o:Oper):Option (V×H):=
 match GN C fr h o with
 |some (.val v h')=>some (v,h')
 |some (.skip h')=>some (.tup [],h')
 |some (.enter f args)=>match call (.fn f args) h with
  |some [x]=>some x
  |_=>none
 |_=>none
def CY(o:Oper):Bool:= !EE o&& !CH o
structure Stat(ops:Array Oper)(anc:Nat->Nat->Bool)(ord pos:Nat->Nat)(sc:Nat->Option Nat):Prop where
 sel:Region.noSelect ops=true
 ordp:∀q,q<ops.size->ord q<ops.size/\pos (ord q)=q
 posp:∀i,i<ops.size->pos i<ops.size/\ord (pos i)=i
 edge:∀j i,anc j i=true->∃(o:Oper) (e:Edge),ops[j]?=some o/\e∈o.after/\yf .any e=true/\(e.on=i\/anc e.on i=true)
 dir:∀(j:Nat) (o:Oper) (e:Edge),ops[j]?=some o->e∈o.after->yf .any e=true->anc j e.on=true/\e.on<ops.size
 apos:∀j i,anc j i=true->pos i<pos j
 s1:∀(i j:Nat) (o o':Oper),ops[i]?=some o->ops[j]?=some o'->CY o=true->CY o'=true->i≠j->anc i j=true\/anc j i=true
 s2:∀(i j:Nat) (o o':Oper),ops[i]?=some o->ops[j]?=some o'->CY o=true->EE o'=true->anc j i=true\/pos j<pos i
 q1:∀(i k:Nat),sc i=some k->∃(o ok:Oper) (t:Tmp),ops[i]?=some o/\ops[k]?=some ok/\(o.op=.assign (.tmp t)\/o.op=.move (.tmp t))/\o.guard=none/\CH ok=true/\ok.dst=some t/\anc i k=true
 s3:∀(j k:Nat) (o o':Oper) (t:Tmp),ops[j]?=some o->ops[k]?=some o'->(CH o=true\/(sc j).isSome=true)->CY o'=false->o.dst=some t->t∈reads ops o'->anc k j=true->
  sc k=some j\/∃(i:Nat) (oi:Oper),ops[i]?=some oi/\CY oi=true/\anc i j=true/\anc k i=true
 s4:∀(i j:Nat) (o o':Oper),ops[i]?=some o->ops[j]?=some o'->CY o=true->CH o'=true->anc i j=true\/pos i<pos j
 s5:∀(i j:Nat) (o o':Oper),ops[i]?=some o->ops[j]?=some o'->EE o=true->Ps o=true->CH o'=true->pos j<pos i->∃(k:Nat) (ok:Oper),ops[k]?=some ok/\CY ok=true/\pos j<pos k/\pos k<pos i
 s6:∀(i j:Nat) (o o':Oper) (t:Tmp),ops[i]?=some o->ops[j]?=some o'->i≠j->o.dst=some t->o'.dst≠some t/\(t∈reads ops o'->anc j i=true\/anc i j=true)
structure Canon(C:Ctx)(call:DO)(ops:Array Oper)(anc:Nat->Nat->Bool)(ord pos:Nat->Nat)(fr0:Fr)(h0:H)(v:Nat->V)(Hh:Nat->H)(F:Nat->Fr):Prop where
 h0:Hh 0=h0
 f0:F 0=fr0
 fn:∀q,q<=ops.size->(F q).n=fr0.n
 fget:∀q,q<ops.size->∀(o:Oper),ops[ord q]?=some o->∀t,(F (q+1)).get t=if o.dst=some t then v (ord q)else(F q).get t
 dst:∀(i:Nat) (o:Oper) (t:Tmp),ops[i]?=some o->o.dst=some t->t<fr0.n
 step:∀(i:Nat) (o:Oper),ops[i]?=some o->
  (Bg (F (pos i)) ops o=false/\v i=.tup []/\Hh (pos i+1)=Hh (pos i))\/
  (Bg (F (pos i)) ops o=true/\
   ((EE o=true/\GN C (F (pos i)) (Hh (pos i)) o=some (.val (v i) (Hh (pos i)))/\Hh (pos i+1)=Hh (pos i))\/
    (CH o=true/\∃ob f,fI C (F (pos i)) o=some (ob,f)/\v i=f (Hh (pos i)).nx/\Hh (pos i+1)=(Hh (pos i)).push ob)\/
    (CY o=true/\DU C call (F (pos i)) (Hh (pos i)) o=some (v i,Hh (pos i+1)))))
 stable:∀(i j:Nat) (o oj:Oper),ops[i]?=some o->ops[j]?=some oj->CY o=true->EE oj=true->Ps oj=true->Bg (F (pos j)) ops oj=true->pos j<pos i->anc i j=false->
  GN C (F (pos j)) (Hh (pos i+1)) oj=some (.val (v j) (Hh (pos i+1)))
theorem kinds(o:Oper):EE o=true\/CH o=true\/CY o=true:=by
 unfold CY;cases EE o<;>cases CH o<;>simp
theorem JO{o:Oper}(h:EE o=true):CH o=false:=by
 unfold EE at h;unfold CH;split at h<;>simp_all
theorem QX{o:Oper}(h:CY o=true):EE o=false/\CH o=false:=by
 unfold CY at h;simpa using h
section
variable {C:Ctx}{P:Program}{call:DO}{ops:Array Oper}{anc:Nat->Nat->Bool}{ord pos:Nat->Nat}{sc:Nat->Option Nat}{fr0:Fr}{h0:H}{v:Nat->V}{Hh:Nat->H}{F:Nat->Fr}
theorem Fw(st:Stat ops anc ord pos sc)(r:Canon C call ops anc ord pos fr0 h0 v Hh F){k:Nat}{o:Oper}{t:Tmp}(f:ops[k]?=some o)(i:o.dst=some t):
  ∀q,q<=ops.size->pos k<q->(F q).get t=v k
 |0,_,h=>by omega
 |q+1,x,h=>by
  have c:q<ops.size:=ae
  obtain⟨l,s⟩:=st.ordp q c;rw[r.fget q c (ops[ord q]) (by simp[l]) t];have j:=(zc.1 f).1;by_cases e:pos k=q
  ·have d:ord q=k:=by rw[<-e];exact(st.posp k j).2
   have u:ops[ord q]=o:=by have:=(zc.1 f).2;simp only[d];exact this
   rw[u,wd i,d]
  ·have g:ord q≠k:=fun d=>e (by rw[<-d,s])
   have:=(st.s6 k (ord q) o (ops[ord q]) t f (by simp[l]) (Ne.symm g) i).1;rw[wc this];exact Fw st r f i q ae ae
theorem Fz(st:Stat ops anc ord pos sc)(e:Canon C call ops anc ord pos fr0 h0 v Hh F){t:Tmp}:
  ∀q,q<=ops.size->(∀k o,ops[k]?=some o->o.dst=some t->¬pos k<q)->(F q).get t=fr0.get t
 |0,_,_=>by rw[e.f0]
 |q+1,l,h=>by
  have c:q<ops.size:=ae
  obtain⟨f,j⟩:=st.ordp q c;rw[e.fget q c (ops[ord q]) (by simp[f]) t,wc]
  ·exact Fz st e q ae fun k o i d g=>h k o i d ae
  ·intro d;exact h (ord q) _ (by simp[f]) d ae
theorem AbE(st:Stat ops anc ord pos sc)(f:Canon C call ops anc ord pos fr0 h0 v Hh F){i k:Nat}(h:sc i=some k):v i=v k:=by
 obtain⟨o,ok,t,g,l,c,q,y,s,x⟩:=st.q1 i k h;have e:=(zc.1 g).1;have j:=Fw st f l s (pos i) (yz (st.posp i e).1)<|st.apos i k x;have r:Bg (F<|pos i) ops o=true:=by unfold Bg;rw[q]
 have d:EE o=true:=by unfold EE;rcases c with c|c<;>rw[c]
 rcases f.step i o g with⟨u,_⟩|⟨_,⟨_,u,_⟩|⟨u,_⟩|⟨u,_⟩⟩
 ·rw[r]at u;cases u
 ·have:GN C (F<|pos i) (Hh<|pos i) o=some (.val ((F<|pos i).get t)<|Hh<|pos i):=by
   rw[Dc];unfold He;rcases c with c|c<;>simp only[c,ev,BG]
  rw[this,j]at u;simp only[ze,OR.val.injEq]at u;exact u.1.symm
 ·rw[JO d]at u;cases u
 ·rw[(QX u).1]at d;cases d
structure Inv(C:Ctx)(ops:Array Oper)(pos:Nat->Nat)(sc:Nat->Option Nat)(fr0:Fr)(v:Nat->V)(Hh:Nat->H)(F:Nat->Fr)(p0:Pl)(h0:H)(w0:World)(df:List Deferred)
  (S:Nat->Prop) (m:Nat) (fl:Nat->Nat) (p:Pl) (a:Act) (w:World):Prop where
 ext:Ext p0 h0 w0 p (Hh m) w
 gl:Gl C p
 mn:m<=ops.size
 mh:∀(k:Nat) (o:Oper),ops[k]?=some o->CY o=true->(S k↔pos k<m)
 ma:∀(k:Nat) (o:Oper),ops[k]?=some o->CH o=true->pos k<m->S k
 sz:a.tmps.size=fr0.n
 df:a.defers=df
 slot:∀t,(∀(i:Nat) (o:Oper),S i->ops[i]?=some o->o.dst≠some t)->Ac p (fr0.get t) (a.tmps.getD t undef)
 slotw:∀(i:Nat) (o:Oper) (t:Tmp),S i->ops[i]?=some o->o.dst=some t->((CH o=true\/(sc i).isSome=true)->Bg (F (pos i)) ops o=true->pos i<m)->Ac p (v i) (a.tmps.getD t undef)
 flt:∀(i:Nat) (o:Oper),S i->ops[i]?=some o->CH o=true->Bg (F (pos i)) ops o=true->m<=pos i->
  ∃n x ob f v',fI C (F (pos i)) o=some (ob,f)/\w.heap[fl i]?=some x/\w0.heap.size<=fl i/\¬Im p (Hh m) (fl i)/\Hl p n ob x/\
   (∀(q:Pl) b,q[b]?=some (fl i,n)->Ac q (f b) v')/\(∀t,o.dst=some t->a.tmps.getD t undef=v')
 inj:∀(i j:Nat) (o o':Oper),S i->S j->ops[i]?=some o->ops[j]?=some o'->CH o=true->CH o'=true->Bg (F (pos i)) ops o=true->Bg (F (pos j)) ops o'=true->
  m<=pos i->m<=pos j->fl i=fl j->i=j
structure ML(ops:Array Oper)(pos:Nat->Nat)(sc:Nat->Option Nat)(S:Nat->Prop)(m:Nat)(a:Act):Prop where
 eq:∀(i k:Nat) (o ok:Oper) (t tk:Tmp),S i->ops[i]?=some o->sc i=some k->ops[k]?=some ok->o.dst=some t->ok.dst=some tk->m<=pos i->a.tmps.getD t undef=a.tmps.getD tk undef/\S k
theorem Inv.adv(st:Stat ops anc ord pos sc)(cn:Canon C call ops anc ord pos fr0 h0 v Hh F){p0:Pl}{w0:World}{df:List Deferred}{S:Nat->Prop}{fl:Nat->Nat}{a:Act}{w:World}:
  ∀(d m:Nat) {p:Pl},Inv C ops pos sc fr0 v Hh F p0 h0 w0 df S m fl p a w->ML ops pos sc S m a->m+d<=ops.size->
  (∀q,m<=q->q<m+d->∀(o:Oper),ops[ord q]?=some o->CY o=false/\(CH o=true->S (ord q)))->
  ∃p',Inv C ops pos sc fr0 v Hh F p0 h0 w0 df S (m+d) fl p' a w
 |0,m,p,g,_,_,_=>⟨p,g⟩
 |d+1,m,p,g,Z,hn,hq=>by
  have hm:m<ops.size:=ae
  obtain⟨g1,N⟩:=st.ordp m hm;obtain⟨O,hj⟩:∃O,ops[ord m]?=some O:=⟨ops[ord m],by simp[g1]⟩;obtain⟨q1,q2⟩:=hq m (zo _) ae _ hj;have one:∃p',Inv C ops pos sc fr0 v Hh F p0 h0 w0 df S (m+1) fl p' a w:=by
   have T:∀(k:Nat) (o:Oper),ops[k]?=some o->CY o=true->(S k↔pos k<m+1):=by
    intro k o u hv;rw[g.mh k o u hv];constructor
    ·intro h;omega
    ·intro h;by_cases e:pos k=m
     ·have D:=(zc.1 u).1;have y:ord m=k:=by rw[<-e];exact(st.posp k D).2
      subst y;rw[hj]at u;cases u;simp[q1]at hv
     ·omega
   have W:∀(k:Nat) (o:Oper),ops[k]?=some o->CH o=true->pos k<m+1->S k:=by
    intro k o u z hlt;by_cases e:pos k=m
    ·have D:=(zc.1 u).1;have y:ord m=k:=by rw[<-e];exact(st.posp k D).2
     subst y;rw[hj]at u;cases u;exact q2 z
    ·exact g.ma k o u z ae
   have same:Hh (m+1)=Hh m->(CH O=true->Bg (F<|pos<|ord m) ops O=false)->(Bg (F<|pos<|ord m) ops O=false->v (ord m)=.tup [])->
     Inv C ops pos sc fr0 v Hh F p0 h0 w0 df S (m+1) fl p a w:=by
    intro hh z _;refine⟨by rw[hh];exact g.ext,g.gl,by omega,T,W,g.sz,g.df,g.slot,fun i o t s c K hc=>?_,fun i o s c l r J=>?_,fun i j o o' s I c L l G r E J hle' he=>?_⟩
    ·by_cases X:(sc i).isSome=true/\pos i=m
     ·obtain⟨k,u⟩:=ym.1 X.1;obtain⟨o2,ok,tk,U,h2,h3,h4,h5,h6,h7⟩:=st.q1 i k u;rw[c]at U;cases U;obtain⟨e1,y⟩:=Z.eq i k o ok t tk s c u h2 K h6 ae;rw[AbE st cn u,e1];have:=st.apos _ _ h7;exact g.slotw k ok tk y h2 h6 fun _ _=>by omega
     ·refine g.slotw i o t s c K fun l r=>?_
      have U:=hc l r;by_cases e:pos i=m
      ·have B:=(zc.1 c).1;have y:ord m=i:=by rw[<-e];exact(st.posp i B).2
       subst y;rw[hj]at c;cases c;rcases l with l|l
       ·rw[z l]at r;cases r
       ·exact wh ⟨l,e⟩ X
      ·omega
    ·obtain⟨n,x,ob,f,v',k1,k2,k3,k4,k5⟩:=g.flt i o s c l r ae;exact⟨n,x,ob,f,v',k1,k2,k3,by rw[hh];exact k4,k5⟩
    ·exact g.inj i j o o' s I c L l G r E ae ae he
   rcases cn.step (ord m) _ hj with⟨u1,u2,M⟩|⟨u1,⟨u2,M,R⟩|⟨u2,ob,f,M,R,u5⟩|⟨u2,M⟩⟩
   ·rw[N]at M;exact⟨p,same M (fun _=>u1)<|fun _=>u2⟩
   ·rw[N]at R;exact⟨p,same R (fun h=>by rw[JO u2]at h;cases h)<|fun h=>by rw[u1]at h;cases h⟩
   ·
    obtain⟨n,x,Y,f',v',k1,k2,k3,k4,k5,k6,k7⟩:=g.flt (ord m) _ (q2 u2) hj u2 u1 ae;rw[M]at k1;cases k1;rw[N]at R u5;have hx:=g.ext.hZ k2 k5 k4 k3;rw[<-u5]at hx;have A:(p++[(fl<|ord m,n)])[(Hh m).nx]?=some (fl<|ord m,n):=by rw[<-g.ext.rel.len];simp
    have hv:Ac (p++[(fl<|ord m,n)]) (v<|ord m) v':=by rw[R];exact k6 _ _ A
    refine⟨p++[(fl<|ord m,n)],hx,?_,by omega,T,W,g.sz,g.df,fun t K=>(g.slot t K).mono _,fun i o t s c K hc=>?_,fun i o s c l r J=>?_,fun i j o o' s I c L l G r E J hle' he=>?_⟩
    ·exact Gp.app g.gl _
    ·by_cases e:i=ord m
     ·subst e;rw[hj]at c;cases c;rw[k7 t K];exact hv
     ·refine(g.slotw i o t s c K fun l r=>?_).mono _;have U:=hc l r;have B:=(zc.1 c).1;have:pos i≠m:=fun y=>e (by rw[<-y];exact(st.posp i B).2.symm)
      omega
    ·obtain⟨n',x',Y,f',v'',l1,l2,l3,l4,l5,l6,l7⟩:=g.flt i o s c l r ae;refine⟨n',x',Y,f',v'',l1,l2,l3,?_,l5.mono _,l6,l7⟩;rintro⟨b,ob2,n2,m1,m2⟩;rw[u5,H.BV]at m1;by_cases e:b=(Hh m).nx
     ·subst e;rw[A]at m2;have:fl (ord m)=fl i:=(Prod.mk.inj<|Option.some.inj m2).1;have:=g.inj (ord m) i _ o (q2 u2) s hj c u2 l u1 r ae ae this;subst this;omega
     ·rw[wc e]at m1;have hb:=g.ext.rel.lt m1;rw[z7<|by rw[g.ext.rel.len];exact hb]at m2;exact l4 ⟨b,ob2,n2,m1,m2⟩
    ·exact g.inj i j o o' s I c L l G r E ae ae he
   ·rw[q1]at u2;cases u2
  obtain⟨p',c⟩:=one;obtain⟨p'',hi''⟩:=Inv.adv st cn d (m+1) c ⟨fun i k o ok t tk g1 N g3 g4 g5 g6 g7=>Z.eq i k o ok t tk g1 N g3 g4 g5 g6 ae⟩ ae (fun q U h2=>hq q ae ae);exact⟨p'',by rw[show m+(d+1)=m+1+d from by omega];exact hi''⟩
end
section
variable {C:Ctx}{P:Program}{call:DO}{ops:Array Oper}{anc:Nat->Nat->Bool}{ord pos:Nat->Nat}{sc:Nat->Option Nat}{fr0:Fr}{h0:H}{v:Nat->V}{Hh:Nat->H}{F:Nat->Fr}
 {p0:Pl} {w0:World} {df:List Deferred} {S:Nat->Prop} {m:Nat} {fl:Nat->Nat} {p:Pl} {a:Act} {w:World}
structure Sz(anc:Nat->Nat->Bool)(S:Nat->Prop)(i:Nat):Prop where
 fresh:¬S i
 all:∀k,anc i k=true->S k
def Down(anc:Nat->Nat->Bool)(S:Nat->Prop):Prop:=∀i k,S i->anc i k=true->S k
theorem operands(st:Stat ops anc ord pos sc)(u:Canon C call ops anc ord pos fr0 h0 v Hh F)(s:Inv C ops pos sc fr0 v Hh F p0 h0 w0 df S m fl p a w)(I:Down anc S){i:Nat}{o:Oper}(G:ops[i]?=some o)(hr:Sz anc S i)
  (B:∀(k:Nat) (ok:Oper) (t:Tmp),ops[k]?=some ok->(CH ok=true\/(sc k).isSome=true)->ok.dst=some t->t∈reads ops o->anc i k=true->pos k<m):FOn p (F<|pos i) a (reads ops o):=by
 have x:=(zc.1 G).1;have J:=(st.posp i x).1;refine⟨by rw[u.fn _ ae,s.sz],fun t D=>?_⟩;by_cases E:∃(k:Nat) (ok:Oper),k≠i/\ops[k]?=some ok/\ok.dst=some t
 ·obtain⟨k,ok,y,r,d⟩:=E;rcases(st.s6 k i ok o t r G y d).2 D with q|q
  ·have l:=hr.all k q;rw[Fw st u r d (pos i) ae<|st.apos i k q];exact s.slotw k ok t l r d fun K _=>B k ok t r K d D q
  ·have l:¬S k:=fun h=>hr.fresh<|I k i h q
   have f:∀(j:Nat) (oj:Oper),ops[j]?=some oj->oj.dst=some t->j=k:=by
    intro j oj g c;by_cases e:j=k
    ·exact e
    ·exact wh c (st.s6 k j ok oj t r g (fun h=>e h.symm) d).1
   rw[Fz st u (pos i) ae fun j oj g c z=>by
    have:=f j oj g c;subst this;have:=st.apos _ _ q;omega]
   refine s.slot t fun j oj A g c=>?_
   have:=f j oj g c;subst this;exact l A
 ·have f:∀(j:Nat) (oj:Oper),ops[j]?=some oj->oj.dst=some t->j=i:=by
   intro j oj g c;by_cases e:j=i
   ·exact e
   ·exact wh ⟨j,oj,e,g,c⟩ E
  rw[Fz st u (pos i) ae fun j oj g c z=>by
   have:=f j oj g c;subst this;omega]
  refine s.slot t fun j oj A g c=>?_
  have:=f j oj g c;subst this;exact hr.fresh A
def Rest(ops:Array Oper)(pos:Nat->Nat)(S:Nat->Prop)(m:Nat):Prop:=m=0\/∃(k:Nat) (o:Oper),ops[k]?=some o/\CY o=true/\S k/\m=pos k+1
theorem Qu(st:Stat ops anc ord pos sc)(t:Down anc S)(y:Inv C ops pos sc fr0 v Hh F p0 h0 w0 df S m fl p a w)(c:Rest ops pos S m){k:Nat}{o:Oper}(x:ops[k]?=some o)(hr:¬S k):
  m<=pos k\/∃(i:Nat) (oi:Oper),ops[i]?=some oi/\CY oi=true/\S i/\m=pos i+1/\pos k<pos i/\anc i k=false:=by
 by_cases g:m<=pos k
 ·exact .inl g
 ·right;rcases c with rfl|⟨i,oi,q,r,l,s⟩
  ·omega
  ·refine⟨i,oi,q,r,l,s,?_,?_⟩
   ·have f:k≠i:=fun e=>hr<|e▸l
    have j:=(zc.1 x).1;have d:=(zc.1 q).1;have:pos k≠pos i:=fun e=>f (by rw[<-(st.posp k j).2,e,(st.posp i d).2])
    omega
   ·cases u:anc i k with
    |false=>rfl
    |true=>exact wh (t i k l u) hr
theorem PN(st:Stat ops anc ord pos sc)(r:Inv C ops pos sc fr0 v Hh F p0 h0 w0 df S m fl p a w){i:Nat}{o:Oper}(q:ops[i]?=some o)(hr:Sz anc S i)(d:CH o=false){k:Nat}{ok:Oper}(l:ops[k]?=some ok)
  (g:CY ok=true) (t:m<=pos k) (s:pos k<pos i):False:=by
 have f:¬S k:=fun h=>by have:=(r.mh k ok l g).1 h;omega
 have j:k≠i:=fun e=>by subst e;omega
 rcases kinds o with h|h|h
 ·rcases st.s2 k i ok o l q g h with c|c
  ·exact f<|hr.all k c
  ·omega
 ·rw[d]at h;cases h
 ·rcases st.s1 k i ok o l q g h j with c|c
  ·have:=st.apos _ _ c;omega
  ·exact f<|hr.all k c
theorem X9(st:Stat ops anc ord pos sc)(y:Canon C call ops anc ord pos fr0 h0 v Hh F)(M:Down anc S)(x:Inv C ops pos sc fr0 v Hh F p0 h0 w0 df S m fl p a w)(g:Rest ops pos S m){i:Nat}{o:Oper}(l:ops[i]?=some o)
  (hr:Sz anc S i) (r:EE o=true) (t:Bg (F<|pos i) ops o=true) (c:GN C (F<|pos i) (Hh<|pos i) o=some (.val (v i)<|Hh<|pos i)):GN C (F<|pos i) (Hh m) o=some (.val (v i)<|Hh m):=by
 have e:=JO r;cases f:Ps o with
 |false=>exact gC r f c _
 |true=>
  rcases Qu st M x g l hr.fresh with I|⟨k,ok,K,A,W,L,T,N⟩
  ·have s:=(zc.1 l).1;have E:=(st.posp i s).1;have key:∀d,m+d<=pos i->Hh (m+d)=Hh m:=by
    intro d;induction d with
    |zero=>intro _;rfl
    |succ d U=>
     intro z;have R:=U ae;obtain⟨J,j⟩:=st.ordp (m+d) ae;obtain⟨q,hq⟩:∃q,ops[ord<|m+d]?=some q:=⟨ops[ord<|m+d],by simp[J]⟩;rw[<-R,show m+(d+1)=m+d+1 from by omega];rcases y.step _ q hq with⟨_,_,u⟩|⟨_,⟨_,_,u⟩|⟨u1,_⟩|⟨u1,_⟩⟩
     ·rwa [j]at u
     ·rwa [j]at u
     ·obtain⟨k,ok,B,D,O,G⟩:=st.s5 i _ o q l hq r f u1 (by rw[j];omega);rw[j]at O;exact(PN st x l hr e B D ae G).elim
     ·exact(PN st x l hr e hq u1 (by rw[j];omega)<|by rw[j];omega).elim
   have:=key (pos i-m) ae;rw[show m+(pos i-m)=pos i from by omega]at this;rw[this]at c;exact c
  ·rw[L];exact y.stable k i ok o K l A r f t T N
theorem Ed{a:Act}{d:Option Tmp}{x:Value}{t:Tmp}(h:d≠some t):(a.put d x).tmps.getD t undef=a.tmps.getD t undef:=by
 cases d with
 |none=>rfl
 |some s=>
  have:s≠t:=fun e=>h (by rw[e])
  simp only[Act.put,zk];rw[Array.getElem?_setIfInBounds_ne this]
theorem FY{a:Act}{x:Value}{t:Tmp}(h:t<a.tmps.size):(a.put (some t) x).tmps.getD t undef=x:=by
 simp[Act.put,h]
theorem Qj{a:Act}{d:Option Tmp}{x:Value}:(a.put d x).tmps.size=a.tmps.size:=by cases d<;>simp[Act.put]
theorem Pa{a:Act}{d:Option Tmp}{x:Value}:(a.put d x).defers=a.defers:=by cases d<;>rfl
theorem ML.put(st:Stat ops anc ord pos sc){S:Nat->Prop}{m y:Nat}{a:Act}(G:ML ops pos sc S m a){i:Nat}{o:Oper}(l:ops[i]?=some o)(c:¬S i)(hr:Sz anc S i){x:Value}(T:m<=y)
  (N:∀(k:Nat) (ok:Oper) (t tk:Tmp),sc i=some k->ops[k]?=some ok->o.dst=some t->ok.dst=some tk->y<=pos i->(a.put o.dst x).tmps.getD t undef=a.tmps.getD tk undef):
  ML ops pos sc (fun k=>S k\/k=i) y (a.put o.dst x):=by
 refine⟨fun j k oj ok t tk M g u d q f I=>?_⟩;obtain⟨o1,W,t2,q1,D,X,R,U,A,J⟩:=st.q1 j k u;rw[d]at D;cases D;rw[f]at A;cases A;by_cases e:j=i
 ·subst e;rw[l]at g;cases g;have B:S k:=hr.all k J;refine⟨?_,.inl B⟩;rw[N k ok t tk u d q f I];have s:k≠j:=fun e=>c<|e▸B
  have:o.dst≠some tk:=(st.s6 k j ok o tk d l s f).1;rw[Ed this]
 ·have O:=M.resolve_right e;obtain⟨K,z⟩:=G.eq j k oj ok t tk O g u d q f ae;have r:k≠i:=fun h=>c<|h▸z
  have E:o.dst≠some t:=(st.s6 j i oj o t g l e q).1;have L:o.dst≠some tk:=(st.s6 k i ok o tk d l r f).1;rw[Ed E,Ed L];exact⟨K,.inl z⟩
theorem Inv.quiet(st:Stat ops anc ord pos sc)(cn:Canon C call ops anc ord pos fr0 h0 v Hh F)(g:Inv C ops pos sc fr0 v Hh F p0 h0 w0 df S m fl p a w){i:Nat}{o:Oper}(l:ops[i]?=some o)(I:¬S i)(B:CY o=false)
  (z:CH o=true->Bg (F<|pos i) ops o=false) {x:Value} (Y:((sc i).isSome=true->Bg (F<|pos i) ops o=true->pos i<m)->Ac p (v i) x):Inv C ops pos sc fr0 v Hh F p0 h0 w0 df (fun k=>S k\/k=i) m fl p (a.put o.dst x) w:=by
 have q:∀(k:Nat) (ok:Oper) (t:Tmp),k≠i->ops[k]?=some ok->ok.dst=some t->o.dst≠some t:=fun k ok t M c d=>(st.s6 k i ok o t c l M d).1
 refine⟨g.ext,g.gl,g.mn,fun k ok c J=>?_,fun k ok c K O=>.inl<|g.ma k ok c K O,by rw[Qj,g.sz],by rw[Pa,g.df],fun t d=>?_,fun k ok t A c d T=>?_,fun k ok A c D u r=>?_,
  fun k j ok oj A N c R D G u s r E X=>?_⟩
 ·rw[<-g.mh k ok c J];refine⟨fun h=>h.elim id fun e=>?_,.inl⟩;subst e;rw[l]at c;cases c;rw[B]at J;cases J
 ·have L:o.dst≠some t:=d i o (.inr rfl) l;rw[Ed L];exact g.slot t fun k ok A c=>d k ok (.inl A) c
 ·by_cases e:k=i
  ·subst e;rw[l]at c;cases c;rw[d,FY<|by rw[g.sz];exact cn.dst k o t l d];exact Y fun L U=>T (.inr L) U
  ·rw[Ed<|q k ok t e c d];exact g.slotw k ok t (A.resolve_right e) c d T
 ·have e:k≠i:=by
   rintro rfl;rw[l]at c;cases c;rw[z D]at u;cases u
  obtain⟨n,y,ob,f,v',W,k2,k3,k4,Z,k6,k7⟩:=g.flt k ok (A.resolve_right e) c D u r;exact⟨n,y,ob,f,v',W,k2,k3,k4,Z,k6,fun t d=>by rw[Ed<|q k ok t e c d];exact k7 t d⟩
 ·have e:k≠i:=by
   rintro rfl;rw[l]at c;cases c;rw[z D]at u;cases u
  have e':j≠i:=by
   rintro rfl;rw[l]at R;cases R;rw[z G]at s;cases s
  exact g.inj k j ok oj (A.resolve_right e) (N.resolve_right e') c R D G u s r E X
theorem Inv.made(st:Stat ops anc ord pos sc)(d:Inv C ops pos sc fr0 v Hh F p0 h0 w0 df S m fl p a w){i:Nat}{o:Oper}(E:ops[i]?=some o)(r:CH o=true)(U:Bg (F<|pos i) ops o=true)(l:m<=pos i)
  (cn:Canon C call ops anc ord pos fr0 h0 v Hh F) {ob:O} {f:Nat->V} (K:fI C (F<|pos i) o=some (ob,f)) {x:Obj} {n:Nat} {v':Value} (hx:Hl p n ob x) (G:∀(q:Pl) b,q[b]?=some (w.heap.size,n)->Ac q (f b) v'):
  Inv C ops pos sc fr0 v Hh F p0 h0 w0 df (fun k=>S k\/k=i) m (fun k=>if k=i then w.heap.size else fl k) p (a.put o.dst v') { w with heap:=w.heap.push x }:=by
 have z:∀(k:Nat) (ok:Oper) (t:Tmp),k≠i->ops[k]?=some ok->ok.dst=some t->o.dst≠some t:=fun k ok t W c g=>(st.s6 k i ok o t c E W g).1
 have I:CY o=false:=by simp[CY,r]
 refine⟨d.ext.aside x,d.gl,d.mn,fun k ok c G=>?_,fun k ok c r s=>.inl<|d.ma k ok c r s,by rw[Qj,d.sz],by rw[Pa,d.df],fun t g=>?_,fun k ok t A c g hc=>?_,fun k ok A c R T l=>?_,
  fun k j ok oj A L c hj R M T J l u N=>?_⟩
 ·rw[<-d.mh k ok c G];refine⟨fun h=>h.elim id fun e=>?_,.inl⟩;subst e;rw[E]at c;cases c;rw[I]at G;cases G
 ·have h1:o.dst≠some t:=g i o (.inr rfl) E;rw[Ed h1];exact d.slot t fun k ok A c=>g k ok (.inl A) c
 ·by_cases e:k=i
  ·subst e;rw[E]at c;cases c;have:=hc (.inl r) U;omega
  ·rw[Ed<|z k ok t e c g];exact d.slotw k ok t (A.resolve_right e) c g hc
 ·by_cases e:k=i
  ·subst e;rw[E]at c;cases c;refine⟨n,x,ob,f,v',K,by simp,by simpa using d.ext.size,fun X=>?_,hx,by simpa using G,fun t g=>?_⟩
   ·have:=d.ext.rel.YK X;simp at this
   ·rw[g,FY<|by rw[d.sz];exact cn.dst k o t E g]
  ·obtain⟨n',y,Y,f',Z,k1,B,k3,k4,k5,k6,k7⟩:=d.flt k ok (A.resolve_right e) c R T l;have s:=(zc.1 B).1;refine⟨n',y,Y,f',Z,k1,?_,by simpa [e]using k3,by simpa [e]using k4,k5,by simpa [e]using k6,fun t g=>by rw[Ed<|z k ok t e c g];exact k7 t g⟩;simp only[e,vg,yb];rw[wc ae];exact B
 ·by_cases e:k=i<;>by_cases D:j=i
  ·rw[e,D]
  ·obtain⟨_,_,_,_,_,_,B,_⟩:=d.flt j oj (L.resolve_right D) hj M J u;have s:=(zc.1 B).1;simp only[e,wk,D,vg]at N;omega
  ·obtain⟨_,_,_,_,_,_,B,_⟩:=d.flt k ok (A.resolve_right e) c R T l;have s:=(zc.1 B).1;simp only[e,vg,D,wk]at N;omega
  ·simp only[e,vg,D]at N;exact d.inj k j ok oj (A.resolve_right e) (L.resolve_right D) c hj R M T J l u N
theorem Inv.wrote(st:Stat ops anc ord pos sc)(cn:Canon C call ops anc ord pos fr0 h0 v Hh F){i:Nat}{o:Oper}(g:Inv C ops pos sc fr0 v Hh F p0 h0 w0 df S (pos i) fl p a w)(A:ops[i]?=some o)(J:CY o=true)(D:¬S i)
  {p':Pl} {w':World} {x:Value} (r:Ext p (Hh<|pos i) w p' (Hh<|pos i+1) w') (hx:Ac p' (v i) x):
  Inv C ops pos sc fr0 v Hh F p0 h0 w0 df (fun k=>S k\/k=i) (pos i+1) fl p' (a.put o.dst x) w':=by
 have l:∀(k:Nat) (ok:Oper) (t:Tmp),k≠i->ops[k]?=some ok->ok.dst=some t->o.dst≠some t:=fun k ok t O c d=>(st.s6 k i ok o t c A O d).1
 obtain⟨hnr,hnal⟩:=QX J;have z:=(zc.1 A).1;have s:∀ {k:Nat} {ok:Oper},ops[k]?=some ok->pos k=pos i->k=i:=fun {k ok} c e=>by
  have G:=(zc.1 c).1;rw[<-(st.posp k G).2,e,(st.posp i z).2]
 refine⟨g.ext.trans r,g.gl.ext r,(st.posp i z).1,fun k ok c Y=>?_,fun k ok c I B=>?_,by rw[Qj,g.sz],by rw[Pa,g.df],fun t d=>?_,fun k ok t u c d hc=>?_,fun k ok u c L R K=>?_,
  fun k j ok oj u U c hj L W R M K hle' E=>?_⟩
 ·constructor
  ·rintro(h|rfl)
   ·have:=(g.mh k ok c Y).1 h;omega
   ·omega
  ·intro h;by_cases e:pos k=pos i
   ·exact .inr<|s c e
   ·exact .inl ((g.mh k ok c Y).2 ae)
 ·by_cases e:pos k=pos i
  ·exact .inr<|s c e
  ·exact .inl (g.ma k ok c I ae)
 ·have N:o.dst≠some t:=d i o (.inr rfl) A;rw[Ed N];exact r.kE<|g.slot t fun k ok u c=>d k ok (.inl u) c
 ·by_cases e:k=i
  ·subst e;rw[A]at c;cases c;rw[d,FY<|by rw[g.sz];exact cn.dst k o t A d];exact hx
  ·rw[Ed<|l k ok t e c d];refine r.kE<|g.slotw k ok t (u.resolve_right e) c d fun N h2=>?_;have:=hc N h2;have h3:pos k≠pos i:=fun e2=>e<|s c e2
   omega
 ·have e:k≠i:=by
   rintro rfl;omega
  obtain⟨n,y,ob,f,v',k1,X,k3,Z,k5,k6,k7⟩:=g.flt k ok (u.resolve_right e) c L R ae;have B:=(zc.1 X).1;obtain⟨q,rfl⟩:=r.pre;refine⟨n,y,ob,f,v',k1,by rw[r.same _ B Z];exact X,k3,fun T=>?_,k5.mono _,k6,fun t d=>by rw[Ed<|l k ok t e c d];exact k7 t d⟩;rcases r.im _ T with h|h
  ·exact Z h
  ·omega
 ·have e:k≠i:=by rintro rfl;omega
  have e':j≠i:=by rintro rfl;omega
  exact g.inj k j ok oj (u.resolve_right e) (U.resolve_right e') c hj L W R M ae ae E
theorem Inv.along(c:Inv C ops pos sc fr0 v Hh F p0 h0 w0 df S m fl p a w){p':Pl}{w':World}(d:Ext p (Hh m) w p' (Hh m) w'):Inv C ops pos sc fr0 v Hh F p0 h0 w0 df S m fl p' a w':=by
 refine⟨c.ext.trans d,c.gl.ext d,c.mn,c.mh,c.ma,c.sz,c.df,fun t A=>d.kE<|c.slot t A,fun i o t u s K z=>d.kE<|c.slotw i o t u s K z,fun k ok J M L B j=>?_,c.inj⟩;obtain⟨n,y,ob,f,v',x,l,G,r,E,I,D⟩:=c.flt k ok J M L B j;have g:=(zc.1 l).1;obtain⟨q,rfl⟩:=d.pre;refine⟨n,y,ob,f,v',x,by rw[d.same _ g r];exact l,G,fun e=>?_,E.mono _,I,D⟩;rcases d.im _ e with h|h
 ·exact r h
 ·omega
theorem jM{o:Oper}(h:CH o=true):∀c,o.op≠ .defer c:=by
 intro c e;unfold CH at h;rw[e]at h;cases h
theorem up(hC:C.Ok P)(hcall:call.Ok C P)(st:Stat ops anc ord pos sc)(D:Canon C call ops anc ord pos fr0 h0 v Hh F)(G:Inv C ops pos sc fr0 v Hh F p0 h0 w0 df S m fl p a w)(W:ML ops pos sc S m a)(hd:Down anc S)(E:Rest ops pos S m)
  {i:Nat} {o:Oper} (g:ops[i]?=some o) (hr:Sz anc S i) {Q:Exit->Act->World->Prop} {K:Act->World->Prop}
  (Z:∀m' fl' p' a' w',Inv C ops pos sc fr0 v Hh F p0 h0 w0 df (fun k=>S k\/k=i) m' fl' p' a' w'->ML ops pos sc (fun k=>S k\/k=i) m' a'->Rest ops pos (fun k=>S k\/k=i) m'->K a' w') {ro:Option Nat} {nn:Nat}:wpOpIn (FW ro) nn P ops Q i K a w:=by
 have hin:=(zc.1 g).1;have I:∀cs b,o.op≠ .select cs b:=fun cs b=>Region.noSelect_spec st.sel i o cs b g
 have s:Rest ops pos (fun k=>S k\/k=i) m:=by
  rcases E with h|⟨k,ok,R,h2,T,h4⟩
  ·exact .inl h
  ·exact .inr ⟨k,ok,R,h2,.inl T,h4⟩
 unfold wpOpIn;simp only[g];cases l:CY o with
 |false=>
  by_cases hcp:(sc i).isSome=true/\m<=pos i
  ·
   obtain⟨k,hk⟩:=ym.1 hcp.1;obtain⟨o2,ok,t,q1,q2,M,q4,q5,q6,q7⟩:=st.q1 i k hk;rw[g]at q1;cases q1;have hw:Region.wanted o (yielded ops a.tmps)=true:=by unfold Region.wanted;rw[q4]
   simp only[hw,wk];refine⟨fun _ _=>trivial,?_⟩;have hrun:(execOp a.eval o).run P w=.ok (.value<|a.tmps.getD t undef) w:=by
    unfold execOp;rcases M with M|M<;>simp[M,Act.eval]
   rw[yc _ _ _ (fun c hc=>by rcases M with M|M<;>rw[M]at hc<;>cases hc),hrun,yd];have J:CH o=false:=by unfold CH;rcases M with M|M<;>rw[M]
   refine Z m fl p _ w (G.quiet st D g hr.fresh l (fun h=>by rw[J]at h;cases h) (fun h=>by have:=h hcp.1 (by unfold Bg;rw[q4]);omega)) (W.put st g hr.fresh hr (zo _) fun k' ok' t' tk R h2 T h4 _=>?_) s;rw[hk]at R;cases R;rw[q2]at h2;cases h2;rw[q6]at h4;cases h4;rw[T,FY<|by rw[G.sz];exact D.dst i o t' g T]
  have X:∀k,sc i=some k->pos i<m:=fun k hk=>by
   rcases yq (pos i) m with h|h
   ·exact h
   ·exact wh ⟨by rw[hk];rfl,h⟩ hcp
  have hfl:∀(k:Nat) (ok:Oper) (t:Tmp),ops[k]?=some ok->(CH ok=true\/(sc k).isSome=true)->ok.dst=some t->t∈reads ops o->anc i k=true->pos k<m:=by
   intro k ok t hk U hkt ht L;rcases st.s3 k i ok o t hk g U l hkt ht L with h|⟨j,oj,j1,j2,j3,j4⟩
   ·have:=X k h;have:=st.apos _ _ L;omega
   ·have:=(G.mh j oj j1 j2).1<|hr.all j j4;have:=st.apos _ _ j3;omega
  have B:∀x,ML ops pos sc (fun k=>S k\/k=i) m (a.put o.dst x):=fun x=>W.put st g hr.fresh hr (zo _) fun k ok t tk R _ _ _ h5=>by have:=X k R;omega
  have z:=operands st D G hd g hr hfl;rw[RO z];rcases D.step i o g with⟨u1,u2,y⟩|⟨u1,u⟩
  ·simp only[u1,zu,vg];refine⟨fun _ _=>trivial,?_⟩;exact Z m fl p _ w (G.quiet st D g hr.fresh l (fun _=>u1)<|fun _=>by rw[u2];simp[Ac,undef]) (B _) s
  ·simp only[u1,wk];refine⟨fun _ _=>trivial,?_⟩;rcases u with⟨u2,y,u4⟩|⟨u2,ob,f,y,u4,u5⟩|⟨u2,y⟩
   ·have Y:=X9 st D hd G E g hr u2 u1 y;obtain⟨v',p',w',O,N,g3⟩:=JN hC G.ext.rel G.gl z I Y;rw[yc _ _ _<|Hm Y,O,yd];have hi2:=G.along g3;exact Z m fl p' _ w' (hi2.quiet st D g hr.fresh l (fun h=>by rw[JO u2]at h;cases h) fun _=>N) (B _) s
   ·have hle:m<=pos i:=by
     rcases Qu st hd G E g hr.fresh with h|⟨k,ok,R,h2,T,h4,h5,h6⟩
     ·exact h
     ·rcases st.s4 k i ok o R g h2 u2 with h7|h7
      ·rw[h6]at h7;cases h7
      ·omega
    obtain⟨x,n,v',O,N,g3⟩:=Acd (P:=P) hC G.gl z y;rw[yc _ _ _<|jM u2,O,yd];exact Z m _ p _ _ (G.made st g u2 u1 hle D y N g3) (B _) s
   ·rw[l]at u2;cases u2
 |true=>
  obtain⟨hnr,J⟩:=QX l;have hle:m<=pos i:=by
   rcases yq (pos i) m with h|h
   ·exact wh ((G.mh i o g l).2 h) hr.fresh
   ·exact h
  have hpn:=(st.posp i hin).1;obtain⟨p1,d⟩:=Inv.adv st D (pos i-m) m G W ae (fun q R h2 oq hq=>by
   obtain⟨O,N⟩:=st.ordp q ae;refine⟨?_,fun U=>?_⟩
   ·cases hv:CY oq with
    |false=>rfl
    |true=>exact(PN st G g hr J hq hv (by rw[N];omega)<|by rw[N];omega).elim
   ·rcases st.s4 i (ord q) o oq g hq l U with T|T
    ·exact hr.all _ T
    ·rw[N]at T;omega)
  rw[show m+(pos i-m)=pos i from by omega]at d;have z:=operands st D d hd g hr fun k ok t hk U _ _ L=>st.apos _ _ L
  have B:∀x,ML ops pos sc (fun k=>S k\/k=i) (pos i+1) (a.put o.dst x):=fun x=>W.put st g hr.fresh hr ae fun k ok t tk _ _ _ _ h5=>by omega
  rw[RO z];have r:Rest ops pos (fun k=>S k\/k=i) (pos i+1):=.inr ⟨i,o,g,l,.inr rfl,rfl⟩;rcases D.step i o g with⟨u1,u2,y⟩|⟨u1,u⟩
  ·simp only[u1,zu,vg];refine⟨fun _ _=>trivial,?_⟩;have he:Ext p1 (Hh<|pos i) w p1 (Hh<|pos i+1) w:=by rw[y];exact yh d.ext.rel
   exact Z _ _ _ _ _ (d.wrote st D g l hr.fresh he<|by rw[u2];simp[Ac,undef]) (B _) r
  ·simp only[u1,wk];refine⟨fun _ _=>trivial,?_⟩;rcases u with⟨u2,y,u4⟩|⟨u2,ob,f,y,u4,u5⟩|⟨u2,y⟩
   ·rw[hnr]at u2;cases u2
   ·rw[J]at u2;cases u2
   ·unfold DU at y;split at y
    case h_4=>cases y
    case h_1=>
     rename_i vv hh A;simp only[ze,zl]at y;obtain⟨rfl,rfl⟩:=y;obtain⟨v',p',w',O,N,g3⟩:=JN hC d.ext.rel d.gl z I A;rw[yc _ _ _<|Hm A,O,yd];exact Z _ _ _ _ _ (d.wrote st D g l hr.fresh g3 N) (B _) r
    case h_2=>
     rename_i hh A;simp only[ze,zl]at y;obtain⟨u4,rfl⟩:=y;obtain⟨p',w',O,g3⟩:=JN hC d.ext.rel d.gl z I A;rw[yc _ _ _<|Hm A,O,Oper.uponIn_skip];exact Z _ _ _ _ _ (d.wrote st D g l hr.fresh g3<|by rw[<-u4];simp[Ac,undef]) (B _) r
    case h_3=>
     rename_i f args A;obtain⟨args',O,N⟩:=JN hC d.ext.rel d.gl z I A;rw[yc _ _ _<|Hm A,O,Oper.uponIn_enter];split at y
     case h_2=>cases y
     rename_i x1 x2 hcl;cases y;refine⟨fun h=>(by simp[FW,yi]at h),X0.2<|(hcall.fn f args _ _ hcl p1 w args' d.ext.rel d.gl N).mono ?_⟩;rintro e w' ⟨v',h',x',p',hm,rfl,k1,k2⟩;rw[zf]at hm;cases hm;exact Z _ _ _ _ _ (d.wrote st D g l hr.fresh k2 k1) (B _) r
theorem Inv.congr{c:Nat->Prop}(h:∀k,S k↔c k)(d:Inv C ops pos sc fr0 v Hh F p0 h0 w0 df S m fl p a w):Inv C ops pos sc fr0 v Hh F p0 h0 w0 df c m fl p a w:=by
 have e:S=c:=funext fun k=>propext<|h k
 exact e▸d
theorem ML.congr{c:Nat->Prop}(h:∀k,S k↔c k)(d:ML ops pos sc S m a):ML ops pos sc c m a:=by
 have e:S=c:=funext fun k=>propext<|h k
 exact e▸d
theorem Rest.congr{c:Nat->Prop}(h:∀k,S k↔c k)(d:Rest ops pos S m):Rest ops pos c m:=by
 have e:S=c:=funext fun k=>propext<|h k
 exact e▸d
def Ls(l:Array Bool)(k:Nat):Prop:=l.getD k false=true
theorem U2{l:Array Bool}(n:Nat)(j:l.size=n){i:Nat}(g:i<n)(r:l.getD i true=false):
  ((zq n).filter fun k=> !(l.setIfInBounds i true).getD k true).length<((zq n).filter fun k=> !l.getD k true).length:=by
 have sub:∀k,(!(l.setIfInBounds i true).getD k true)=true->(!l.getD k true)=true:=by
  intro k o;by_cases e:i=k
  ·subst e;simp[j,g]at o
  ·rwa [getD_set_ne true e]at o
 have key:∀(L:List Nat),(L.filter fun k=> !(l.setIfInBounds i true).getD k true).length<=(L.filter fun k=> !l.getD k true).length/\(i∈L->(L.filter fun k=> !(l.setIfInBounds i true).getD k true).length<(L.filter fun k=> !l.getD k true).length):=by
  intro L;induction L with
  |nil=>simp
  |cons x L f=>
   simp only[List.filter_cons];constructor
   ·by_cases c:(!(l.setIfInBounds i true).getD x true)=true
    ·rw[wd c,wd<|sub x c];simp only[zt];have:=f.1;omega
    ·rw[wc c];have:=f.1;split<;>(try simp only[zt])<;>omega
   ·intro q;by_cases e:i=x
    ·subst e;rw[wc (by simp[j,g]),wd<|by simp[r]];simp only[zt];have:=f.1;omega
    ·have d:i∈L:=by simpa [e]using q
     by_cases c:(!(l.setIfInBounds i true).getD x true)=true
     ·rw[wd c,wd<|sub x c];simp only[zt];have:=f.2 d;omega
     ·rw[wc c];have:=f.2 d;split<;>(try simp only[zt])<;>omega
 exact(key<|zq n).2 (by simpa using g)
theorem gN(hC:C.Ok P)(K:call.Ok C P)(st:Stat ops anc ord pos sc)(R:Canon C call ops anc ord pos fr0 h0 v Hh F){Q:Exit->Act->World->Prop}
  (hQ:∀p' W w',CR p' (F ops.size) W->Ext p0 h0 w0 p' (Hh ops.size) w'->W.defers=df->Q .normal W w') {ro:Option Nat} {nn:Nat}:
  ∀(d:Nat) (l:Array Bool),l.size=ops.size->((zq ops.size).filter fun k=> !l.getD k true).length<=d->∀ {m:Nat} {fl:Nat->Nat} {p:Pl} {a:Act} {w:World},
   Inv C ops pos sc fr0 v Hh F p0 h0 w0 df (Ls l) m fl p a w->ML ops pos sc (Ls l) m a->Down anc (Ls l)->Rest ops pos (Ls l) m->wpAnyIn (FW ro) nn P .any ops Q d l a w:=by
 have fin:∀(l:Array Bool),l.size=ops.size->yg .any ops l=[]->∀ {m:Nat} {fl:Nat->Nat} {p:Pl} {a:Act} {w:World},
   Inv C ops pos sc fr0 v Hh F p0 h0 w0 df (Ls l) m fl p a w->ML ops pos sc (Ls l) m a->Q .normal a w:=by
  intro l L r m fl p a w A u;have all:∀q,q<=ops.size->∀k,k<ops.size->pos k<q->Ls l k:=by
   intro q;induction q with
   |zero=>intro _ k _ h;omega
   |succ q Y=>
    intro hq k c hlt;by_cases e:pos k=q
    ·apply z8;intro I;have G:k∈yg .any ops l:=by
      rw[mem_ready];refine⟨?_,ops[k],by simp[c],fun e' he' hb=>?_⟩
      ·unfold Ls at I;have:k<l.size:=ae
       simp only[zk,yk this,yo]at I ⊢;simpa using I
      ·obtain⟨B,E⟩:=st.dir k _ e' (by simp[c]) he' hb;have h3:=st.apos _ _ B;exact Y ae e'.on E ae
     rw[r]at G;cases G
    ·exact Y ae k c ae
  have y:∀k,k<ops.size->Ls l k:=fun k c=>all ops.size (zo _) k c (st.posp k c).1
  obtain⟨p',f⟩:=Inv.adv st R (ops.size-m) m A u (by have:=A.mn;omega) (fun q B E o ho=>by
   obtain⟨T,g2⟩:=st.ordp q (by have:=A.mn;omega);refine⟨?_,fun _=>y _ T⟩;cases hv:CY o with
   |false=>rfl
   |true=>have:=(A.mh _ o ho hv).1<|y _ T;omega)
  rw[show m+(ops.size-m)=ops.size from by have:=A.mn;omega]at f;refine hQ p' a w ⟨by rw[R.fn _<|zo _,f.sz],fun t=>?_⟩ f.ext f.df;by_cases hw:∃(k:Nat) (ok:Oper),ops[k]?=some ok/\ok.dst=some t
  ·obtain⟨k,ok,c,s⟩:=hw;have J:=(zc.1 c).1;rw[Fw st R c s _ (zo _) (st.posp k J).1];exact f.slotw k ok t (y k J) c s fun _ _=>(st.posp k J).1
  ·rw[Fz st R _ (zo _) fun k ok c s _=>hw ⟨k,ok,c,s⟩];exact f.slot t fun k ok _ c s=>hw ⟨k,ok,c,s⟩
 intro d;induction d with
 |zero=>
  intro l L N m fl p a w A u Z z;have r:yg .any ops l=[]:=by
   cases hc:yg .any ops l with
   |nil=>rfl
   |cons k ks=>
    have hm:k∈yg .any ops l:=by rw[hc];simp
    obtain⟨B,o,E,_⟩:=mem_ready.1 hm;have c:=(zc.1 E).1;have:k∈(zq ops.size).filter fun k=> !l.getD k true:=List.mem_filter.2 ⟨by simpa using c,by simp[B]⟩
    have:=List.length_pos_of_mem this;omega
  exact⟨r,fin l L r A u⟩
 |succ d Y=>
  intro l L N m fl p a w A u Z z;refine⟨fun r=>fin l L r A u,fun i hm=>?_⟩;obtain⟨B,o,E,h3⟩:=mem_ready.1 hm;have hin:=(zc.1 E).1;have M:i<l.size:=ae
  have g:Sz anc (Ls l) i:=by
   refine⟨fun hs=>?_,fun k c=>?_⟩
   ·unfold Ls at hs;simp only[zk,yk M,yo]at hs B;rw[hs]at B;cases B
   ·obtain⟨o',e,T,g2,g3,g4⟩:=st.edge i k c;rw[E]at T;cases T;have U:=h3 e g2 g3;rcases g4 with g4|g4
    ·rw[<-g4];exact U
    ·exact Z e.on k U g4
  refine up hC K st R A u Z z E g fun m' fl' p' W w' f O D=>?_
  have X:∀k,(Ls l k\/k=i)↔Ls (l.setIfInBounds i true) k:=by
   intro k;unfold Ls;by_cases e:k=i
   ·subst e;simp[M]
   ·rw[getD_set_ne false<|fun x=>e x.symm];simp[e]
  refine Y (l.setIfInBounds i true) (by simpa using L) ?_ (f.congr X) (O.congr X) ?_<|D.congr X
  ·have:=U2 ops.size L hin B;omega
  ·intro j k hj c;rw[<-X]at hj ⊢;rcases hj with hj|rfl
   ·exact .inl<|Z j k hj c
   ·exact .inl<|g.all k c
theorem iV(x:C.Ok P)(d:call.Ok C P)(q:P.follows .mixedOrders=true)(st:Stat ops anc ord pos sc)(l:Canon C call ops anc ord pos fr0 h0 v Hh F){Q:Exit->Act->World->Prop}(hr:R p h0 w)(r:Gl C p)(g:CR p fr0 a)
  {id:Nat} (y:∀p' f w',CR p' (F ops.size) f->Ext p h0 w p' (Hh ops.size) w'->f.defers=a.defers->Q .normal f w') {ro:Option Nat} {s:Nat}:(yu id ops true).wpIn (FW ro) s P Q a w:=by
 refine wpIn_region_any q ?_;have u:=Ext.drew hr<|w.drawn+1;have c:∀k,¬Ls (yr ops.size false) k:=by
  intro k e;unfold Ls at e;rw[zk]at e;by_cases h:k<ops.size
  ·simp[h]at e
  ·rw[Array.getElem?_eq_none<|by simpa using h]at e;simp at e
 refine gN (p0:=p) (h0:=h0) (w0:=w) (df:=a.defers) x d st l y ops.size _ (by simp) (by simpa using List.length_filter_le _ (zq ops.size)) (m:=0) (fl:=fun _=>0) (p:=p)
  ⟨by rw[l.h0];exact u,r,Nat.zero_le _,fun k o _ _=>⟨fun h=>wh h<|c k,fun h=>by omega⟩,fun k o _ _ h=>by omega,g.1.symm,rfl,fun t _=>g.2 t,fun i o t h=>wh h<|c i,fun i o h=>wh h<|c i,fun i j o o' h=>wh h<|c i⟩
  ⟨fun i k o ok t tk h=>wh h<|c i⟩ (fun i k h=>wh h<|c i) (.inl rfl)
end
structure N0 where
 anc:List Nat
 ord:List Nat
 pos:List Nat
 sc:List (Option Nat)
def Ac5(acc:List Nat)(o:Oper):Nat:=
 o.after.toList.foldl (fun s e=>bif yf .any e then s|||(2^e.on|||acc.getD e.on 0)else s) 0
def yZ:List Oper->List Nat->List Nat
 |[],c=>c
 |o::os,c=>yZ os<|c++[Ac5 c o]
def tb(m i:Nat):Bool:=m.testBit i
def sub(a d:Nat):Bool:=zi (a&&&d) a
def JD(f:Nat->Oper->Bool):Nat->List Oper->Option Nat
 |_,[]=>none
 |i,o::os=>bif f i o then some i else JD f (i+1) os
def gB(f:Nat->Oper->Bool):Nat->List Oper->List Nat
 |_,[]=>[]
 |i,o::os=>bif f i o then i::gB f (i+1) os else gB f (i+1) os
def WE(ops:List Oper)(anc:List Nat):Nat->Nat->List Nat->List Nat
 |0,_,out=>out.reverse
 |fuel+1,d,out=>
  match JD (fun i o=>EE o&& !tb d i&&sub (anc.getD i 0) d) 0 ops with
  |some i=>WE ops anc fuel (d|||2^i) (i::out)
  |none=>
   match JD (fun i o=>CY o&& !tb d i) 0 ops with
   |some k=>
    let c:=gB (fun i o=>CH o&& !tb d i&&tb (anc.getD k 0) i) 0 ops
    bif c.isEmpty then WE ops anc fuel (d|||2^k) (k::out)
    else WE ops anc fuel (c.foldl (fun s i=>s|||2^i) d)<|c.reverse++out
   |none=>
    match JD (fun i o=>CH o&& !tb d i) 0 ops with
    |some i=>WE ops anc fuel (d|||2^i) (i::out)
    |none=>out.reverse
def idx(l:List Nat)(i:Nat):Nat:=l.getD i 0
def Aep(ord:List Nat)(n:Nat):List Nat:=(zq n).map fun i=>ord.idxOf i
def Ts(o:Oper):Option Tmp:=
 match o.guard,o.op with
 |none,.assign (.tmp t)=>some t
 |none,.move (.tmp t)=>some t
 |_,_=>none
def AfF(ops:List Oper)(anc:List Nat)(i:Nat)(o:Oper):Option Nat:=
 match Ts o with
 |some t=>
  match JD (fun k x=>CH x&&(x.dst==some t)&&tb (anc.getD i 0) k) 0 ops with
  |some k=>match JD (fun h x=>CY x&&tb (anc.getD h 0) k&&tb (anc.getD i 0) h) 0 ops with
   |none=>some k
   |some _=>none
  |none=>none
 |none=>none
def EZ(ops:Array Oper):N0:=
 let anc:=yZ ops.toList []
 let ord:=WE ops.toList anc (3*ops.size+3) 0 []
 ⟨anc,ord,Aep ord ops.size,ops.toList.zipIdx.map fun(o,i)=>AfF ops.toList anc i o⟩
def N0.s(pl:N0)(i:Nat):Option Nat:=pl.sc.getD i none
def N0.a(pl:N0)(j i:Nat):Bool:=(idx pl.anc j).testBit i
def Za(ops:Array Oper)(f:Nat->Oper->Nat->Oper->Bool):Bool:=
 ops.toList.zipIdx.all fun(o,i)=>ops.toList.zipIdx.all fun(o',j)=>f i o j o'
def Iv(ops:Array Oper)(pl:N0):Bool:=
 let n:=ops.size
 let A:=pl.a
 let pos:=idx pl.pos
 let ord:=idx pl.ord
 Region.noSelect ops&&
 ((zq n).all fun q=>zz (ord q) n&&zi (pos<|ord q) q)&&
 ((zq n).all fun i=>zz (pos i) n&&zi (ord<|pos i) i)&&
 (pl.anc.length==n)&&(pl.ord.length==n)&&
 (pl.sc.zipIdx.all fun(s,i)=>match s with
  |none=>true
  |some k=>match ops[i]?,ops[k]? with
   |some o,some ok=>match Ts o with
    |some t=>CH ok&&(ok.dst==some t)&&A i k
    |none=>false
   |_,_=>false)&&
 (ops.toList.zipIdx.all fun(o,j)=>zz (idx pl.anc j) (2^n)&&
  ((zq n).all fun i=> !A j i||((o.after.toList.any fun e=>yf .any e&&(zi e.on i||A e.on i))&&zz (pos i) (pos j)))&&
  (o.after.toList.all fun e=> !yf .any e||(A j e.on&&zz e.on n)))&&
 (Za ops fun i o j o'=>
  (!(CY o&&CY o')||zi i j||A i j||A j i)&&
  (!(CY o&&EE o')||A j i||zz (pos j) (pos i))&&
  (!((CH o||(pl.s i).isSome)&& !CY o')|| !A j i||(match o.dst with|some t=> !((reads ops o').contains t)|none=>true)||(pl.s j==some i)||(ops.toList.zipIdx.any fun(x,k)=>CY x&&A k i&&A j k))&&
  (!(CY o&&CH o')||A i j||zz (pos i) (pos j))&&
  (!(EE o&&Ps o&&CH o')|| !zz (pos j) (pos i)||(ops.toList.zipIdx.any fun(x,k)=>CY x&&zz (pos j) (pos k)&&zz (pos k) (pos i)))&&
  (zi i j||(match o.dst with
   |none=>true
   |some t=> !(o'.dst==some t)&&(!((reads ops o').contains t)||A j i||A i j))))
theorem JL{ops:Array Oper}{i:Nat}{o:Oper}(h:ops[i]?=some o):(o,i)∈ops.toList.zipIdx:=by
 have:=(zc.1 h);obtain⟨d,c⟩:=this;rw[zw];simpa using h
theorem qF{ops:Array Oper}{i:Nat}{o:Oper}(h:(o,i)∈ops.toList.zipIdx):ops[i]?=some o:=by
 rw[zw]at h;simpa using h
theorem V3{o:Oper}{t:Tmp}(h:Ts o=some t):(o.op=.assign (.tmp t)\/o.op=.move (.tmp t))/\o.guard=none:=by
 unfold Ts at h;split at h
 ·cases h;rename_i d c;exact⟨.inl c,d⟩
 ·cases h;rename_i d c;exact⟨.inr c,d⟩
 ·cases h
theorem ZC{ops:Array Oper}{pl:N0}(K:Iv ops pl=true):Stat ops pl.a (idx pl.ord) (idx pl.pos) pl.s:=by
 unfold Iv at K;simp only[zd]at K;obtain⟨⟨⟨⟨⟨⟨⟨h0,R⟩,O⟩,h3⟩,_⟩,N⟩,A⟩,h5⟩:=K;simp only[zm,yv,zd,yp,Bw,w5]at R O;simp only[zm]at A;have u:∀(i j:Nat) (o o':Oper),ops[i]?=some o->ops[j]?=some o'->_:=fun i j o o' g f=>zm.1 (zm.1 h5 (o,i)<|JL g) (o',j)<|JL f
 simp only[zd,zp,zx,Bw,w5,HH,w9,Bool.and_eq_false_imp]at u;have l:∀(j i:Nat),pl.a j i=true->j<ops.size/\i<ops.size:=by
  intro j i h;have f:j<ops.size:=by
   rcases yq j ops.size with c|c
   ·exact c
   ·have hl:pl.anc.length=ops.size:=by simpa using h3
    unfold N0.a idx at h;rw[zy,List.getElem?_eq_none ae]at h;simp at h
  refine⟨f,?_⟩;have c:=A (ops[j],j) (JL<|by simp[f]);simp only[zd,yp]at c;rcases yq i ops.size with d|d
  ·exact d
  ·have y:=c.1.1;have Y:idx pl.anc j<2^i:=Nat.lt_of_lt_of_le y (Nat.pow_le_pow_right ae d);unfold N0.a at h;rw[Nat.testBit_lt_two_pow Y]at h;cases h
 refine⟨h0,fun q N=>R q N,fun i g=>O i g,fun j i h=>?_,fun j o e f I hb=>?_,fun j i h=>?_,fun i j o o' g f E U z=>?_,fun i j o o' g f E hr=>?_,fun i k h=>?_,fun j k o o' t f Z G E B r h=>?_,fun i j o o' g f E G=>?_,
  fun i j o o' g f hr L G hlt=>?_,fun i j o o' t g f z B=>?_⟩
 ·obtain⟨f,g⟩:=l j i h;have c:=A (ops[j],j) (JL<|by simp[f]);simp only[zd,zm,yv,zp,zx]at c;rcases c.1.2 i g with d|d
  ·rw[h]at d;cases d
  ·obtain⟨e,I,y⟩:=ye.1 d.1;simp only[zd,zp,Bw,w5]at y;exact⟨ops[j],e,by simp[f],by simpa using I,y.1,y.2⟩
 ·have c:=A (o,j)<|JL f;simp only[zd,zm,zp,zx,yp]at c;rcases c.2 e (by simpa using I)with d|d
  ·rw[hb]at d;cases d
  ·exact d
 ·obtain⟨f,g⟩:=l j i h;have c:=A (ops[j],j) (JL<|by simp[f]);simp only[zd,zm,yv,zp,zx,yp]at c;rcases c.1.2 i g with d|d
  ·rw[h]at d;cases d
  ·exact d.2
 ·have:=(u i j o o' g f).1.1.1.1.1;simp_all
 ·have:=(u i j o o' g f).1.1.1.1.2;simp_all
 ·have r:(pl.s i,i)∈pl.sc.zipIdx:=by
   rw[zw];unfold N0.s at h ⊢;rw[zy]at h ⊢;cases T:pl.sc[i]? with
   |none=>rw[T]at h;cases h
   |some x=>rfl
  have c:=zm.1 N _ r;simp only[h]at c;split at c
  case h_2=>cases c
  rename_i o ok X J;split at c
  case h_2=>cases c
  rename_i t B;simp only[zd,wj]at c;obtain⟨g1,W⟩:=V3 B;exact⟨o,ok,t,X,J,g1,W,c.1.1,c.1.2,c.2⟩
 ·have c:=(u j k o o' f Z).1.1.1.2;have D:(CH o||(pl.s j).isSome)=true:=by simpa using G
  rw[E,h,B]at c;have hc:(reads ops o').contains t=true:=by simpa using r
  simp only[zp]at D;simp only[hc,Bool.not_false,Bool.not_true,zu,or_false,Bool.true_eq_false]at c;rcases c with(c|c)|c
  ·exact wh D (fun d=>by simpa using c d)
  ·exact .inl (by simpa using c)
  ·obtain⟨⟨x,i⟩,M,d⟩:=ye.1 c;simp only[zd]at d;exact .inr ⟨i,x,qF M,d.1.1,d.1.2,d.2⟩
 ·have:=(u i j o o' g f).1.1.2;simp_all
 ·have c:=(u i j o o' g f).1.2;rw[hr,L,G]at c;simp only[vf,forall_const,Bool.true_eq_false,false_or]at c;rcases c with c|c
  ·omega
  ·obtain⟨⟨x,k⟩,r,d⟩:=ye.1 c;simp only[zd,w5]at d;exact⟨k,x,qF r,d.1.1,d.1.2,d.2⟩
 ·have c:=(u i j o o' g f).2;rcases c with c|c
  ·exact wh c z
  ·rw[B]at c;simp only[zd,zx,zp,vc]at c;refine⟨c.1,fun r=>?_⟩;rcases c.2 with(d|d)|d
   ·have:(reads ops o').contains t=true:=by simpa using r
    rw[this]at d;cases d
   ·exact .inl d
   ·exact .inr d
theorem yM{ops:Array Oper}{pl:N0}(c:Iv ops pl=true):pl.ord.length=ops.size:=by
 unfold Iv at c;simp only[zd]at c;obtain⟨⟨⟨⟨⟨⟨⟨h0,f⟩,e⟩,j⟩,d⟩,g⟩,i⟩,l⟩:=c;simpa using d
mutual
def V.beq:V->V->Bool
 | .bool a,.bool b=>a==b
 | .int k a,.int l b=>k==l&&a==b
 | .str a,.str b=>a==b
 | .nilp,.nilp=>true
 | .ptr a i,.ptr b j=>zi a b&&zi i j
 | .nils,.nils=>true
 | .sl a b c d e,.sl q b' r o s=>zi a q&&zi b b'&&zi c r&&zi d o&&zi e s
 | .esl,.esl=>true
 | .es0,.es0=>true
 | .junk,.junk=>true
 | .nilm,.nilm=>true
 | .map a,.map b=>zi a b
 | .yld a,.yld b=>zi a b
 | .nilf,.nilf=>true
 | .nili,.nili=>true
 | .fn f a b,.fn g c d=>f==g&&V.Mi a c&&V.Mi b d
 | .iface t x,.iface u y=>zi t u&&V.beq x y
 | .agg a,.agg b=>V.Mi a b
 | .tup a,.tup b=>V.Mi a b
 |_,_=>false
def V.Mi:List V->List V->Bool
 |[],[]=>true
 |a::c,b::d=>V.beq a b&&V.Mi c d
 |_,_=>false
end
mutual
theorem V.beq_eq:∀ {a b:V},V.beq a b=true->a=b:=by
 intro a b h;cases a<;>cases b<;>simp only[V.beq]at h<;>first
  |(cases h;done)
  |rfl
  |(simp only[zd,wj,Bw,w5]at h;first|(obtain rfl:=h;rfl)|(obtain⟨rfl,rfl⟩:=h;rfl)|(obtain⟨⟨⟨⟨rfl,rfl⟩,rfl⟩,rfl⟩,rfl⟩:=h;rfl))
  |skip
 case fn.fn f a b g c d=>
  simp only[zd,wj]at h;rw[h.1.1,V.Ik h.1.2,V.Ik h.2]
 case iface.iface t x u y=>
  simp only[zd,Bw,w5]at h;rw[h.1,V.beq_eq h.2]
 case agg.agg a b=>rw[V.Ik h]
 case tup.tup a b=>rw[V.Ik h]
theorem V.Ik:∀ {a b:List V},V.Mi a b=true->a=b
 |[],[],_=>rfl
 |[],_::_,h=>by simp[V.Mi]at h
 |_::_,[],h=>by simp[V.Mi]at h
 |a::c,b::d,h=>by
  simp only[V.Mi,zd]at h;rw[V.beq_eq h.1,V.Ik h.2]
end
structure Rc where
 i:Nat
 o:Oper
 f:Fr
 v:V
structure St where
 f:Fr
 h:H
 r:List Rc
def still(C:Ctx)(anc:Nat->Nat->Bool)(i:Nat)(h:H)(r:Rc):Bool:=
 anc i r.i||(match GN C r.f h r.o with
  |some (.val x _)=>V.beq x r.v
  |_=>false)
def Iz(C:Ctx)(call:DO)(ops:Array Oper)(anc:Nat->Nat->Bool)(i:Nat)(s:St):Option (V×St):=
 match ops[i]? with
 |none=>none
 |some o=>
  bif Bg s.f ops o then
   bif EE o then
    match GN C s.f s.h o with
    |some (.val v _)=>match s.f.put o.dst v with
     |some c=>some (v,⟨c,s.h,bif Ps o then⟨i,o,s.f,v⟩::s.r else s.r⟩)
     |none=>none
    |_=>none
   else bif CH o then
    match fI C s.f o with
    |some (ob,f)=>match s.f.put o.dst (f s.h.nx)with
     |some c=>some (f s.h.nx,⟨c,s.h.push ob,s.r⟩)
     |none=>none
    |none=>none
   else
    match DU C call s.f s.h o with
    |some (v,h')=>match s.f.put o.dst v with
     |some c=>bif s.r.all (still C anc i h')then some (v,⟨c,h',s.r⟩)else none
     |none=>none
    |none=>none
  else
   match s.f.put o.dst (.tup [])with
   |some c=>bif CY o then(bif s.r.all (still C anc i s.h)then some (.tup [],⟨c,s.h,s.r⟩)else none)else some (.tup [],⟨c,s.h,s.r⟩)
   |none=>none
def Wc(C:Ctx)(call:DO)(ops:Array Oper)(anc:Nat->Nat->Bool):List Nat->St->Option St
 |[],s=>some s
 |i::d,s=>match Iz C call ops anc i s with
  |some (_,c)=>Wc C call ops anc d c
  |none=>none
def Jz(C:Ctx)(call:DO)(ops:Array Oper)(fr:Fr)(h:H):Option (Fr×H):=
 match Wc C call ops (EZ ops).a (EZ ops).ord ⟨fr,h,[]⟩with
 |some s=>some (s.f,s.h)
 |none=>none
def WN(C:Ctx)(call:DO)(ops:Array Oper)(fr:Fr)(h:H):Option (Fr×H):=
 bif Iv ops (EZ ops)then Jz C call ops fr h else none
def DY:Code->Bool
 | .region _ ops dr=>bif dr then Iv ops (EZ ops)else true
 | .seq a b=>DY a&&DY b
 | .cond _ a b=>DY a&&DY b
 | .block _ b=>DY b
 | .loop b=>DY b
 | .scope b=>DY b
 |_=>true
section
variable {C:Ctx}{P:Program}{call:DO}{ops:Array Oper}{p:Pl}{h:H}{w:World}{fr:Fr}{a:Act}
theorem Lm{f g:Fr}{d:Option Nat}{v:V}(h:f.put d v=some g):g.n=f.n/\(∀t,g.get t=if d=some t then v else f.get t)/\∀t,d=some t->t<f.n:=by
 unfold Fr.put at h;cases d with
 |none=>cases h;exact⟨rfl,fun t=>by simp,fun t h=>by cases h⟩
 |some s=>
  simp only[HH]at h;by_cases c:s<f.n
  ·simp only[c,decide_true,we,ze]at h;subst h;refine⟨rfl,fun t=>?_,fun t i=>by cases i;exact c⟩;unfold Fr.get;simp only[PM.Dq];by_cases e:t=s
   ·subst e;simp
   ·have:¬s=t:=fun x=>e x.symm
    simp[e,this]
  ·simp[c]at h
theorem Ef{anc:Nat->Nat->Bool}{i:Nat}{s g:St}{v:V}(c:Iz C call ops anc i s=some (v,g)):∃o,ops[i]?=some o/\g.f.n=s.f.n/\(∀t,g.f.get t=if o.dst=some t then v else s.f.get t)/\(∀t,o.dst=some t->t<s.f.n)/\
  ((Bg s.f ops o=false/\v=.tup []/\g.h=s.h)\/
   (Bg s.f ops o=true/\
   ((EE o=true/\GN C s.f s.h o=some (.val v s.h)/\g.h=s.h)\/
    (CH o=true/\∃ob f,fI C s.f o=some (ob,f)/\v=f s.h.nx/\g.h=s.h.push ob)\/
    (CY o=true/\DU C call s.f s.h o=some (v,g.h)))))/\
  (∀r∈s.r,r∈g.r)/\(EE o=true->Ps o=true->Bg s.f ops o=true->⟨i,o,s.f,v⟩∈g.r)/\
  (CY o=true->∀r∈s.r,still C anc i g.h r=true):=by
 unfold Iz at c;split at c
 case h_1=>cases c
 rename_i o I;refine⟨o,I,?_⟩;cases E:Bg s.f ops o with
 |false=>
  simp only[E,wg]at c;split at c
  case h_2=>cases c
  rename_i B hp;obtain⟨j,l,q⟩:=Lm hp;cases x:CY o with
  |false=>
   simp only[x,wg,ze,zl]at c;obtain⟨rfl,rfl⟩:=c;exact⟨j,l,q,.inl ⟨rfl,rfl,rfl⟩,fun r hr=>hr,fun _ _ h=>(by cases h),fun h=>(by cases h)⟩
  |true=>
   simp only[x,we]at c;cases u:s.r.all (still C anc i s.h)with
   |false=>simp[u]at c
   |true=>
    simp only[u,we,ze,zl]at c;obtain⟨rfl,rfl⟩:=c;exact⟨j,l,q,.inl ⟨rfl,rfl,rfl⟩,fun r hr=>hr,fun _ _ h=>(by cases h),fun _ r hr=>zm.1 u r hr⟩
 |true=>
  simp only[E,we]at c;cases d:EE o with
  |true=>
   simp only[d,we]at c;split at c
   case h_2=>cases c
   rename_i v1 D z;split at c
   case h_2=>cases c
   rename_i B hp;simp only[ze,zl]at c;obtain⟨rfl,rfl⟩:=c;obtain⟨j,l,q⟩:=Lm hp;obtain⟨v2,hv2⟩:=rd_val d z;cases hv2;refine⟨j,l,q,.inr ⟨rfl,.inl ⟨rfl,z,rfl⟩⟩,fun r hr=>?_,fun _ G _=>?_,fun x=>by rw[(QX x).1]at d;cases d⟩
   ·cases Ps o<;>simp[hr]
   ·simp[G]
  |false=>
   simp only[d,wg]at c;cases e:CH o with
   |true=>
    simp only[e,we]at c;split at c
    case h_2=>cases c
    rename_i ob f y;split at c
    case h_2=>cases c
    rename_i B hp;simp only[ze,zl]at c;obtain⟨rfl,rfl⟩:=c;obtain⟨j,l,q⟩:=Lm hp;exact⟨j,l,q,.inr ⟨rfl,.inr<|.inl ⟨rfl,ob,f,y,rfl,rfl⟩⟩,fun r hr=>hr,fun h=>(by cases h),fun x=>by rw[(QX x).2]at e;cases e⟩
   |false=>
    simp only[e,wg]at c;split at c
    case h_2=>cases c
    rename_i v1 D A;split at c
    case h_2=>cases c
    rename_i B hp;obtain⟨j,l,q⟩:=Lm hp;cases u:s.r.all (still C anc i D)with
    |false=>simp[u]at c
    |true=>
     simp only[u,we,ze,zl]at c;obtain⟨rfl,rfl⟩:=c;exact⟨j,l,q,.inr ⟨rfl,.inr<|.inr ⟨by simp[CY,d,e],A⟩⟩,fun r hr=>hr,fun h=>(by cases h),fun _ r hr=>zm.1 u r hr⟩
theorem NG{anc:Nat->Nat->Bool}:∀(L:List Nat) (s d:St),Wc C call ops anc L s=some d->
  ∃(c:Nat->St) (f:Nat->V),c 0=s/\c L.length=d/\∀(q i:Nat),L[q]?=some i->Iz C call ops anc i (c q)=some (f q,c<|q+1)
 |[],s,d,h=>by
  cases h;exact⟨fun _=>s,fun _=>.nilp,rfl,rfl,fun q i h=>by simp at h⟩
 |i::L,s,d,h=>by
  unfold Wc at h;split at h
  case h_2=>cases h
  rename_i v s1 o;obtain⟨c,f,h0,l,g⟩:=NG L s1 d h;refine⟨fun q=>match q with|0=>s|q+1=>c q,fun q=>match q with|0=>v|q+1=>f q,rfl,by simpa using l,fun q j e=>?_⟩;cases q with
  |zero=>simp at e;subst e;simp only[h0];exact o
  |succ q=>simp at e;exact g q j e
theorem gO{pl:N0}(W:Iv ops pl=true){M:St}(hd:Wc C call ops pl.a pl.ord ⟨fr,h,[]⟩=some M):
  ∃(v:Nat->V) (Hh:Nat->H) (F:Nat->Fr),Canon C call ops pl.a (idx pl.ord) (idx pl.pos) fr h v Hh F/\Hh ops.size=M.h/\F ops.size=M.f:=by
 have st:=ZC W;have X:=yM W;obtain⟨D,Y,h0,Z,hq⟩:=NG pl.ord _ _ hd;have DU:∀q,q<ops.size->Iz C call ops pl.a (idx pl.ord q) (D q)=some (Y q,D<|q+1):=by
  intro q l;refine hq q _ ?_;unfold idx;rw[zy,yn ae];rfl
 have I:∀q,q<=ops.size->(D q).f.n=fr.n:=by
  intro q;induction q with
  |zero=>intro _;rw[h0]
  |succ q U=>
   intro l;obtain⟨o,_,R,_⟩:=Ef (DU q ae);rw[R,U ae]
 have A:∀q z,q<=z->z<=ops.size->∀r∈(D q).r,r∈(D z).r:=by
  intro q z hle;induction z with
  |zero=>
   intro _ r hr;have:q=0:=ae
   subst this;exact hr
  |succ z U=>
   intro l r hr;by_cases e:q=z+1
   ·subst e;exact hr
   ·obtain⟨o,_,_,_,_,_,g,_⟩:=Ef (DU z ae);exact g r (U ae ae r hr)
 refine⟨fun i=>Y<|idx pl.pos i,fun q=>(D q).h,fun q=>(D q).f,⟨by simp[h0],by simp[h0],I,fun q l o s t=>?_,fun i o t s ht=>?_,fun i o s=>?_,fun i j o oj s hj N J O hw hlt K=>?_⟩,by simp[<-X,Z],by simp[<-X,Z]⟩
 ·obtain⟨o',c,_,R,_⟩:=Ef<|DU q l;rw[s]at c;cases c;simp only[(st.ordp q l).2];exact R t
 ·have d:=(zc.1 s).1;have hp:=st.posp i d;obtain⟨o',c,_,_,g2,_⟩:=Ef<|DU _ hp.1;rw[hp.2,s]at c;cases c;rw[<-I _ (yz hp.1)];exact g2 t ht
 ·have d:=(zc.1 s).1;have hp:=st.posp i d;obtain⟨o',c,_,_,_,g3,_⟩:=Ef<|DU _ hp.1;rw[hp.2,s]at c;cases c;exact g3
 ·have d:=(zc.1 s).1;have T:=(zc.1 hj).1;have u:=st.posp i d;have B:=st.posp j T;obtain⟨o',c,_,_,_,_,_,g4,_⟩:=Ef<|DU _ B.1;rw[B.2,hj]at c;cases c;have L:=A _ (idx pl.pos i) ae (yz u.1) _<|g4 J O hw;obtain⟨o'',c,_,_,_,_,_,_,g5⟩:=Ef<|DU _ u.1;rw[u.2,s]at c;cases c;have E:=g5 N _ L;unfold still at E;rw[B.2]at E;rw[u.2,K]at E;simp only[Bool.false_or]at E;split at E
  case h_2=>cases E
  rename_i x hx G;obtain⟨y,hy⟩:=rd_val J G;cases hy;rw[V.beq_eq E]at G;exact G
theorem Ql(g:Iv ops (EZ ops)=true)(y:C.Ok P)(c:call.Ok C P)(i:P.follows .mixedOrders=true)(hr:R p h w)(j:Gl C p)(u:CR p fr a){fr':Fr}{h':H}(f:Jz C call ops fr h=some (fr',h')){id:Nat}{ro:Option Nat}{r:Nat}{Q:Exit->Act->World->Prop}
  (A:∀p' d w',CR p' fr' d->Ext p h w p' h' w'->d.defers=a.defers->Q .normal d w'):(yu id ops true).wpIn (FW ro) r P Q a w:=by
 unfold Jz at f;split at f
 case h_2=>cases f
 rename_i s e;cases f;obtain⟨v,Hh,F,x,q,o⟩:=gO g e;refine iV y c i (ZC g) x hr j u fun p' d w' l t z=>A p' d w' ?_ ?_ z
 ·rw[<-o];exact l
 ·rw[<-q];exact t
theorem aY(o:C.Ok P)(c:call.Ok C P)(g:P.follows .mixedOrders=true)(hr:R p h w)(i:Gl C p)(l:CR p fr a){fr':Fr}{h':H}(d:WN C call ops fr h=some (fr',h')){id:Nat}{ro:Option Nat}{j:Nat}{Q:Exit->Act->World->Prop}
  (q:∀p' e w',CR p' fr' e->Ext p h w p' h' w'->e.defers=a.defers->Q .normal e w'):(yu id ops true).wpIn (FW ro) j P Q a w:=by
 unfold WN at d;cases f:Iv ops (EZ ops)with
 |false=>simp[f]at d
 |true=>
  simp only[f,we]at d;exact Ql f o c g hr i l d q
end
section
variable {P:Program}{F:Fence}{n:Nat}{b:Frame}{a:Act}{k:List Item}{cs:List Frame}{w:World}{Q:Exit->Act->World->Prop}
theorem Ew{c:Code}:step P (lone (b.atR a (.code (.scope c)::k)) cs w)=.next (lone (b.atR a (.code c:: .inScope c::k)) cs w):=
 step_lone_go (by simp[stepG,stepG.exec,Frame.atR])
theorem Rx{c:Code}:step P (lone (b.atR a (.inScope c::k)) cs w)=.next (lone (b.atR a k) cs w):=
 step_lone_go (by simp[stepG,stepG.exec,Frame.atR])
theorem Ka{c:Code}(h:c.wpIn F n P (Exit.noGoto Q) a w):(Code.scope c).wpIn F n P Q a w:=by
 intro b k cs o r hr;have h0:(lone (b.atR a (.code (.scope c)::k)) cs w).fenced P F:=fenced_calm r hr rfl;obtain⟨e,g,f,i,d⟩:=h b (.inScope c::k) cs o r hr;cases e with
 |normal=>exact⟨.normal,g,f,i,.head h0 Ew<|StepsIn.trans d<|.one (fenced_calm r hr rfl) Rx⟩
 |exit id=>
  have s:exitTo id (.inScope c::k)=exitTo id k:=by simp[exitTo]
  exact⟨.exit id,g,f,i,fun t q=>.head h0 Ew (d.1 t<|by rw[s];exact q),
   fun j q=>let ⟨k₁,h1,h2⟩:=d.2 j (by rw[s];exact q);⟨k₁,h1,.head h0 Ew h2⟩⟩
 |goto l=>exact i.elim
 |ret=>exact⟨_,g,f,i,.of_steps (.one h0 Ew) d⟩
 |panic u=>exact⟨_,g,f,i,.of_steps (.one h0 Ew) d⟩
 |outgrown=>exact⟨_,g,f,i,.of_steps (.one h0 Ew) d⟩
end
structure X where
 e:DX
 fr:Fr
 h:H
 ds:List Nat
def XP(ro:Option Nat)(fr:Fr)(h:H)(ps:Array Tmp)(asg body:Code)(ds:List Nat):Option (Nat×H×List Nat):=
 match ro with
 |none=>some (h.nx+1,(h.push<|.defd true).push<|.loop ⟨.ready,none,fr,ps,asg,body,h.nx⟩,h.nx::ds)
 |some b=>match h.get b with
  |some (.loop l)=>some (h.nx,h.push<|.loop ⟨.ready,none,fr,ps,asg,body,l.db⟩,ds)
  |_=>none
def BX(C:Ctx)(call:DO)(ro:Option Nat)(ct:Bool):Nat->Code->Fr->H->List Nat->Option (List X)
 |0,_,_,_,_=>none
 |m+1,c,fr,h,ds=>
  match c with
  | .skip| .label _=>some [⟨.normal,fr,h,ds⟩]
  | .region _ ops dr=>bif dr then(match (bif ct then Jz C call ops fr h else WN C call ops fr h)with
    |some (fr',h')=>some [⟨.normal,fr',h',ds⟩]
    |none=>none)
   else(match Ug C call ops ops.toList fr h with
    |some l=>some<|l.map fun x=>⟨.normal,x.1,x.2,ds⟩
    |none=>none)
  | .seq a b=>match BX C call ro ct m a fr h ds with
   |some l=>bl l fun x=>match x.e with
    | .normal=>BX C call ro ct m b x.fr x.h x.ds
    |_=>some [x]
   |none=>none
  | .cond x a b=>match ev C fr x with
   |some (.bool true)=>BX C call ro ct m a fr h ds
   |some (.bool false)=>BX C call ro ct m b fr h ds
   |_=>none
  | .block id b=>match BX C call ro ct m b fr h ds with
   |some l=>some<|l.map fun x=>match x.e with
    | .exit i=>bif zi i id then { x with e:=.normal }else x
    |_=>x
   |none=>none
  | .loop b=>match BX C call ro ct m b fr h ds with
   |some l=>bl l fun x=>match x.e with
    | .normal=>BX C call ro ct m (.loop b) x.fr x.h x.ds
    |_=>some [x]
   |none=>none
  | .exit i=>some [⟨.exit i,fr,h,ds⟩]
  | .ret=>some [⟨.ret,fr,h,ds⟩]
  | .scope b=>BX C call ro ct m b fr h ds
  | .rangeFunc g ps asg body=>match XP ro fr h ps asg body ds,ev C fr g with
   |some (b,j,d),some o=>match Mg C j o [.yld b]with
    |some (.enter f args)=>match call (.fn f args) j with
     |some l=>bl l fun x=>match x.2.get b with
      |some (.loop ls)=>match ls.st,ls.pend with
       | .busy,_=>none
       |_,none=>some [⟨.normal,fr,x.2.put b<|.loop { ls with st:=.exhausted },d⟩]
       |_,some c=>BX C call ro false m c fr (x.2.put b<|.loop { ls with st:=.exhausted }) d
      |_=>none
     |none=>none
    |_=>none
   |_,_=>none
  |_=>none
def It(p:Pl):List Nat->List Deferred->Prop
 |[],l=>l=[]
 |b::c,l=>∃r n l',p[b]?=some (r,n)/\l={ target:=.collected r,args:= #[] }::l'/\It p c l'
theorem H7{p:Pl}(q:Pl){b:Nat}{x:Nat×Nat}(h:p[b]?=some x):(p++q)[b]?=some x:=by
 rw[z7 (List.getElem?_eq_some_iff.1 h).1];exact h
theorem It.mono{p:Pl}(q:Pl):∀ {ds:List Nat} {l:List Deferred},It p ds l->It (p++q) ds l
 |[],_,h=>h
 |_b::_bs,_l,⟨r,n,l',d,c,e⟩=>⟨r,n,l',H7 q d,c,e.mono q⟩
theorem It.ext{p p':Pl}{h h':H}{w w':World}(e:Ext p h w p' h' w'){ds:List Nat}{l:List Deferred}(c:It p ds l):It p' ds l:=by
 obtain⟨q,rfl⟩:=e.pre;exact c.mono q
def Sw(p:Pl):Option Nat->Option Nat->Prop
 |none,none=>True
 |some b,some r=>∃n,p[b]?=some (r,n)
 |_,_=>False
theorem Sw.ext{p p':Pl}{h h':H}{w w':World}(e:Ext p h w p' h' w'){ro k:Option Nat}(c:Sw p ro k):Sw p' ro k:=by
 obtain⟨q,rfl⟩:=e.pre;cases ro with
 |none=>cases k with
  |none=>trivial
  |some r=>exact c.elim
 |some b=>
  cases k with
  |none=>exact c
  |some r=>obtain⟨n,d⟩:=c;exact⟨n,H7 q d⟩
theorem Ext.at{p p':Pl}{h h':H}{w w':World}(e:Ext p h w p' h' w'){b:Nat}{x:Nat×Nat}(c:p[b]?=some x):p'[b]?=some x:=by
 obtain⟨q,rfl⟩:=e.pre;exact H7 q c
section
variable {C:Ctx}{P:Program}{call:DO}{ops:Array Oper}{p:Pl}{h:H}{w:World}{fr:Fr}{a:Act}
theorem JB(hr:R p h w)(y:CR p fr a){ro k:Option Nat}(d:Sw p ro k){ps:Array Tmp}{asg body:Code}{ds g:List Nat}(i:It p ds a.defers){b:Nat}{e:H}
  (c:XP ro fr h ps asg body ds=some (b,e,g)) (fn:FuncId):∃l mark z t n,(Instr.enterLoop fn a.tmps ps asg body k).run P w=.ok (l,mark) z/\Ext p h w t e z/\t[b]?=some (l,n)/\It t g (mark++a.defers):=by
 unfold XP at c;cases ro with
 |none=>
  cases k with
  |some k=>exact d.elim
  |none=>
   simp only[ze,zl]at c;obtain⟨rfl,rfl,rfl⟩:=c;have u:=Ext.push (n:=0) hr (o:=.defd true) (x:=.deferred<|some []) (by simp[Hl]);have f:(p++[(w.heap.size,0)])[h.nx]?=some (w.heap.size,0):=by rw[<-hr.len];simp
   have j:FE (p++[(w.heap.size,0)]) fr a.tmps:=FE.mono _ y;have q:=Ext.push (n:=0) u.rel (o:=.loop ⟨.ready,none,fr,ps,asg,body,h.nx⟩) (x:=.loop { state:=.ready,pending:=none,fn,tmps:=a.tmps,params:=ps,assign:=asg,body,defers:=w.heap.size })
    ⟨fn,a.tmps,_,_,j,f,rfl⟩
   refine⟨_,_,_,_,0,run_enterLoop_outer fn a.tmps ps asg body,u.trans q,?_,?_⟩
   ·have:h.nx+1=(p++[(w.heap.size,0)]).length:=by simp[hr.len]
    rw[this,List.getElem?_append_right<|zo _];simp only[Nat.sub_self,List.getElem?_cons_zero,ze,zl,ve];simp
   ·exact⟨w.heap.size,0,a.defers,H7 _ f,rfl,It.mono _<|It.mono _ i⟩
 |some A=>
  cases k with
  |none=>exact d.elim
  |some k=>
   simp only at c;split at c
   case h_2=>cases c
   rename_i l0 s;simp only[ze,zl]at c;obtain⟨rfl,rfl,rfl⟩:=c;obtain⟨n0,hn0⟩:=d;obtain⟨r',n',x,e,h2,f0,tmps,r,m,h3,h4,rfl⟩:=hr.obj _ _ s;rw[hn0]at e;cases e;have q:=Ext.push (n:=0) hr (o:=.loop ⟨.ready,none,fr,ps,asg,body,l0.db⟩) (x:=.loop { state:=.ready,pending:=none,fn,tmps:=a.tmps,params:=ps,assign:=asg,body,defers:=r })
    ⟨fn,a.tmps,_,_,y,h4,rfl⟩
   refine⟨w.heap.size,[],_,_,0,?_,q,?_,?_⟩
   ·unfold Instr.enterLoop;simp only[zj,run_getLoop h2,run_newObj_alloc,zh,zn,World.alloc]
   ·rw[<-hr.len];simp
   ·exact It.mono _ i
theorem Result.W4{α d:Type}{r:Result α}{f:α->World->Result d}{b:d}{w':World}(h:r.andThen f=.ok b w'):∃a c,r=.ok a c/\f a c=.ok b w':=by
 cases r with
 |ok a c=>exact⟨a,c,rfl,h⟩
 |halt x c=>simp[Result.andThen]at h
theorem Lo(hC:C.Ok P)(G:call.Ok C P)(hm:P.follows .mixedOrders=true){ro k:Option Nat}{n:Nat}:∀(m:Nat) (ct:Bool) (c:Code) {fr:Fr} {h:H} {ds:List Nat} {L:List X},(ct=true->DY c=true)->BX C call ro ct m c fr h ds=some L->
  ∀(p:Pl) (a:Act) (w:World) (Q:Exit->Act->World->Prop),R p h w->Gl C p->CR p fr a->It p ds a.defers->Sw p ro k->
   (∀x∈L,∀p' a' w',CR p' x.fr a'->Ext p h w p' x.h w'->It p' x.ds a'.defers->Q x.e.Uj a' w')->
   c.wpIn (FW k) n P Q a w/\∀b,c=.loop b->Code.roundsIn (FW k) n P b Q m a w
 |0,ct,c,fr,h,ds,L,D,o=>by cases o
 |m+1,ct,c,fr,h,ds,L,D,o=>by
  intro p a w Q hr M K B E J;have ih:∀ {ct:Bool} (c:Code) {fr:Fr} {h:H} {ds:List Nat} {L:List X},(ct=true->DY c=true)->BX C call ro ct m c fr h ds=some L->∀ {p:Pl} {a:Act} {w:World},R p h w->Gl C p->CR p fr a->It p ds a.defers->Sw p ro k->
    ∀ {Q:Exit->Act->World->Prop},(∀x∈L,∀p' a' w',CR p' x.fr a'->Ext p h w p' x.h w'->It p' x.ds a'.defers->Q x.e.Uj a' w')->
   c.wpIn (FW k) n P Q a w/\∀b,c=.loop b->Code.roundsIn (FW k) n P b Q m a w:=fun {ct} c {fr h ds L} D o {p a w} hr M K B E {Q} J=>Lo hC G hm m ct c D o p a w Q hr M K B E J
  cases c with
  |skip=>cases o;exact⟨wpIn_skip<|J _ (zf.2 rfl) p a w K (yh hr) B,fun b I=>by cases I⟩
  |label l=>cases o;exact⟨wpIn_label<|J _ (zf.2 rfl) p a w K (yh hr) B,fun b I=>by cases I⟩
  |region id ops dr=>
   refine⟨?_,fun b I=>by cases I⟩;simp only[BX]at o;cases dr with
   |true=>
    simp only[we]at o;split at o
    case h_2=>cases o
    rename_i fr1 h1 hs;cases o;refine(show ∀ {Q':Exit->Act->World->Prop},(∀p' a' w',CR p' fr1 a'->Ext p h w p' h1 w'->a'.defers=a.defers->Q' .normal a' w')->(yu id ops true).wpIn (FW k) n P Q' a w from fun {Q'} Z=>?_) fun O a1 N t j q=>J _ (zf.2 rfl) O a1 N t j<|q▸B.ext j
    cases ct with
    |false=>exact aY hC G hm hr M K hs Z
    |true=>exact Ql (by simpa [DY]using D rfl) hC G hm hr M K hs Z
   |false=>
    simp only[wg]at o;split at o
    case h_2=>cases o
    rename_i l hs;cases o;exact X8 hC G hr M K hs fun x hx O a1 N t j q=>J _ (y7.2 ⟨x,hx,rfl⟩) O a1 N t j<|q▸B.ext j
  |seq x y=>
   refine⟨wpIn_seq ?_,fun b I=>by cases I⟩;simp only[BX]at o;split at o
   case h_2=>cases o
   rename_i l hs;refine(ih x (fun e=>by have:=D e;simp[DY]at this;exact this.1) hs hr M K B E fun z hz O a1 N t j q=>?_).1;obtain⟨L1,U,g2⟩:=IN o z hz;cases A:z.e with
   |normal=>
    simp only[A]at U;exact(ih y (fun e=>by have:=D e;simp[DY]at this;exact this.2) U j.rel (M.ext j) t q (E.ext j) fun u hu p2 a2 w2 T he2 Y=>J u (g2 u hu) p2 a2 w2 T (j.trans he2) Y).1
   |exit i=>
    simp only[A,ze]at U;subst U;have:=J z (g2 z<|zf.2 rfl) O a1 N t j q;rw[A]at this;exact this
   |ret=>
    simp only[A,ze]at U;subst U;have:=J z (g2 z<|zf.2 rfl) O a1 N t j q;rw[A]at this;exact this
  |cond x b1 b2=>
   refine⟨?_,fun b I=>by cases I⟩;simp only[BX]at o;split at o
   case h_1=>
    rename_i hx;have hv:=Ba M K hx;simp only[Ac]at hv;exact wpIn_cond_true hv (ih b1 (fun e=>by have:=D e;simp[DY]at this;exact this.1) o hr M K B E J).1
   case h_2=>
    rename_i hx;have hv:=Ba M K hx;simp only[Ac]at hv;exact wpIn_cond_false hv (ih b2 (fun e=>by have:=D e;simp[DY]at this;exact this.2) o hr M K B E J).1
   case h_3=>cases o
  |block id b=>
   refine⟨wpIn_block ?_,fun b I=>by cases I⟩;simp only[BX]at o;split at o
   case h_2=>cases o
   rename_i l hs;cases o;refine(ih b (fun e=>by have:=D e;simpa [DY]using this) hs hr M K B E fun z hz O a1 N t j q=>?_).1;have Z:=J _ (y7.2 ⟨z,hz,rfl⟩) O a1 N;cases A:z.e with
   |normal=>
    simp only[A]at Z;exact Z t j q
   |ret=>
    simp only[A]at Z;exact Z t j q
   |exit i=>
    simp only[A,Bw]at Z;by_cases ei:i=id
    ·simp only[ei,decide_true,we]at Z;simp only[DX.Uj,Exit.inBlock,ei,wk];exact Z t j q
    ·simp only[ei,decide_false,wg,A]at Z;simp only[DX.Uj,Exit.inBlock,ei,vg];exact Z t j q
  |loop b=>
   have key:Code.roundsIn (FW k) n P b Q (m+1) a w:=by
    rw[roundsIn_succ];simp only[BX]at o;split at o
    case h_2=>cases o
    rename_i l hs;refine(ih b (fun e=>by have:=D e;simpa [DY]using this) hs hr M K B E fun z hz O a1 N t j q=>?_).1;obtain⟨L1,U,g2⟩:=IN o z hz;cases A:z.e with
    |normal=>
     simp only[A]at U;exact(ih (.loop b) D U j.rel (M.ext j) t q (E.ext j) fun u hu p2 a2 w2 T he2 Y=>J u (g2 u hu) p2 a2 w2 T (j.trans he2) Y).2 b rfl
    |exit i=>
     simp only[A,ze]at U;subst U;have:=J z (g2 z<|zf.2 rfl) O a1 N t j q;rw[A]at this;exact this
    |ret=>
     simp only[A,ze]at U;subst U;have:=J z (g2 z<|zf.2 rfl) O a1 N t j q;rw[A]at this;exact this
   exact⟨wpIn_loop_rounds (m+1) key,fun b' I=>by cases I;exact key⟩
  |exit i=>cases o;exact⟨wpIn_exit<|J _ (zf.2 rfl) p a w K (yh hr) B,fun b I=>by cases I⟩
  |ret=>cases o;exact⟨wpIn_ret<|J _ (zf.2 rfl) p a w K (yh hr) B,fun b I=>by cases I⟩
  |scope b=>
   refine⟨Ka ?_,fun b I=>by cases I⟩;simp only[BX]at o;refine(ih b (fun e=>by have:=D e;simpa [DY]using this) o hr M K B E fun z hz O a1 N t j q=>?_).1;have h1:=J z hz O a1 N t j q;cases A:z.e<;>rw[A]at h1<;>exact h1
  |rangeFunc g ps asg body=>
   refine⟨wpIn_rangeFunc fun fn _=>?_,fun b I=>by cases I⟩;simp only[BX]at o;split at o
   case h_2=>cases o
   rename_i b h1 ds1 g' hen hgv;split at o
   case h_2=>cases o
   rename_i f args hdc;split at o
   case h_2=>cases o
   rename_i l hcl;obtain⟨r,mark,N,O,nb,q1,q2,q3,q4⟩:=JB (P:=P) hr K E B hen fn;have hyld:Ax O [.yld b] (#[Value.func (.yield r) #[] #[]]).toList:=by
    simp only[Bk,HA,ve];simp only[Ac];exact⟨r,nb,q3,rfl⟩
   obtain⟨args',s1,s2⟩:=MK hC q2.rel (M.ext q2) (q2.kE<|Ba M K hgv) hyld hdc;rw[zj]at s1;obtain⟨d,w1',s3,s4⟩:=Result.W4 s1;refine⟨r,mark,N,d,w1',f,args',N,q1,?_,fun _ _=>trivial,s4,fun h=>(by simp[FW,yi]at h),X0.2<|(G.fn f args h1 l hcl O N args' q2.rel (M.ext q2) s2).mono ?_⟩
   ·unfold resolve;simpa [Act.eval]using s3
   ·rintro e w2 ⟨v,h2,v',p2,hmem,rfl,k1,k2⟩;obtain⟨L1,t1,t2⟩:=IN o (v,h2) hmem;simp only at t1;split at t1
    case h_2=>cases t1
    rename_i ls hls;obtain⟨r',n',x,u1,u2,f0,tmps,rd,md,u3,u4,rfl⟩:=k2.rel.obj _ _ hls;have hpb:=k2.at q3;rw[hpb]at u1;cases u1;have hbusy:ls.st≠ .busy:=by
     intro e;rw[e]at t1;simp at t1
    obtain⟨W,hW,hput⟩:∃W,(Instr.endLoop r).run P w2=.ok ls.pend W/\Ext p2 h2 w2 p2 (h2.put b<|.loop { ls with st:=.exhausted }) W:=
     ⟨_,run_endLoop u2 hbusy,Ext.put k2.rel hls hpb (o':=.loop { ls with st:=.exhausted }) (x':=.loop { state:=.exhausted,pending:=ls.pend,fn:=f0,tmps,params:=ls.ps,assign:=ls.asg,body:=ls.body,defers:=rd }) ⟨f0,tmps,rd,md,u3,u4,rfl⟩ rfl rfl rfl rfl⟩
    have hex:=q2.trans<|k2.trans hput;refine⟨ls.pend,W,hW,?_⟩;have T:CR p2 fr { a with defers:=mark++a.defers }:=CR.ext (a:={ a with defers:=mark++a.defers }) K<|q2.trans k2;have Y:It p2 ds1 (mark++a.defers):=It.ext k2 q4;split at t1
    case h_1=>cases t1
    case h_2=>
     rename_i hpe _;cases t1;simp only[hpe];exact J _ (t2 _<|zf.2 rfl) p2 _ _ T hex Y
    case h_3=>
     rename_i c hpe _;simp only[hpe];exact(ih c (fun e=>by cases e) t1 hput.rel (M.ext hex) T Y (E.ext hex) fun u hu p3 a3 w3 hf3 he3 hd3=>J u (t2 u hu) p3 a3 w3 hf3 (hex.trans he3) hd3).1
  |goto l=>simp[BX]at o
  |refuse s=>simp[BX]at o
end
section
variable {C:Ctx}{P:Program}{p:Pl}{h:H}{w:World}{fr:Fr}{a:Act}
def aS(C:Ctx)(fr:Fr)(h:H):ResultVar->Option V
 | .tmp t=>some<|fr.get t
 | .cell a t=>Fl C.T h t<|fr.get a
def QV(C:Ctx)(fr:Fr)(h:H):List ResultVar->Option (List V)
 |[]=>some []
 |r::c=>match aS C fr h r,QV C fr h c with
  |some v,some vs=>some (v::vs)
  |_,_=>none
def QR(C:Ctx)(fr:Fr)(h:H)(c:List ResultVar):Option V:=
 match QV C fr h c with
 |some [v]=>some v
 |some vs=>some<|.tup vs
 |none=>none
def vM(a:Act):ResultVar->Sem Value
 | .tmp t=>pure<|a.tmps.getD t undef
 | .cell x t=>do loadVar t (<-asAddr (a.tmps.getD x undef))
theorem Yb(fn:Func)(a:Act):results fn a.tmps=(do let vs<-fn.results.mapM (vM a);pure (if h:vs.size=1 then vs[0]else .tuple vs)):=by
 unfold results;congr 1
theorem lW(l:C.T.Ok P)(hr:R p h w)(g:CR p fr a){r:ResultVar}{v:V}(c:aS C fr h r=some v):
  ∃v',(vM a r).run P w=.ok v' w/\Ac p v v':=by
 cases r with
 |tmp t=>cases c;exact⟨_,rfl,g.2 t⟩
 |cell x t=>
  simp only[aS]at c;obtain⟨v',j,o⟩:=Wd (P:=P) l hr (g.2 x) c;refine⟨v',?_,o⟩;have hp:∃b i,fr.get x=.ptr b i:=by
   unfold Fl at c;split at c
   ·rename_i b off d i q s u;exact⟨b,off,q⟩
   ·cases c
  obtain⟨b,i,e⟩:=hp;have f:=g.2 x;rw[e]at f;simp only[Ac]at f;obtain⟨r,n,_,f⟩:=f;rw[f]at j;simp only[vM,f];exact j
theorem Vd(f:C.T.Ok P)(hr:R p h w)(g:CR p fr a):∀ {e:List ResultVar} {vs:List V},QV C fr h e=some vs->
  ∃c:List Value,(e.mapM<|vM a).run P w=.ok c w/\Ax p vs c
 |[],vs,d=>by cases d;exact⟨[],rfl,by simp⟩
 |r::e,vs,d=>by
  unfold QV at d;split at d
  case h_2=>cases d
  rename_i v q l i;cases d;obtain⟨v',j,o⟩:=lW (P:=P) f hr g l;obtain⟨c,g3,g4⟩:=Vd f hr g i;refine⟨v'::c,?_,(Bk ..).2 ⟨o,g4⟩⟩;rw[List.mapM_cons];simp only[zj];rw[j];simp only[zh,g3,zn]
theorem tP(j:C.T.Ok P)(hr:R p h w)(q:CR p fr a){fn:Func}{v:V}(d:QR C fr h fn.results.toList=some v):∃v',(results fn a.tmps).run P w=.ok v' w/\Ac p v v':=by
 unfold QR at d;cases g:QV C fr h fn.results.toList with
 |none=>simp[g]at d
 |some vs=>
  obtain⟨c,l,f⟩:=Vd (P:=P) j hr q g;have i:=f.length;have e:(results fn a.tmps).run P w=.ok (if h:c.toArray.size=1 then c.toArray[0]else .tuple c.toArray) w:=by
   rw[Yb];simp only[zj];rw[Array.mapM_eq_mapM_toList];simp only[Sem.run_map,l,zh,zn]
  refine⟨_,e,?_⟩;simp only[g]at d;cases vs with
  |nil=>
   cases d;have:c=[]:=List.length_eq_zero_iff.1 i.symm;subst this;simp[Ac]
  |cons x xs=>
   cases xs with
   |nil=>
    cases d;obtain⟨y,rfl,o⟩:=f.one;simpa using o
   |cons r xs=>
    cases d;rw[dif_neg<|by simp at i ⊢;omega];simp only[Ac];exact⟨_,rfl,f⟩
def V8:List V->Nat->PM V->PM V
 |[],_,m=>m
 |v::vs,i,m=>V8 vs (i+1)<|m.set i<|some v
def NP(n:Nat)(args:List V):Fr:=⟨args.length+(n-args.length),V8 args 0 .leaf⟩
theorem Nj:∀(vs:List V) (i:Nat) (m:PM V) (t:Nat),(V8 vs i m).get t=if i<=t/\t<i+vs.length then vs[t-i]? else m.get t
 |[],i,m,t=>by simp[V8];omega
 |v::vs,i,m,t=>by
  unfold V8;rw[Nj vs (i+1) _ t];by_cases e:t=i
  ·subst e;rw[wc ae,wd<|by simp];simp
  ·by_cases c:i+1<=t/\t<i+1+vs.length
   ·rw[wd c,wd<|by simp;omega];have:t-i=(t-(i+1))+1:=ae
    rw[this];simp
   ·rw[wc c,wc<|by simp;omega];simp[e]
theorem kS{args:List V}{args':Array Value}(g:Ax p args args'.toList)(n:Nat):CR p (NP n args) { tmps:=args'++yr (n-args'.size) undef,defers:=[] }:=by
 have f:=g.length;simp at f;refine⟨by simp[NP,f],fun t=>?_⟩;unfold NP Fr.get;rw[Nj];by_cases e:t<args.length
 ·rw[wd ae];obtain⟨u,l,j⟩:=g.get (i:=t) (d:=args[t]) (by simp[e]);have c:args'[t]?=some u:=by simpa using l
  simp only[Nat.sub_zero,yn e,yo];rw[zk,Array.getElem?_append_left ae,c];exact j
 ·rw[wc ae];simp only[PM.DB,Option.getD_none];have:(args'++yr (n-args'.size) undef).getD t undef=undef:=by
   rw[zk,Array.getElem?_append_right ae];rw[Array.getElem?_replicate];split<;>rfl
  rw[this];simp[Ac,undef]
def Gm:List Nat->H->Option H
 |[],h=>some h
 |b::c,h=>match h.get b with
  |some (.defd true)=>Gm c<|h.put b<|.defd false
  |_=>none
theorem RX{fn:Func}{tmps:Array Value}{n:Nat}:∀ {ds:List Nat} {l:List Deferred} {p:Pl} {h:H} {w:World} {g:H},It p ds l->R p h w->Gm ds h=some g->
  ∃e,Ext p h w p g e/\∀f:Ending->World->Prop,(∃v,(results fn tmps).run P e=.ok v e/\f (.returned v) e)->LeavesInM yi n P fn tmps f l .returning w
 |[],l,p,h,w,g,i,hr,d=>by
  cases d;cases (show l=[]from i);exact⟨w,yh hr,fun f hR=>hR⟩
 |b::q,l,p,h,w,g,i,hr,d=>by
  unfold Gm at d;split at d
  case h_2=>cases d
  rename_i o;obtain⟨r,m,l',hp,rfl,j⟩:=i;obtain⟨r',m',x,k1,k2,k3⟩:=hr.obj _ _ o;rw[hp]at k1;cases k1;simp only[Hl,we]at k3;subst k3;have c:=Ext.put hr o hp (o':=.defd false) (x':=.deferred none) (by simp[Hl]) (w':=w.putObj r<|.deferred none) rfl rfl rfl rfl;obtain⟨e,g1,g2⟩:=RX (fn:=fn) (tmps:=tmps) (n:=n) j c.rel d;exact⟨e,c.trans g1,fun f hR=>⟨by simp,.inl ⟨r,_,rfl,run_takeDeferred k2,g2 f hR⟩⟩⟩
def TE(C:Ctx)(m:Nat)(call:DO)(b:Nat)(ls:LS)(fr:Fr)(h:H):Option (List<|V×H):=
 match BX C call (some b) false m ls.asg fr h []with
 |some l=>bl l fun x=>match x.e,x.h.get b with
  | .normal,some (.loop l1)=>match l1.st with
   | .ready=>match BX C call (some b) false m ls.body x.fr (x.h.put b<|.loop { l1 with st:=.busy }) x.ds with
    |some d=>bl d fun y=>match y.h.get b with
     |some (.loop c)=>match y.e with
      | .normal=>some [(.bool true,y.h.put b<|.loop { c with st:=.ready,pend:=none })]
      | .ret=>some [(.bool false,y.h.put b<|.loop { c with st:=.done,pend:=some .ret })]
      | .exit i=>some [(.bool false,y.h.put b<|.loop { c with st:=.done,pend:=some (.exit i) })]
     |_=>none
    |none=>none
   |_=>none
  |_,_=>none
 |none=>none
mutual
def Mw:V->List Nat
 | .ptr b _| .sl b _ _ _ _| .map b| .yld b=>[b]
 | .fn _ a b=>I0 a++I0 b
 | .iface _ v=>Mw v
 | .agg l| .tup l=>I0 l
 |_=>[]
def I0:List V->List Nat
 |[]=>[]
 |v::vs=>Mw v++I0 vs
end
def xF:O->List Nat
 | .cells cs _ _=>I0 cs
 | .map es _=>es.flatMap fun e=>Mw e.1++Mw e.2.1
 |_=>[]
def reach(h:H)(n0:Nat):Nat->List Nat->List Nat->List Nat
 |0,_,acc=>acc
 |_+1,[],acc=>acc
 |f+1,b::c,acc=>bif zz b n0||acc.any (zi b)then reach h n0 f c acc
  else match h.get b with
   |some o=>reach h n0 f (xF o++c) (b::acc)
   |none=>reach h n0 f c acc
def Ou(Qf:List Nat):Nat->Nat->H->H
 |0,_,h=>h
 |f+1,b,h=>Ou Qf f (b+1)<|bif Qf.any (zi b)then h else h.kill b
def jI:O->Bool
 | .loop l=>match l.st with| .exhausted=>true|_=>false
 |_=>false
def V2:Option O->Option O
 |some o=>bif jI o then none else some o
 |none=>none
def SU:PM O->PM O
 | .leaf=>.leaf
 | .node l v r=>.node (SU l) (V2 v)<|SU r
theorem Lw:∀(q:Hy) (m:PM O),q.get (SU m)=V2 (q.get m)
 |Hy.here,PM.leaf=>rfl
 |Hy.l _,PM.leaf=>rfl
 |Hy.r _,PM.leaf=>rfl
 |Hy.here,PM.node _ _ _=>rfl
 |Hy.l q,PM.node l _ _=>Lw q l
 |Hy.r q,PM.node _ _ r=>Lw q r
def H.pS(h:H):H:=⟨SU h.m,h.nx⟩
theorem VE{p:Pl}{h:H}{w:World}(hr:R p h w):Ext p h w p h.pS w:=by
 have sub:∀b o,h.pS.get b=some o->h.get b=some o:=by
  intro b o c;have:h.pS.get b=V2 (h.get b):=Lw _ _;rw[this]at c;cases i:h.get b with
  |none=>rw[i]at c;cases c
  |some x=>
   rw[i]at c;unfold V2 at c;cases d:jI x with
   |true=>simp[d]at c
   |false=>simpa [d]using c
 refine⟨⟨[],by simp⟩,⟨hr.len,fun b o c=>hr.obj b o<|sub b o c,fun b b' o o' r n n' c g=>hr.inj b b' o o' r n n' (sub b o c)<|sub b' o' g⟩,zo _,fun _ _ _=>rfl,fun r d=>?_,rfl,rfl,rfl,fun r j l=>⟨rfl,?_⟩⟩
 ·obtain⟨b,o,n,f,e⟩:=d;exact .inl ⟨b,o,n,sub b o f,e⟩
 ·obtain⟨b,n,cs,t,fz,f,e,q⟩:=l;refine .inl ⟨b,n,cs,t,fz,?_,e,q⟩;rw[show h.pS.get b=V2 (h.get b)from Lw _ _,f];rfl
def gcO(n0:Nat)(x:V×H):V×H:=(x.1,Ou (reach x.2 n0 1000 (Mw x.1) []) (x.2.nx-n0) n0 x.2.pS)
def eL:List (V×V×Nat)->List (V×V×Nat)->Bool
 |[],[]=>true
 |(a,b,c)::l,(d,b',e)::l'=>V.beq a d&&V.beq b b'&&zi c e&&eL l l'
 |_,_=>false
def Pv:List Nat->List Nat->Bool
 |[],[]=>true
 |a::l,b::l'=>zi a b&&Pv l l'
 |_,_=>false
def AaY:O->O->Bool
 | .cells cs t fz,.cells cs' g fz'=>V.Mi cs cs'&&zi t g&&zi fz.1 fz'.1&&zi fz.2 fz'.2
 | .map es c,.map d i=>eL es d&&zi c i
 | .siter s n,.siter f n'=>s==f&&zi n n'
 | .miter none a l b,.miter none e l' b'=>zi a e&&Pv l l'&&zi b b'
 | .miter (some m) a l b,.miter (some j) e l' b'=>zi m j&&zi a e&&Pv l l'&&zi b b'
 | .defd a,.defd b=>a==b
 |_,_=>false
def R0:Option O->Option O->Bool
 |none,none=>true
 |some a,some b=>AaY a b
 |_,_=>false
def Qq:PM O->PM O->Bool
 | .leaf,.leaf=>true
 | .node l v r,.node l' v' c=>R0 v v'&&Qq l l'&&Qq r c
 |_,_=>false
def Zj(x y:V×H):Bool:=V.beq x.1 y.1&&zi x.2.nx y.2.nx&&Qq x.2.m y.2.m
def dedup:List (V×H)->List (V×H)
 |[]=>[]
 |x::l=>let r:=dedup l;bif r.any (Zj x)then r else x::r
def Qg(n0:Nat):List (V×H)->List (V×H)
 |[]=>[]
 |[x]=>[x]
 |l=>dedup<|l.map<|gcO n0
theorem Z2:∀ {a b:List (V×V×Nat)},eL a b=true->a=b
 |[],[],_=>rfl
 |[],_::_,h=>by simp[eL]at h
 |_::_,[],h=>by simp[eL]at h
 |(a,b,c)::l,(d,b',e)::l',h=>by
  simp only[eL,zd]at h;rw[V.beq_eq h.1.1.1,V.beq_eq h.1.1.2,zg h.1.2,Z2 h.2]
theorem Rm:∀ {a b:List Nat},Pv a b=true->a=b
 |[],[],_=>rfl
 |[],_::_,h=>by simp[Pv]at h
 |_::_,[],h=>by simp[Pv]at h
 |a::l,b::l',h=>by
  simp only[Pv,zd]at h;rw[zg h.1,Rm h.2]
theorem ZB{a b:O}(h:AaY a b=true):a=b:=by
 unfold AaY at h;split at h
 ·rename_i fz _ _ fz';simp only[zd]at h;obtain⟨⟨⟨d,c⟩,f⟩,e⟩:=h;rw[V.Ik d,zg c,show fz=fz' from Prod.ext (zg f)<|zg e]
 ·simp only[zd]at h;rw[Z2 h.1,zg h.2]
 ·simp only[zd,wj]at h;rw[h.1,zg h.2]
 ·simp only[zd]at h;rw[zg h.1.1,Rm h.1.2,zg h.2]
 ·simp only[zd]at h;rw[zg h.1.1.1,zg h.1.1.2,Rm h.1.2,zg h.2]
 ·simp only[wj]at h;rw[h]
 ·cases h
theorem Pb:∀ {a b:PM O},Qq a b=true->a=b
 | .leaf,.leaf,_=>rfl
 | .leaf,.node _ _ _,h=>by simp[Qq]at h
 | .node _ _ _,.leaf,h=>by simp[Qq]at h
 | .node l v r,.node l' v' c,h=>by
  simp only[Qq,zd]at h;rw[Pb h.1.2,Pb h.2];congr 1;cases v<;>cases v'<;>first|rfl|exact wi some (ZB h.1.1)|(simp[R0]at h)
theorem kO{x y:V×H}(h:Zj x y=true):x=y:=by
 simp only[Zj,zd]at h;obtain⟨v,m,n⟩:=x;obtain⟨v',m',n'⟩:=y;have d:=V.beq_eq h.1.1;have c:=zg h.1.2;have e:=Pb h.2;simp only at d c e;rw[d,c,e]
theorem MY:∀ {l:List (V×H)} {x:V×H},x∈l->x∈dedup l
 |a::l,x,h=>by
  unfold dedup;simp only;cases c:(dedup l).any (Zj a)with
  |true=>
   simp only[we];rcases yw.1 h with rfl|h
   ·obtain⟨y,e,d⟩:=ye.1 c;rw[kO d];exact e
   ·exact MY h
  |false=>
   simp only[wg];rcases yw.1 h with rfl|h
   ·exact List.mem_cons_self
   ·exact List.mem_cons_of_mem _<|MY h
theorem IU(Qf:List Nat):∀(f b:Nat) {p:Pl} {h:H} {w:World},R p h w->Ext p h w p (Ou Qf f b h) w
 |0,_,_,_,_,hr=>yh hr
 |f+1,b,p,h,w,hr=>by
  unfold Ou;cases Qf.any (zi b)with
  |true=>simp only[we];exact IU Qf f (b+1) hr
  |false=>simp only[wg];exact(Ext.kill hr b).trans<|IU Qf f (b+1)<|hr.kill b
theorem G8.merge{l:List (V×H)}{n0:Nat}{e:Ending}{w':World}(i:G8 p h w l e w'):G8 p h w (Qg n0 l) e w':=by
 obtain⟨v,h',v',p',d,f,g,c⟩:=i;unfold Qg;split
 ·cases d
 ·exact⟨v,h',v',p',d,f,g,c⟩
 ·exact⟨v,(gcO n0 (v,h')).2,v',p',MY<|y7.2 ⟨_,d,rfl⟩,f,g,c.trans<|(VE c.rel).trans<|IU _ _ _ (VE c.rel).rel⟩
def Bp(C:Ctx):Nat->DO
 |0=>fun _ _=>none
 |n+1=>fun c h=>
  match c with
  | .rnd b ls fr=>TE C n (Bp C n) b ls fr h
  | .fn f args=>
   match C.spec f with
   |some q=>match q args h with
    |some x=>some [x]
    |none=>none
   |none=>
    match C.fn f with
    |none=>none
    |some i=>
     match BX C (Bp C n) none i.cert n i.body (NP i.ntmps args) h []with
     |none=>none
     |some l=>match (bl l fun x=>match x.e with
      | .exit _=>none
      |_=>match Gm x.ds x.h with
       |some d=>match QR C x.fr d i.results.toList with
        |some v=>some [(v,d)]
        |none=>none
       |none=>none)with
      |some r=>some<|bif C.mg then Qg h.nx r else r
      |none=>none
theorem NS(hr:R p h w){b r n:Nat}{ls:LS}(d:h.get b=some (.loop ls))(hp:p[b]?=some (r,n)):
  ∃rec:Loop,w.heap[r]?=some (.loop rec)/\rec.state=ls.st/\rec.pending=ls.pend/\∀(st:LoopState) (c:Option Code),Ext p h w p (h.put b<|.loop { ls with st:=st,pend:=c }) (w.putObj r<|.loop { rec with state:=st,pending:=c }):=by
 obtain⟨i,n',x,u1,u2,f0,tmps,rd,f,e,g,rfl⟩:=hr.obj _ _ d;rw[hp]at u1;cases u1;exact⟨_,u2,rfl,rfl,fun st c=>Ext.put hr d hp (o':=.loop { ls with st:=st,pend:=c }) ⟨f0,tmps,rd,f,e,g,rfl⟩ rfl rfl rfl rfl⟩
theorem SB(N:C.Ok P){call:DO}(g:call.Ok C P)(O:P.follows .mixedOrders=true){b:Nat}{ls:LS}{l:List (V×H)}{k m B:Nat}(r:TE C B call b ls fr h=some l){f:FuncId}{tmps:Array Value}
  (hr:R p h w) (K:Gl C p) (hp:p[b]?=some (k,m)) (hf:FE p fr tmps):RoundIn yi 0 P k f tmps ls.asg ls.body w (G8 p h w l):=by
 unfold TE at r;split at r
 case h_2=>cases r
 rename_i L hL;refine roundIn_of_wpIn trivial ?_;refine(Lo (k:=some k) (n:=0) N g O B false ls.asg (fun e=>by cases e) hL p { tmps:=tmps,defers:=[] } w _ hr K hf rfl ⟨m,hp⟩ fun x U A a1 T z d u=>?_).1;obtain⟨L1,o,s⟩:=IN r x U;split at o
 case h_2=>cases o
 rename_i l1 I E;split at o
 case h_2=>cases o
 rename_i t;split at o
 case h_2=>cases o
 rename_i L2 J;rw[I];obtain⟨rec,q1,Y,q3,X⟩:=NS d.rel E<|d.at hp;have W:=X .busy l1.pend;refine⟨_,run_beginRound q1<|Y.trans t,?_⟩;have q:Ext A x.h T A (x.h.put b<|.loop { l1 with st:=.busy }) (T.putObj k<|.loop { rec with state:=.busy }):=by
  have:({ rec with state:=.busy }:Loop)={ rec with state:=.busy,pending:=l1.pend }:=by rw[<-q3]
  rw[this];exact W
 have ex:=d.trans q;refine(Lo (k:=some k) (n:=0) N g O B false ls.body (fun e=>by cases e) J A a1 _ _ q.rel (K.ext ex) z u ⟨m,d.at hp⟩ fun y Z D a2 w2 hf2 c hd2=>?_).1;obtain⟨L3,t1,t2⟩:=IN o y Z;split at t1
 case h_2=>cases t1
 rename_i l3 G;obtain⟨M,s1,s2,s3,s4⟩:=NS c.rel G<|c.at (d.at hp);cases j:y.e with
 |normal=>
  simp only[j,ze]at t1;subst t1;exact⟨_,_,run_endRound none s1,.bool true,_,.bool true,D,s _<|t2 _<|zf.2 rfl,rfl,by simp[Ac],ex.trans<|c.trans<|s4 .ready none⟩
 |ret=>
  simp only[j,ze]at t1;subst t1;exact⟨_,_,run_endRound (some .ret) s1,.bool false,_,.bool false,D,s _<|t2 _<|zf.2 rfl,rfl,by simp[Ac],ex.trans<|c.trans<|s4 .done<|some .ret⟩
 |exit i=>
  simp only[j,ze]at t1;subst t1;exact⟨_,_,run_endRound (some<|.exit i) s1,.bool false,_,.bool false,D,s _<|t2 _<|zf.2 rfl,rfl,by simp[Ac],ex.trans<|c.trans<|s4 .done<|some<|.exit i⟩
def G4(C:Ctx):Prop:=∀f i,C.fn f=some i->i.cert=true->DY i.body=true
theorem Jp(r:C.Ok P)(s:G4 C)(z:P.follows .mixedOrders=true):∀n,(Bp C n).Ok C P
 |0=>⟨fun f args h l c=>(by cases c),fun b ls fr h l c=>(by cases c)⟩
 |n+1=>by
  refine⟨fun f args h l c p w args' hr y M=>?_,fun b ls fr h l c p w k m f tmps hr y hb hp hf=>SB r (Jp r s z n) z c hr y hp hf⟩;unfold Bp at c;simp only at c;split at c
  case h_1=>
   rename_i q W;split at c
   case h_2=>cases c
   rename_i x B;cases c;refine(r.spec f q W p h w args args' x.1 x.2 hr y M B).mono ?_;rintro e w' ⟨v',p',rfl,o,A⟩;exact⟨x.1,x.2,v',p',zf.2 rfl,rfl,o,A⟩
  case h_2=>
   split at c
   case h_1=>cases c
   rename_i i O;split at c
   case h_1=>cases c
   rename_i L hL;split at c
   case h_2=>cases c
   rename_i lr D;cases c;refine Calls.mono ?_ (fun e w' N=>(show G8 p h w (bif C.mg then Qg h.nx lr else lr) e w' from by cases C.mg with|true=>exact G8.merge N|false=>exact N));have c:=D;generalize lr=l at c;obtain⟨fn,t,R,h3,Y,h5⟩:=r.fn f i O;have Z:=s f i O;refine callsIn_wide.1<|callsIn_of_wp_marks (F:=yi) (n:=0) t h3 trivial ?_;rw[Y];refine(Lo (k:=none) (n:=0) r (Jp r s z n) z n i.cert i.body Z hL p _ w _ hr y (kS M i.ntmps) rfl trivial fun x B U a1 w1 G u E=>?_).1;obtain⟨L1,o,A⟩:=IN c x B;have fin:∀ {t:H} {v:V},Gm x.ds x.h=some t->QR C x.fr t i.results.toList=some v->L1=[(v,t)]->LeavesInM yi 0 P fn a1.tmps (G8 p h w l) a1.defers .returning w1:=by
    intro t v g d I;subst I;obtain⟨w2,q1,X⟩:=RX (P:=P) (fn:=fn) (tmps:=a1.tmps) (n:=0) E u.rel g;obtain⟨v',s1,s2⟩:=tP (P:=P) (fn:=fn) r.T q1.rel (G.ext q1) (by rw[h5];exact d);exact X _ ⟨v',s1,v,t,v',U,A _<|zf.2 rfl,rfl,s2,u.trans q1⟩
   split at o
   case h_1=>cases o
   case h_2=>
    rename_i J;split at o
    case h_2=>cases o
    rename_i R g;split at o
    case h_2=>cases o
    rename_i v d;cases o;cases K:x.e with
    |normal=>exact fin g d rfl
    |ret=>exact fin g d rfl
    |exit j=>exact wh K<|J j
end
def mV(P:Program)(t:TypeId):Option TI:=
 match P.info? t with
 |some i=>match i.zero with
  |some z=>match cv z with
   |some v=>some ⟨i.size,i.bytes,v⟩
   |none=>none
  |none=>none
 |none=>none
theorem iI{P:Program}{t:TypeId}{i:TI}(h:mV P t=some i):∃j v,P.info? t=some j/\j.size=i.size/\j.bytes=i.bytes/\j.zero=some v/\∀p,Ac p i.zv v:=by
 unfold mV at h;split at h
 case h_2=>cases h
 rename_i j e;split at h
 case h_2=>cases h
 rename_i z c;split at h
 case h_2=>cases h
 rename_i v d;cases h;exact⟨j,z,e,rfl,rfl,c,fun p=>Ye p d⟩
def rZ(P:Program)(t:TypeId):Option FK:=
 match P.underlying t with
 |some (.int k)=>some<|.int k
 |some .string=>some .str
 |some .bool=>some .bool
 |_=>none
def Rp(P:Program):List Field->Nat->Option (List FK)
 |[],_=>some []
 | f :: fs, i => if f.name = "_" \/ f.offset ≠ i then none else match rZ P f.type, Rp P fs (i + 1) with
  |some k,some ks=>some (k::ks)
  |_,_=>none
def X1(P:Program)(t:TypeId):Option (List FK):=
 match P.underlying t with
 |some (.struct fs)=>if P.stoodInHeld t=true\/P.eqGuardType P.depth t=true then none else Rp P fs.toList 0
 |_=>none
def iG:TypeDesc->Bool
 | .pointer _=>false
 |_=>true
def jF(P:Program)(t:TypeId)(name:String):Option FuncId:=
 match P.info? t,P.underlying t with
 |some j,some d=>match j.methods.find? (·.name==name)with
  |some m=>match m.path,m.func with
   |⟨[]⟩,some (f,false)=>bif iG d then some f else none
   |_,_=>none
  |none=>none
 |_,_=>none
theorem fX{P:Program}{t:TypeId}{name:String}{f:FuncId}(h:jF P t name=some f):∃j m d,P.info? t=some j/\j.methods.find? (·.name==name)=some m/\m.path= #[]/\m.func=some (f,false)/\P.underlying t=some d/\∀e,d≠ .pointer e:=by
 unfold jF at h;split at h
 case h_2=>cases h
 rename_i j d g c;split at h
 case h_2=>cases h
 rename_i m q;split at h
 case h_2=>cases h
 rename_i r l o;cases hp:iG d with
 |false=>rw[hp]at h;cases h
 |true=>
  rw[hp]at h;simp only[we,ze]at h;subst h;exact⟨j,m,d,g,q,l,o,c,fun e i=>by subst i;cases hp⟩
def yV(P:Program):Ce:=⟨P.underlying,mV P,X1 P,jF P⟩
section
variable {P:Program}{p:Pl}
theorem Q6{t:TypeId}{k:FK}(h:rZ P t=some k):∃d,P.underlying t=some d/\Ek d=false/\(∀f,d≠ .interface f)/\match k with
  | .int k=>d=.int k
  | .str=>d=.string
  | .bool=>d=.bool:=by
 unfold rZ at h;split at h
 case h_1=>rename_i c;cases h;exact⟨_,c,rfl,fun _ e=>(by cases e),rfl⟩
 case h_2=>rename_i c;cases h;exact⟨_,c,rfl,fun _ e=>(by cases e),rfl⟩
 case h_3=>rename_i c;cases h;exact⟨_,c,rfl,fun _ e=>(by cases e),rfl⟩
 case h_4=>cases h
theorem Rq{t:TypeId}{d:TypeDesc}(e:P.underlying t=some d)(f:Ek d=false){cs:Array Value}{i:Nat}{v:Value}(g:cs[i]?=some v)(w:World):(part t cs i).run P w=.ok v w:=by
 unfold part isAgg;have c:(underlying t).run P w=.ok d w:=by unfold underlying;simp[e]
 simp only[zj,c,zh];cases d<;>first|(cases f;done)|simp[g]
theorem aG{t:TypeId}{k:FK}(h:rZ P t=some k){a b:V}{o b':Value}(f:k.ok a=true)(g:k.ok b=true)(e:Ac p a o)(c:Ac p b b'){r:Bool}(i:DT a b=some r)(d:Nat)(w:World):
  (Op.equalIn (d+1) t o b').run P w=.ok r w:=by
 obtain⟨D,l,_,_,j⟩:=Q6 h;cases k with
 |int k=>
  simp only at j;subst j;cases a<;>simp only[FK.ok]at f<;>try (cases f;done)
  cases b<;>simp only[FK.ok]at g<;>try (cases g;done)
  simp only[Ac]at e c;subst e c;simp at f g;subst f g;simp[DT]at i;rw[run_equalIn_int w d t _ _ _ _ l,i]
 |str=>
  simp only at j;subst j;cases a<;>simp only[FK.ok]at f<;>try (cases f;done)
  cases b<;>simp only[FK.ok]at g<;>try (cases g;done)
  simp only[Ac]at e c;subst e c;simp only[DT,ze]at i;rw[run_equalIn_string w d t _ _ l,Gv,Gv,i]
 |bool=>
  simp only at j;subst j;cases a<;>simp only[FK.ok]at f<;>try (cases f;done)
  cases b<;>simp only[FK.ok]at g<;>try (cases g;done)
  simp only[Ac]at e c;subst e c;simp only[DT,ze]at i;rw[run_equalIn_bool' w d t _ _ l,i]
theorem Ul:∀ {ks:List FK} {x:List V},fit ks x=true->ks.length=x.length
 |[],[],_=>rfl
 |[],_::_,h=>by simp[fit]at h
 |_::_,[],h=>by simp[fit]at h
 |k::ks,v::vs,h=>by
  unfold fit at h;cases c:k.ok v with
  |false=>simp[c]at h
  |true=>simp only[c,we]at h;simp[Ul h]
theorem Mv(d:Nat){w:World}{x' y':Array Value}:∀ {fs:List Field} {i:Nat} {ks:List FK},Rp P fs i=some ks->∀ {x y:List V} {u v:List Value},fit ks x=true->fit ks y=true->Ax p x u->Ax p y v->
  (∀j a,u[j]?=some a->x'[i+j]?=some a)->(∀j a,v[j]?=some a->y'[i+j]?=some a)->∀ {r:Bool},B6 x y=some r->(Op.eqFields (d+1) x' y' fs).run P w=.ok r w
 |[],i,ks,g,x,y,u,v,t,o,_,_,_,_,r,l=>by
  cases g;cases x with
  |cons _ _=>simp[fit]at t
  |nil=>cases y with
   |cons _ _=>simp[fit]at o
   |nil=>simp[B6]at l;subst l;simp[Op.eqFields]
 |f::fs,i,ks,g,x,y,u,v,t,o,W,U,O,T,r,l=>by
  unfold Rp at g;split at g
  case isTrue=>cases g
  rename_i G;have E : f.name ≠ "_" := fun e => G (.inl e)
  have B:f.offset=i:=z8 fun e=>G (.inr e)
  split at g
  case h_2=>cases g
  rename_i k A K Z;cases g;cases x with
  |nil=>simp[fit]at t
  |cons a x=>cases y with
   |nil=>simp[fit]at o
   |cons b y=>
    simp only[Ax]at W U;obtain⟨Y,u',rfl,z,L⟩:=W;obtain⟨b',v',rfl,hv1,hv2⟩:=U;have J:k.ok a=true:=by unfold fit at t;cases g:k.ok a with|false=>simp[g]at t|true=>rfl
    have I:k.ok b=true:=by unfold fit at o;cases g:k.ok b with|false=>simp[g]at o|true=>rfl
    have X:fit A x=true:=by unfold fit at t;rw[J]at t;exact t
    have fy:fit A y=true:=by unfold fit at o;rw[I]at o;exact o
    obtain⟨D,s,q,_,_⟩:=Q6 K;have R:=Rq s q (O 0 Y rfl) w;have pb:=Rq s q (T 0 b' rfl) w;simp only[y8]at R pb;simp only[Op.eqFields,E,wm,not_false_eq_true,wk,zj,B,R,pb,zh];unfold B6 at l;split at l
    case h_1=>
     rename_i M;rw[aG K J I z hv1 M];simp only[zh,Bool.not_true,zu,vg];exact Mv d Z X fy L hv2 (fun j c N=>by have:=O (j+1) c (by simpa using N);rwa [show i+1+j=i+(j+1)from by omega]) (fun j c N=>by have:=T (j+1) c (by simpa using N);rwa [show i+1+j=i+(j+1)from by omega]) l
    case h_2=>
     rename_i M;rw[aG K J I z hv1 M];split at l
     ·cases l;simp
     ·cases l
    case h_3=>cases l
theorem Kk{b:Bool}{w:World}{x':Array Value}:∀ {fs:List Field} {i:Nat} {ks:List FK},Rp P fs i=some ks->∀ {x:List V} {u:List Value},fit ks x=true->Ax p x u->
  (∀j a,u[j]?=some a->x'[i+j]?=some a)->
  (forIn (m := Sem) fs PUnit.unit fun f _ => if f.name ≠ "_" then do
    yj b 9999 f.type (<-part f.type x' f.offset)
    pure (ForInStep.yield yx)
   else do
    pure yx
    pure (ForInStep.yield yx)).run P w=.ok yx w
 |[],i,ks,d,x,u,o,_,_=>by simp
 |f::fs,i,ks,d,x,u,o,K,E=>by
  unfold Rp at d;split at d
  case isTrue=>cases d
  rename_i t;have s : f.name ≠ "_" := fun e => t (.inl e)
  have r:f.offset=i:=z8 fun e=>t (.inr e)
  split at d
  case h_2=>cases d
  rename_i k y O R;cases d;cases x with
  |nil=>simp[fit]at o
  |cons a x=>
   simp only[Ax]at K;obtain⟨G,U,rfl,M,z⟩:=K;have N:k.ok a=true:=by unfold fit at o;cases d:k.ok a with|false=>simp[d]at o|true=>rfl
   have L:fit y x=true:=by unfold fit at o;rw[N]at o;exact o
   obtain⟨D,l,g,B,_⟩:=Q6 O;have I:=Rq l g (E 0 G rfl) w;simp only[y8]at I;have A:(yj b 9999 f.type G).run P w=.ok () w:=by
    unfold yj;have q:(underlying f.type).run P w=.ok D w:=by unfold underlying;simp[l]
    simp only[zj,q,zh];cases D<;>first|rfl|(cases g;done)|exact wh rfl (B _)
   have J:=Kk (b:=b) (w:=w) (x':=x') R L z (fun j c T=>by have:=E (j+1) c (by simpa using T);rwa [show i+1+j=i+(j+1)from by omega]);simp only[List.forIn_cons,s,wm,not_false_eq_true,wk,zj,r,I,A,zh,zn]at J ⊢;exact J
theorem Abk(P:Program):(yV P).Ok P:=by
 have key:∀t ks,X1 P t=some ks->∃fs,P.underlying t=some (.struct fs)/\P.stoodInHeld t=false/\P.eqGuardType P.depth t=false/\Rp P fs.toList 0=some ks:=by
  intro t ks h;unfold X1 at h;split at h
  case h_2=>cases h
  rename_i fs c;split at h
  case isTrue=>cases h
  rename_i g;refine⟨fs,c,?_,?_,h⟩
  ·cases B:P.stoodInHeld t with
   |false=>rfl
   |true=>exact wh (.inl B) g
  ·cases B:P.eqGuardType P.depth t with
   |false=>rfl
   |true=>exact wh (.inr B) g
 refine⟨fun t d h=>h,fun t i h=>iI h,?_,?_,?_,?_,fun t name f h=>fX h⟩
 ·intro t ks h p x y x' y' r w u G z E D;obtain⟨fs,c,A,s,q⟩:=key t ks h;have l:P.fieldsOf t=fs:=by unfold Program.fieldsOf;rw[c]
  unfold Op.equal Op.maxDepth;rw[run_equalIn_struct w 9999 t x' y' (by rw[l];exact c) A,l];exact Mv 9998 q u G z E (fun j a o=>by simpa using o) (fun j a o=>by simpa using o) D
 ·intro t ks h;obtain⟨fs,c,A,s,q⟩:=key t ks h;exact s
 ·intro t ks h p x x' b w u z;obtain⟨fs,c,A,s,q⟩:=key t ks h;unfold yj;have e:(underlying t).run P w=.ok (.struct fs) w:=by unfold underlying;simp[c]
  simp only[zj,e,zh];rw[<-Array.forIn_toList];have:=Kk (b:=b) (w:=w) (x':=x') q u z (fun j a o=>by simpa using o);simp only[this,zh,zn]
 ·intro t ks h;obtain⟨fs,c,_⟩:=key t ks h;exact⟨fs,c⟩
end
def RH(P:Program)(ct:FuncId->Bool)(f:FuncId):Option Fn:=
 match P.funcs[f]? with
 |some fn=>match fn.body with
  | some b => if fn.name = "runtime.NumGoroutine" then none else some ⟨fn.ntmps, fn.results, b, ct f⟩
  |none=>none
 |none=>none
theorem uR {P : Program} {ct : FuncId -> Bool} {f : FuncId} {i : Fn} (h : RH P ct f = some i) : ∃ fn, P.funcs[f]? = some fn /\ fn.name ≠ "runtime.NumGoroutine" /\ fn.body = some i.body /\ fn.ntmps = i.ntmps /\ fn.results = i.results := by
 unfold RH at h;split at h
 case h_2=>cases h
 rename_i fn c;split at h
 case h_2=>cases h
 rename_i b d;split at h
 case isTrue=>cases h
 rename_i e;cases h;exact⟨fn,c,e,d,rfl,rfl⟩
inductive PK where
 |indexByte
 |add64
 |sub64
 |count
 |noEsc
def PA:Array Value->Sem Value:=fun args=>do
 let (x, y, b) <- Extern.MathBitsCarry.three "Sub64" args
 pure (ya ((x+zr-y-b) % zr) (if x<y+b then 1 else 0))
def PK.entry:PK->Array Value->Sem Value
 | .indexByte=>Extern.BytealgIndexByte.indexByte
 | .add64=>add64Entry
 | .sub64=>PA
 | .count=>Extern.BytealgCount.count
 | .noEsc=>Extern.AbiNoEscape.same
def UX:Option Nat->V
 |some i=>i64 i
 |none=>.int .i64<| -1
def fA:Nat:=18446744073709551616
def PK.run:PK->List V->H->Option (V×H)
 | .indexByte,[.str s,.int .u8 c],h=>some (UX<|s.findIdx? fun x=>x==c.toNat.toUInt8,h)
 | .add64,[.int .u64<|.ofNat x,.int .u64<|.ofNat y,.int .u64<|.ofNat c],h=>
  bif yy c 1 then some (.tup [.int .u64<|.ofNat<|(x+y+c) % fA,.int .u64<|.ofNat<|(x+y+c)/fA],h)else none
 | .sub64,[.int .u64<|.ofNat x,.int .u64<|.ofNat y,.int .u64<|.ofNat c],h=>
  bif yy c 1 then some (.tup [.int .u64<|.ofNat<|(x+fA-y-c) % fA,.int .u64<|.ofNat<|bif zz x (y+c)then 1 else 0],h)else none
 | .count,[.str s,.int .u8 c],h=>some (.int .i64 (s.foldl (fun n x=>bif x==c.toNat.toUInt8 then Nat.add n 1 else n) 0:Nat),h)
 | .noEsc,[.ptr b o],h=>some (.ptr b o,h)
 |_,_,_=>none
theorem RG(s:Z)(c:UInt8):((zq (bytesOf s).size).find? fun i=>(bytesOf s)[i]! ==c)=s.findIdx? fun x=>x==c:=by
 have key:∀(l pre:Z),pre++l=s->((List.range' pre.length l.length).find? fun i=>(bytesOf s)[i]! ==c)=(l.findIdx? fun x=>x==c).map (· +pre.length):=by
  intro l;induction l with
  |nil=>intro pre _;simp
  |cons a l e=>
   intro pre hp;have d:(bytesOf s)[pre.length]! =a:=by
    subst hp;rw[getElem!_pos _ _<|by simp[BP]];simp[bytesOf,ByteArray.getElem_eq_getElem_data]
   rw[zt,List.range'_succ,List.find?_cons,d,List.findIdx?_cons];cases f:a==c with
   |true=>simp
   |false=>
    have:=e (pre++[a]) (by simpa using hp);simp only[List.length_append,List.length_singleton]at this;simp only[this,zu,vg,Option.map_map];congr 1;funext k;simp;omega
 have:=key s [] rfl;simp only[List.length_nil,y8]at this;rw[List.range_eq_range',BP,this];simp
theorem Ax.three{p:Pl}{a b c:V}{l:List Value}(h:Ax p [a,b,c] l):∃x y z,l=[x,y,z]/\Ac p a x/\Ac p b y/\Ac p c z:=by
 simp only[Ax]at h;obtain⟨x,l1,rfl,e,y,g,rfl,d,z,i,rfl,f,rfl⟩:=h;exact⟨x,y,z,rfl,e,d,f⟩
theorem PK.sim{P:Program}{k:PK}{p:Pl}{h:H}{w:World}{args:List V}{args':Array Value}{v:V}{h':H}(i:Ax p args args'.toList)(d:k.run args h=some (v,h')):
  h'=h/\∃v',(k.entry args').run P w=.ok v' w/\Ac p v v':=by
 unfold PK.run at d;split at d
 case h_6=>cases d
 case h_5=>
  rename_i b o;cases d;obtain⟨x,g,e⟩:=i.one;have:args'= #[x]:=z6.1 g;subst this;exact⟨rfl,x,Lib.run_noEscape w x,e⟩
 case h_1=>
  rename_i s c;cases d;obtain⟨x,y,g,e,f⟩:=i.two;have:args'= #[x,y]:=z6.1 g;subst this;simp only[Ac]at e f;subst e f;refine⟨rfl,_,run_indexByte_string (bytesOf s) c w,?_⟩;unfold firstIdx;rw[RG];cases s.findIdx? fun x=>x==c.toNat.toUInt8<;>simp[UX,i64,Ac]
 case h_2=>
  rename_i x y c;rw[show yy c 1=decide (c<=1)from by rw[Bool.eq_iff_iff];simp]at d;by_cases j:c<=1
  ·simp only[j,decide_true,we,ze,zl]at d;obtain⟨rfl,rfl⟩:=d;obtain⟨x',y',z',g,e,f,h3⟩:=i.three;have:args'= #[x',y',z']:=z6.1 g;subst this;simp only[Ac]at e f h3;subst e f h3;refine⟨rfl,_,run_add64 x y c ae ae ae ae w,?_⟩;simp only[Ac];refine⟨_,rfl,?_⟩;simp only[Bk,HA,ve,Ac];exact⟨by simp[fA],by simp[fA]⟩
  ·simp[j]at d
 case h_3=>
  rename_i x y c;rw[show yy c 1=decide (c<=1)from by rw[Bool.eq_iff_iff];simp]at d;by_cases j:c<=1
  ·simp only[j,decide_true,we,ze,zl]at d;obtain⟨rfl,rfl⟩:=d;obtain⟨x',y',z',g,e,f,h3⟩:=i.three;have:args'= #[x',y',z']:=z6.1 g;subst this;simp only[Ac]at e f h3;subst e f h3;have key:(PA #[.int .u64 x,.int .u64 y,.int .u64 c]).run P w=
     .ok (ya ((x+zr-y-c) % zr)<|if x<y+c then 1 else 0) w:=by
    have:c=0\/c=1:=ae
    rcases this with rfl|rfl<;>rfl
   refine⟨rfl,_,key,?_⟩;simp only[Ac,ya];refine⟨_,rfl,?_⟩;simp only[Bk,HA,ve,Ac];refine⟨rfl,?_⟩;rw[HH];by_cases q:x<y+c<;>simp[q]
  ·simp[j]at d
 case h_4=>
  rename_i s c;cases d;obtain⟨x,y,g,e,f⟩:=i.two;have:args'= #[x,y]:=z6.1 g;subst this;simp only[Ac]at e f;subst e f;refine⟨rfl,_,Lib.run_countString (bytesOf s) c w,?_⟩;have key:∀(l:Z) (n:Nat),l.foldl (fun n x=>bif x==c.toNat.toUInt8 then Nat.add n 1 else n) n=n+Lib.countByte l c.toNat.toUInt8:=by
   intro l;induction l with
   |nil=>intro n;simp[Lib.countByte]
   |cons x l r=>
    intro n;rw[List.foldl_cons,r];unfold Lib.countByte;rw[List.count_cons];cases t:x==c.toNat.toUInt8 with
    |true=>simp only[we,wk];show n+1+_=_;omega
    |false=>simp
  simp only[Ac,key,Nat.zero_add];simp[bytesOf]
def Ue(L:List (FuncId×PK))(f:FuncId):Option (List V->H->Option (V×H)):=
 match L with
 |[]=>none
 |(g,k)::L=>bif zi g f then some k.run else Ue L f
structure Ky(P:Program)(x:FuncId×PK):Prop where
 ok : ∃ fn, P.funcs[x.1]? = some fn /\ (fn.name == "runtime.NumGoroutine") = false /\ fn.body.isNone = true /\ Extern.findNext fn = none /\ Extern.find fn = some x.2.entry
theorem ZV{P:Program}:∀ {L:List (FuncId×PK)},(∀x∈L,Ky P x)->∀f q,Ue L f=some q->∀(p:Pl) (h:H) (w:World) (args:List V) (args':Array Value) v h',R p h w->Ax p args args'.toList->q args h=some (v,h')->
  ∃v' p' w',(callFunc f args').run P w=.ok (.value v') w'/\Ac p' v v'/\Ext p h w p' h' w'
 |[],_,f,q,c,_,_,_,_,_,_,_,_,_,_=>by cases c
 |(g,k)::L,j,f,q,c,p,h,w,args,args',v,h',hr,d,i=>by
  unfold Ue at c;rw[Bw]at c;by_cases e:g=f
  ·subst e;simp only[decide_true,we,ze]at c;subst c;obtain⟨fn,r,l,u,s,t⟩:=(j (g,k)<|by simp).ok;obtain⟨rfl,v',g1,g2⟩:=PK.sim (P:=P) (w:=w) d i;refine⟨v',p,w,?_,g2,yh hr⟩;rw[run_callFunc_extern r l u s t,g1];rfl
  ·simp only[e,decide_false,wg]at c;exact ZV (fun x o=>j x<|by simp[o]) f q c p h w args args' v h' hr d i
def AdJ:Option (List<|V×H)->Option V
 |some [(v,_)]=>some v
 |_=>none
def Y4(C:Ctx)(n:Nat)(f:FuncId)(args:List V)(v:V):Bool:=match AdJ (Bp C n (.fn f args) hG)with
 |some x=>V.beq x v
 |none=>false
theorem XF{C C':Ctx}{P:Program}(I:C.Ok P)(z:G4 C)(L:P.follows .mixedOrders=true){n:Nat}{f:FuncId}{args:List V}{v:V}
  (t:Y4 C n f args v=true) (J:V.Je args=true) (A:v.flat=true) {p:Pl} {h:H} {w:World} {args':Array Value} (hr:R p h w) (i:Gl C' p) (O:Gh h) (d:Ax p args args'.toList):
  Calls P f args' w fun e w'=>∃v' p',e=.returned v'/\Ac p' v v'/\Ext p h w p' h w':=by
 unfold Y4 at t;split at t
 case h_2=>cases t
 rename_i x s;have B:x=v:=V.beq_eq t;subst B;unfold AdJ at s;split at s
 case h_2=>cases s
 rename_i l E G;cases s;have i:Gp p:=i;refine((Jp I z L n).fn f args hG _ G _ w args' (AbI hr i O) i.take<|V.JJ J d).mono ?_;rintro e w' ⟨u,h',v',p',q,rfl,N,j⟩;cases zf.1 q;have g:∀r,r<w.heap.size->w'.heap[r]?=w.heap[r]?:=fun r hr=>j.GB i.take r hr
 refine⟨v',p,rfl,V.Dh A N,⟨⟨[],by simp⟩,⟨hr.len,fun b o K=>?_,hr.inj⟩,j.size,fun r c _=>g r c,fun r T=>.inl T,j.os,j.out,j.tape,fun r c E=>⟨g r c,.inl E⟩⟩⟩;obtain⟨r,m,y,M,D,U⟩:=hr.obj b o K;exact⟨r,m,y,M,by rw[g r (zc.1 D).1];exact D,U⟩
def yC(h:H):List (Nat×O)->Bool
 |[]=>true
 |(i,o)::l=>R0 (h.get i) (some o)&&yC h l
theorem Y7{h:H}:∀ {l:List (Nat×O)},yC h l=true->∀x∈l,h.get x.1=some x.2
 |[],_,x,c=>by cases c
 |(i,o)::l,d,x,c=>by
  simp only[yC,zd]at d;rcases yw.1 c with rfl|c
  ·have:=d.1;cases e:h.get i with
   |none=>rw[e]at this;simp[R0]at this
   |some q=>rw[e]at this;rw[ZB (a:=q) (b:=o)<|by simpa [R0]using this]
  ·exact Y7 d.2 x c
def goS:List (Nat×O)->Bool
 |[]=>true
 |(_,o)::l=>R0 (some o) (some o)&&goS l
theorem cA:goS GB=true:=by kernel_rfl
theorem AaD{h:H}(e:Gh h):yC h GB=true:=by
 have key:∀l:List (Nat×O),(∀x∈l,h.get x.1=some x.2)->goS l=true->yC h l=true:=by
  intro l;induction l with
  |nil=>exact fun _ _=>rfl
  |cons x l f=>
   intro d c;simp only[goS,zd]at c;simp only[yC,zd];exact⟨by rw[d x List.mem_cons_self];exact c.1,f (fun y g=>d y<|List.mem_cons_of_mem _ g) c.2⟩
 exact key GB e cA
abbrev C1:=List<|FuncId×List V×V
def Jl:C1->FuncId->List V->Option V
 |[],_,_=>none
 |(g,a,v)::l,f,args=>bif zi g f&&V.Mi a args then some v else Jl l f args
def TH:C1->FuncId->Bool
 |[],_=>false
 |(g,_,_)::l,f=>bif zi g f then true else TH l f
def KV(L:C1)(f:FuncId):Option (List V->H->Option (V×H)):=
 bif TH L f then some (fun args h=>bif yC h GB then(match Jl L f args with|some v=>some (v,h)|none=>none)else none)else none
def A3(C:Ctx)(n:Nat):C1->Bool
 |[]=>true
 |(f,a,v)::l=>Y4 C n f a v&&V.Je a&&v.flat&&A3 C n l
theorem dU{L:C1}{f:FuncId}{args:List V}{v:V}(h:Jl L f args=some v){C:Ctx}{n:Nat}(c:A3 C n L=true):Y4 C n f args v=true/\V.Je args=true/\v.flat=true:=by
 induction L with
 |nil=>cases h
 |cons x l j=>
  obtain⟨g,a,u⟩:=x;simp only[A3,zd]at c;unfold Jl at h;cases d:(zi g f&&V.Mi a args)with
  |false=>rw[d]at h;exact j h c.2
  |true=>
   rw[d]at h;cases h;simp only[zd]at d;have i:g=f:=zg d.1;have e:a=args:=V.Ik d.2;subst i;subst e;exact⟨c.1.1.1,c.1.1.2,c.1.2⟩
theorem vH{C C':Ctx}{P:Program}(s:C.Ok P)(j:G4 C)(x:P.follows .mixedOrders=true){n:Nat}{L:C1}(t:A3 C n L=true):
  ∀f q,KV L f=some q->∀(p:Pl) (h:H) (w:World) (args:List V) (args':Array Value) v h',R p h w->Gl C' p->Ax p args args'.toList->q args h=some (v,h')->
  Calls P f args' w fun e w'=>∃v' p',e=.returned v'/\Ac p' v v'/\Ext p h w p' h' w':=by
 intro f q i p h w args args' v h' hr o g c;unfold KV at i;cases l:TH L f with
 |false=>rw[l]at i;cases i
 |true=>
  rw[l]at i;cases i;simp only at c;cases d:yC h GB with
  |false=>rw[d]at c;cases c
  |true=>
  rw[d]at c;simp only[we]at c;split at c
  case h_2=>cases c
  rename_i u z;cases c;obtain⟨y,r,A⟩:=dU z t;exact XF (C':=C') s j x y r A hr o (Y7 d) g
end Go.Det
