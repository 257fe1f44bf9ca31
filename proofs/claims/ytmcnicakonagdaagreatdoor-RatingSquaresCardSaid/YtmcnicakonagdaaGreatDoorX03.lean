import Derived.Test.YtmcnicakonagdaaGreatDoorX02
import Derived.RangeFuncRecord
import Derived.RangeFuncLeaves
import Derived.Scope
import Derived.Laws.StructEq
import Derived.Lib.Bytealg
import Derived.Laws.Externs
/- A part of a proof (no law is stated here). Made by program out of texts by AI agents. -/
noncomputable section
open Array renaming getElem?_eq_some_iff -> zc, getD_eq_getD_getElem? -> zk, toList_inj -> z6, getElem?_push -> yb, getElem?_eq_getElem -> yk, replicate -> yt
open Bool renaming and_eq_true -> zd, or_eq_true -> zp, false_eq_true -> zu, not_eq_true' -> zx
open Option.some renaming injEq -> ze
open List renaming mem_singleton -> zf, all_eq_true -> zm, range -> zq, length_cons -> zt, mem_zipIdx_iff_getElem? -> zw, getD_eq_getElem?_getD -> zy, getElem?_append_left -> z7, any_eq_true -> ye, getElem?_eq_getElem -> yo, mem_range -> yw, mem_cons -> yx, mem_map -> y8
open Nat renaming eq_of_beq_eq_true -> zg, beq -> zi, le_refl -> zo, blt -> zz, blt_eq -> yq, lt_or_ge -> yr, ble -> yz, le_of_lt -> y7, add_zero -> y9
open Go.Result renaming andThen_ok -> zh
open Go.Sem renaming run_bind -> zj, run_pure -> zn
open Prod.mk renaming injEq -> zl
open Go.Extern.MathBitsCarry renaming m64 -> zr, pair -> ya
open Classical renaming byContradiction -> z8
open Go.Oper renaming semAt_eq -> yc, uponIn_value -> yd
open Go.Region renaming binds -> yf, ready -> yg
open Go.Det.Ext renaming refl -> yh
open Go.Fence renaming wide -> yi
open Go.Instr renaming checkKey -> yj
open Option renaming isSome_iff_exists -> yn, getD_some -> yp
open Go.Op renaming operands -> yu
open Go.Code renaming region -> yv
open PUnit renaming unit -> yy
namespace Go.Det
section
variable {C:Ctx}{P:Program}{p:Pl}{h:H}{w:World}{fr:Fr}{a:Act}
def Wj(T:B3)(t:TypeId)(len:Nat)(parts:List (Nat×V)):Option (List V×TypeId):=
 match T.und t with
 |some (.slice e)=>match T.inf e with
  |some i=>
   bif yz (len*i.size) 16777216&&zz 0 (i.zero.length)&&zi i.zero.length i.size then
    (IA (fun k=>some (k*i.size,i.size)) (E2 i.zero (len*i.size)) parts).map fun cs=>(cs,e)
   else none
  |none=>none
 |_=>none
def aZ(C:Ctx)(fr:Fr)(o:Oper):Option (O×(Nat->V)):=
 match o.op with
 | .alloc t=>match C.T.inf t with
  |some i=>some (.cells i.zero t (0,0),fun b=>.ptr b 0)
  |none=>none
 | .box t x=>match ev C fr x with
  |some v=>some (.cells v.cells t (0,0),fun b=>.ptr b 0)
  |none=>none
 | .buildSlice t n parts=>match WW C fr parts.toList with
  |some ps=>match Wj C.T t n ps with
   |some (cs,e)=>some (.cells cs e (0,0),fun b=>.sl b 0 n n 0)
   |none=>none
  |none=>none
 |_=>none
theorem fU{o:Oper}{r:O×(Nat->V)}(hd:aZ C fr o=some r):Ct o=true:=by
 unfold aZ at hd;unfold Ct;split at hd<;>simp_all
theorem vS(hC:C.Ok P)(hg:Gl C p){ops:Array Oper}{o:Oper}(hf:yP p fr a (reads ops o)){ob:O}{f:Nat->V}(hd:aZ C fr o=some (ob,f)):
  ∃x n v',(execOp a.eval o).run P w=.ok (.value v') { w with heap:=w.heap.push x }/\Hg p n ob x/\∀(q:Pl) b,q[b]?=some (w.heap.size,n)->Ac q (f b) v':=by
 have hsel:∀cs b,o.op≠ .select cs b:=by
  intro cs b e;have:=fU hd;simp[Ct,e]at this
 have hE:∀(P:Program) (w:World),(execOp (Ir (reads ops o) a).eval o).run P w=(execOp a.eval o).run P w:=fun P w=>by rw[execOp_congr o hsel fun x hx=>Jc hx]
 have hk:=hf.PB;have cellsO:∀(t:TypeId) (cs:List V) (c:Array Value),As p cs c.toList->Hg p c.size (.cells cs t (0,0)) (.cells c t):=by
  intro t cs c hx;refine⟨c,(0,0),rfl,rfl,by have:=hx.length;simp at this;omega,?_,fun i _ h1 h2=>⟨h1,h2⟩⟩;have:=hx.length;rw[List.take_of_length_le (by simp at this ⊢;omega)];exact hx.toC
 unfold aZ at hd;split at hd
 case h_4=>cases hd
 case h_1=>
  rename_i t ho;split at hd
  case h_2=>cases hd
  rename_i i hi;cases hd;obtain⟨z,hz,hzr⟩:=Er hC.T hi;refine⟨.cells z.cells t,_,.pointer (some ⟨w.heap.size,0,none⟩),?_,cellsO _ _ _ (hzr p),fun q b hb=>by simp only[Ac];exact⟨_,_,hb,rfl⟩⟩;unfold execOp;simp only[ho];unfold Instr.alloc newVar;simp only[zj,hz,zh,Cq,zn]
 case h_2=>
  rename_i t x ho;split at hd
  case h_2=>cases hd
  rename_i v hv;cases hd;have hx:Ac p v (a.eval x):=by
   have:=A5 (C:=C) hg hk (x:=x) (v:=v) (by rw[Ry (by simp[ho,yu])];exact hv);rwa [Jc (by simp[ho,yu])]at this
  refine⟨.cells (a.eval x).cells t,_,.pointer (some ⟨w.heap.size,0,none⟩),?_,cellsO _ _ _ hx.cells,fun q b hb=>by simp only[Ac];exact⟨_,_,hb,rfl⟩⟩;unfold execOp;simp only[ho];unfold Instr.box newVar;simp only[zj,zh,Cq,zn]
 case h_3=>
  rename_i t len parts ho;split at hd
  case h_2=>cases hd
  rename_i ps hps;split at hd
  case h_2=>cases hd
  rename_i cs e hcs;cases hd;have hp:Ty p ps (parts.map fun(i,x)=>(i,a.eval x)).toList:=by
   have:=Nl (C:=C) (fr:=Qf (reads ops o) fr) hg hk (xs:=parts.toList) (vs:=ps) (by
    rw[IZ (fr':=fr) fun x hx=>Ry (by rw[ho];simp[yu];exact⟨x.1,by simpa using hx⟩)];exact hps)
   have e2:(parts.toList.map fun(i,x)=>(i,(Ir (reads ops o) a).eval x))=(parts.map fun(i,x)=>(i,a.eval x)).toList:=by
    rw[Array.toList_map];apply List.map_congr_left;rintro⟨i,x⟩ hm;simp only;rw[Jc (by rw[ho];simp[yu];exact⟨i,by simpa using hm⟩)]
   rwa [e2]at this
  unfold Wj at hcs;split at hcs
  case h_2=>cases hcs
  rename_i e' hu;split at hcs
  case h_2=>cases hcs
  rename_i i hi;cases hcond:(yz (len*i.size) 16777216&&zz 0 (i.zero.length)&&zi i.zero.length i.size)with
  |false=>simp[hcond]at hcs
  |true=>
   simp only[hcond,we,Option.map_eq_some_iff,zl]at hcs;obtain⟨cs',hcs',rfl,rfl⟩:=hcs;simp only[zd,Nat.ble_eq,yq,Br,w5]at hcond;obtain⟨⟨c1,c2⟩,c3⟩:=hcond;obtain⟨z,hz,hzr⟩:=Er hC.T hi;have hzl:=(hzr p).length;simp at hzl;obtain⟨oo,h1,h2⟩:=LN (p:=p) (place:=fun k=>some (k*i.size,i.size)) hp (Jj (hzr p) c2 (len*i.size)) hcs';refine⟨.cells oo e',_,.slice (some ⟨w.heap.size,0,none⟩) len len,?_,cellsO _ _ _ h2,fun q b hb=>by simp only[Ac];exact⟨_,_,len,hb,rfl,zo _,zo _,fun _=>rfl,by simp⟩⟩;unfold execOp;simp only[ho];unfold Instr.buildSlice;simp only[zj,Ax hC.T hu,zh,By hC.T hi];rw[wc (by omega)];by_cases h0:len*i.size=0
   ·rw[wd h0];simp only[zj,zn,zh];have e1:(Array.map (fun x=>(#[]:Array Value)[x % (#[]:Array Value).size]!) (Array.range (len*i.size)))=Array.map (fun i_1=>z.cells[i_1 % z.cells.size]!) (Array.range (len*i.size)):=by simp[h0]
    rw[e1,h1];simp only[zj,Cq,zh,zn]
   ·simp only[h0,ve,zj,hz,zh,zn,h1,Cq]
theorem Ext.kA{p₀ p:Pl}{h₀ h:H}{w₀ w:World}(he:Ext p₀ h₀ w₀ p h w){r n:Nat}{o:O}{x:Obj}(hx:w.heap[r]?=some x)(ho:Hg p n o x)(hi:¬Im p h r)(hnew:w₀.heap.size<=r):
  Ext p₀ h₀ w₀ (p++[(r,n)]) (h.push o) w:=by
 have hr:=he.rel;have hnewp:(p++[(r,n)])[h.nx]?=some (r,n):=by rw[<-hr.len];simp
 have hold:∀b,b<h.nx->(p++[(r,n)])[b]?=p[b]?:=fun b hb=>z7 (by rw[hr.len];exact hb)
 have get':∀c oc,(h.push o).get c=some oc->(c=h.nx/\oc=o)\/(c<h.nx/\h.get c=some oc):=by
  intro c oc hc;rw[H.BK]at hc;by_cases e:c=h.nx
  ·rw[wd e]at hc;cases hc;exact .inl ⟨e,rfl⟩
  ·rw[wc e]at hc;exact .inr ⟨hr.lt hc,hc⟩
 refine⟨?_,⟨by simp[hr.len],fun c oc hc=>?_,fun c c' oc oc' s m m' hc hc' h1 h2=>?_⟩,he.size,he.same,fun s hs=>?_,he.os,he.out,he.tape,fun s hs hl=>?_⟩
 ·obtain⟨q,rfl⟩:=he.pre;exact⟨q++[(r,n)],by simp⟩
 ·rcases get' c oc hc with⟨rfl,rfl⟩|⟨e1,e2⟩
  ·exact⟨r,n,x,hnewp,hx,ho.mono _⟩
  ·obtain⟨s,m,y,k1,k2,k3⟩:=hr.obj c oc e2;exact⟨s,m,y,by rw[hold c e1];exact k1,k2,k3.mono _⟩
 ·rcases get' c oc hc with⟨rfl,rfl⟩|⟨e1,e2⟩<;>rcases get' c' oc' hc' with⟨rfl,rfl⟩|⟨f1,f2⟩
  ·rfl
  ·rw[hnewp]at h1;cases h1;rw[hold c' f1]at h2;exact wh ⟨c',oc',m',f2,h2⟩ hi
  ·rw[hnewp]at h2;cases h2;rw[hold c e1]at h1;exact wh ⟨c,oc,m,e2,h1⟩ hi
  ·rw[hold c e1]at h1;rw[hold c' f1]at h2;exact hr.inj c c' oc oc' s m m' e2 f2 h1 h2
 ·obtain⟨c,oc,m,k1,k2⟩:=hs;rcases get' c oc k1 with⟨rfl,rfl⟩|⟨e1,e2⟩
  ·rw[hnewp]at k2;cases k2;exact .inr hnew
  ·rw[hold c e1]at k2;exact he.im s ⟨c,oc,m,e2,k2⟩
 ·obtain⟨e1,h1⟩:=he.lock s hs hl;refine⟨e1,?_⟩;rcases h1 with⟨c,m,cs,t,fz,k1,k2,k3⟩|h1
  ·have hlc:=hr.lt k1;exact .inl ⟨c,m,cs,t,fz,by rw[H.BK,wc (by omega)];exact k1,by rw[hold c hlc];exact k2,k3⟩
  ·refine .inr ?_;rintro⟨c,oc,m,k1,k2⟩;rcases get' c oc k1 with⟨rfl,rfl⟩|⟨f1,f2⟩
   ·rw[hnewp]at k2;cases k2;omega
   ·rw[hold c f1]at k2;exact h1 ⟨c,oc,m,f2,k2⟩
theorem Ext.aside{p₀ p:Pl}{h₀ h:H}{w₀ w:World}(he:Ext p₀ h₀ w₀ p h w)(x:Obj):Ext p₀ h₀ w₀ p h { w with heap:=w.heap.push x }:=by
 have hr:=he.rel;refine⟨he.pre,⟨hr.len,fun b o hb=>?_,hr.inj⟩,by have:=he.size;simp;omega,fun r hlt hn=>?_,he.im,he.os,he.out,he.tape,fun r hlt hl=>?_⟩
 ·obtain⟨r,n,y,h1,h2,h3⟩:=hr.obj b o hb;have:=(zc.1 h2).1;exact⟨r,n,y,h1,by simp[yb,Nat.ne_of_lt this,h2],h3⟩
 ·have h1:=he.same r hlt hn;have:=he.size;simp only[yb];rw[wc (by omega)];exact h1
 ·obtain⟨h1,h2⟩:=he.lock r hlt hl;have:=he.size;refine⟨?_,h2⟩;simp only[yb];rw[wc (by omega)];exact h1
end
def DJ(C:Ctx)(call:Dy)(fr:Fr)(h:H)(o:Oper):Option (V×H):=
 match Gu C fr h o with
 |some (.val v h')=>some (v,h')
 |some (.skip h')=>some (.tup [],h')
 |some (.enter f args)=>match call (.fn f args) h with
  |some [x]=>some x
  |_=>none
 |_=>none
def CF(o:Oper):Bool:= !Eh o&& !Ct o
structure Stat(ops:Array Oper)(anc:Nat->Nat->Bool)(ord pos:Nat->Nat)(sc:Nat->Option Nat):Prop where
 sel:Region.noSelect ops=true
 ordp:∀q,q<ops.size->ord q<ops.size/\pos (ord q)=q
 posp:∀i,i<ops.size->pos i<ops.size/\ord (pos i)=i
 edge:∀j i,anc j i=true->∃(o:Oper) (e:Edge),ops[j]?=some o/\e∈o.after/\yf .any e=true/\(e.on=i\/anc e.on i=true)
 dir:∀(j:Nat) (o:Oper) (e:Edge),ops[j]?=some o->e∈o.after->yf .any e=true->anc j e.on=true/\e.on<ops.size
 apos:∀j i,anc j i=true->pos i<pos j
 s1:∀(i j:Nat) (o o':Oper),ops[i]?=some o->ops[j]?=some o'->CF o=true->CF o'=true->i≠j->anc i j=true\/anc j i=true
 s2:∀(i j:Nat) (o o':Oper),ops[i]?=some o->ops[j]?=some o'->CF o=true->Eh o'=true->anc j i=true\/pos j<pos i
 q1:∀(i k:Nat),sc i=some k->∃(o ok:Oper) (t:Tmp),ops[i]?=some o/\ops[k]?=some ok/\(o.op=.assign (.tmp t)\/o.op=.move (.tmp t))/\o.guard=none/\Ct ok=true/\ok.dst=some t/\anc i k=true
 s3:∀(j k:Nat) (o o':Oper) (t:Tmp),ops[j]?=some o->ops[k]?=some o'->(Ct o=true\/(sc j).isSome=true)->CF o'=false->o.dst=some t->t∈reads ops o'->anc k j=true->
  sc k=some j\/∃(i:Nat) (oi:Oper),ops[i]?=some oi/\CF oi=true/\anc i j=true/\anc k i=true
 s4:∀(i j:Nat) (o o':Oper),ops[i]?=some o->ops[j]?=some o'->CF o=true->Ct o'=true->anc i j=true\/pos i<pos j
 s5:∀(i j:Nat) (o o':Oper),ops[i]?=some o->ops[j]?=some o'->Eh o=true->Ot o=true->Ct o'=true->pos j<pos i->∃(k:Nat) (ok:Oper),ops[k]?=some ok/\CF ok=true/\pos j<pos k/\pos k<pos i
 s6:∀(i j:Nat) (o o':Oper) (t:Tmp),ops[i]?=some o->ops[j]?=some o'->i≠j->o.dst=some t->o'.dst≠some t/\(t∈reads ops o'->anc j i=true\/anc i j=true)
structure Canon(C:Ctx)(call:Dy)(ops:Array Oper)(anc:Nat->Nat->Bool)(ord pos:Nat->Nat)(fr0:Fr)(h0:H)(v:Nat->V)(Hh:Nat->H)(F:Nat->Fr):Prop where
 h0:Hh 0=h0
 f0:F 0=fr0
 fn:∀q,q<=ops.size->(F q).n=fr0.n
 fget:∀q,q<ops.size->∀(o:Oper),ops[ord q]?=some o->∀t,(F (q+1)).get t=if o.dst=some t then v (ord q)else(F q).get t
 dst:∀(i:Nat) (o:Oper) (t:Tmp),ops[i]?=some o->o.dst=some t->t<fr0.n
 step:∀(i:Nat) (o:Oper),ops[i]?=some o->
  (Bb (F (pos i)) ops o=false/\v i=.tup []/\Hh (pos i+1)=Hh (pos i))\/
  (Bb (F (pos i)) ops o=true/\
   ((Eh o=true/\Gu C (F (pos i)) (Hh (pos i)) o=some (.val (v i) (Hh (pos i)))/\Hh (pos i+1)=Hh (pos i))\/
    (Ct o=true/\∃ob f,aZ C (F (pos i)) o=some (ob,f)/\v i=f (Hh (pos i)).nx/\Hh (pos i+1)=(Hh (pos i)).push ob)\/
    (CF o=true/\DJ C call (F (pos i)) (Hh (pos i)) o=some (v i,Hh (pos i+1)))))
 stable:∀(i j:Nat) (o oj:Oper),ops[i]?=some o->ops[j]?=some oj->CF o=true->Eh oj=true->Ot oj=true->Bb (F (pos j)) ops oj=true->pos j<pos i->anc i j=false->
  Gu C (F (pos j)) (Hh (pos i+1)) oj=some (.val (v j) (Hh (pos i+1)))
theorem kinds(o:Oper):Eh o=true\/Ct o=true\/CF o=true:=by
 unfold CF;cases Eh o<;>cases Ct o<;>simp
theorem Jg{o:Oper}(h:Eh o=true):Ct o=false:=by
 unfold Eh at h;unfold Ct;split at h<;>simp_all
theorem PD{o:Oper}(h:CF o=true):Eh o=false/\Ct o=false:=by
 unfold CF at h;simpa using h
section
variable {C:Ctx}{P:Program}{call:Dy}{ops:Array Oper}{anc:Nat->Nat->Bool}{ord pos:Nat->Nat}{sc:Nat->Option Nat}{fr0:Fr}{h0:H}{v:Nat->V}{Hh:Nat->H}{F:Nat->Fr}
theorem Fw(st:Stat ops anc ord pos sc)(cn:Canon C call ops anc ord pos fr0 h0 v Hh F){k:Nat}{o:Oper}{t:Tmp}(hk:ops[k]?=some o)(ht:o.dst=some t):
  ∀q,q<=ops.size->pos k<q->(F q).get t=v k
 |0,_,h=>by omega
 |q+1,hq,h=>by
  have hqn:q<ops.size:=by omega
  obtain⟨h1,h2⟩:=st.ordp q hqn;rw[cn.fget q hqn (ops[ord q]) (by simp[h1]) t];have hkn:=(zc.1 hk).1;by_cases e:pos k=q
  ·have e2:ord q=k:=by rw[<-e];exact(st.posp k hkn).2
   have e3:ops[ord q]=o:=by have:=(zc.1 hk).2;simp only[e2];exact this
   rw[e3,wd ht,e2]
  ·have hne:ord q≠k:=fun e2=>e (by rw[<-e2,h2])
   have:=(st.s6 k (ord q) o (ops[ord q]) t hk (by simp[h1]) (Ne.symm hne) ht).1;rw[wc this];exact Fw st cn hk ht q (by omega) (by omega)
theorem Fz(st:Stat ops anc ord pos sc)(cn:Canon C call ops anc ord pos fr0 h0 v Hh F){t:Tmp}:
  ∀q,q<=ops.size->(∀k o,ops[k]?=some o->o.dst=some t->¬pos k<q)->(F q).get t=fr0.get t
 |0,_,_=>by rw[cn.f0]
 |q+1,hq,h=>by
  have hqn:q<ops.size:=by omega
  obtain⟨h1,h2⟩:=st.ordp q hqn;rw[cn.fget q hqn (ops[ord q]) (by simp[h1]) t,wc]
  ·exact Fz st cn q (by omega) fun k o hk ht hlt=>h k o hk ht (by omega)
  ·intro ht;exact h (ord q) _ (by simp[h1]) ht (by omega)
theorem vT(st:Stat ops anc ord pos sc)(cn:Canon C call ops anc ord pos fr0 h0 v Hh F){i k:Nat}(h:sc i=some k):v i=v k:=by
 obtain⟨o,ok,t,h1,h2,h3,h4,h5,h6,h7⟩:=st.q1 i k h;have hin:=(zc.1 h1).1;have hg:=Fw st cn h2 h6 (pos i) (y7 (st.posp i hin).1) (st.apos i k h7);have hw:Bb (F (pos i)) ops o=true:=by unfold Bb;rw[h4]
 have hrd:Eh o=true:=by unfold Eh;rcases h3 with h3|h3<;>rw[h3]
 rcases cn.step i o h1 with⟨u,_⟩|⟨_,⟨_,u,_⟩|⟨u,_⟩|⟨u,_⟩⟩
 ·rw[hw]at u;cases u
 ·have:Gu C (F (pos i)) (Hh (pos i)) o=some (.val ((F (pos i)).get t) (Hh (pos i))):=by
   rw[CU];unfold GL;rcases h3 with h3|h3<;>simp only[h3,ev,Bz]
  rw[this,hg]at u;simp only[ze,OR.val.injEq]at u;exact u.1.symm
 ·rw[Jg hrd]at u;cases u
 ·rw[(PD u).1]at hrd;cases hrd
structure Inv(C:Ctx)(ops:Array Oper)(pos:Nat->Nat)(sc:Nat->Option Nat)(fr0:Fr)(v:Nat->V)(Hh:Nat->H)(F:Nat->Fr)(p0:Pl)(h0:H)(w0:World)(df:List Deferred)
  (S:Nat->Prop) (m:Nat) (fl:Nat->Nat) (p:Pl) (a:Act) (w:World):Prop where
 ext:Ext p0 h0 w0 p (Hh m) w
 gl:Gl C p
 mn:m<=ops.size
 mh:∀(k:Nat) (o:Oper),ops[k]?=some o->CF o=true->(S k↔pos k<m)
 ma:∀(k:Nat) (o:Oper),ops[k]?=some o->Ct o=true->pos k<m->S k
 sz:a.tmps.size=fr0.n
 df:a.defers=df
 slot:∀t,(∀(i:Nat) (o:Oper),S i->ops[i]?=some o->o.dst≠some t)->Ac p (fr0.get t) (a.tmps.getD t undef)
 slotw:∀(i:Nat) (o:Oper) (t:Tmp),S i->ops[i]?=some o->o.dst=some t->((Ct o=true\/(sc i).isSome=true)->Bb (F (pos i)) ops o=true->pos i<m)->Ac p (v i) (a.tmps.getD t undef)
 flt:∀(i:Nat) (o:Oper),S i->ops[i]?=some o->Ct o=true->Bb (F (pos i)) ops o=true->m<=pos i->
  ∃n x ob f v',aZ C (F (pos i)) o=some (ob,f)/\w.heap[fl i]?=some x/\w0.heap.size<=fl i/\¬Im p (Hh m) (fl i)/\Hg p n ob x/\
   (∀(q:Pl) b,q[b]?=some (fl i,n)->Ac q (f b) v')/\(∀t,o.dst=some t->a.tmps.getD t undef=v')
 inj:∀(i j:Nat) (o o':Oper),S i->S j->ops[i]?=some o->ops[j]?=some o'->Ct o=true->Ct o'=true->Bb (F (pos i)) ops o=true->Bb (F (pos j)) ops o'=true->
  m<=pos i->m<=pos j->fl i=fl j->i=j
structure MC(ops:Array Oper)(pos:Nat->Nat)(sc:Nat->Option Nat)(S:Nat->Prop)(m:Nat)(a:Act):Prop where
 eq:∀(i k:Nat) (o ok:Oper) (t tk:Tmp),S i->ops[i]?=some o->sc i=some k->ops[k]?=some ok->o.dst=some t->ok.dst=some tk->m<=pos i->a.tmps.getD t undef=a.tmps.getD tk undef/\S k
theorem Inv.adv(st:Stat ops anc ord pos sc)(cn:Canon C call ops anc ord pos fr0 h0 v Hh F){p0:Pl}{w0:World}{df:List Deferred}{S:Nat->Prop}{fl:Nat->Nat}{a:Act}{w:World}:
  ∀(d m:Nat) {p:Pl},Inv C ops pos sc fr0 v Hh F p0 h0 w0 df S m fl p a w->MC ops pos sc S m a->m+d<=ops.size->
  (∀q,m<=q->q<m+d->∀(o:Oper),ops[ord q]?=some o->CF o=false/\(Ct o=true->S (ord q)))->
  ∃p',Inv C ops pos sc fr0 v Hh F p0 h0 w0 df S (m+d) fl p' a w
 |0,m,p,hi,_,_,_=>⟨p,hi⟩
 |d+1,m,p,hi,h2f,hn,hq=>by
  have hm:m<ops.size:=by omega
  obtain⟨g1,g2⟩:=st.ordp m hm;obtain⟨o0,hj⟩:∃o0,ops[ord m]?=some o0:=⟨ops[ord m],by simp[g1]⟩;obtain⟨q1,q2⟩:=hq m (zo _) (by omega) _ hj;have one:∃p',Inv C ops pos sc fr0 v Hh F p0 h0 w0 df S (m+1) fl p' a w:=by
   have hmh:∀(k:Nat) (o:Oper),ops[k]?=some o->CF o=true->(S k↔pos k<m+1):=by
    intro k o hk hv;rw[hi.mh k o hk hv];constructor
    ·intro h;omega
    ·intro h;by_cases e:pos k=m
     ·have hkn:=(zc.1 hk).1;have e2:ord m=k:=by rw[<-e];exact(st.posp k hkn).2
      subst e2;rw[hj]at hk;cases hk;simp[q1]at hv
     ·omega
   have hma:∀(k:Nat) (o:Oper),ops[k]?=some o->Ct o=true->pos k<m+1->S k:=by
    intro k o hk hal hlt;by_cases e:pos k=m
    ·have hkn:=(zc.1 hk).1;have e2:ord m=k:=by rw[<-e];exact(st.posp k hkn).2
     subst e2;rw[hj]at hk;cases hk;exact q2 hal
    ·exact hi.ma k o hk hal (by omega)
   have same:Hh (m+1)=Hh m->(Ct o0=true->Bb (F (pos (ord m))) ops o0=false)->(Bb (F (pos (ord m))) ops o0=false->v (ord m)=.tup [])->
     Inv C ops pos sc fr0 v Hh F p0 h0 w0 df S (m+1) fl p a w:=by
    intro hh hal _;refine⟨by rw[hh];exact hi.ext,hi.gl,by omega,hmh,hma,hi.sz,hi.df,hi.slot,fun i o t hs hi' ht hc=>?_,fun i o hs hi' ha hw hle=>?_,fun i j o o' hs hs' hi' hj' ha ha' hw hw' hle hle' he=>?_⟩
    ·by_cases hcp:(sc i).isSome=true/\pos i=m
     ·obtain⟨k,hk⟩:=yn.1 hcp.1;obtain⟨o2,ok,tk,h1,h2,h3,h4,h5,h6,h7⟩:=st.q1 i k hk;rw[hi']at h1;cases h1;obtain⟨e1,e2⟩:=h2f.eq i k o ok t tk hs hi' hk h2 ht h6 (by omega);rw[vT st cn hk,e1];have:=st.apos _ _ h7;exact hi.slotw k ok tk e2 h2 h6 fun _ _=>by omega
     ·refine hi.slotw i o t hs hi' ht fun ha hw=>?_
      have h1:=hc ha hw;by_cases e:pos i=m
      ·have hin:=(zc.1 hi').1;have e2:ord m=i:=by rw[<-e];exact(st.posp i hin).2
       subst e2;rw[hj]at hi';cases hi';rcases ha with ha|ha
       ·rw[hal ha]at hw;cases hw
       ·exact wh ⟨ha,e⟩ hcp
      ·omega
    ·obtain⟨n,x,ob,f,v',k1,k2,k3,k4,k5⟩:=hi.flt i o hs hi' ha hw (by omega);exact⟨n,x,ob,f,v',k1,k2,k3,by rw[hh];exact k4,k5⟩
    ·exact hi.inj i j o o' hs hs' hi' hj' ha ha' hw hw' (by omega) (by omega) he
   rcases cn.step (ord m) _ hj with⟨u1,u2,u3⟩|⟨u1,⟨u2,u3,u4⟩|⟨u2,ob,f,u3,u4,u5⟩|⟨u2,u3⟩⟩
   ·rw[g2]at u3;exact⟨p,same u3 (fun _=>u1) (fun _=>u2)⟩
   ·rw[g2]at u4;exact⟨p,same u4 (fun h=>by rw[Jg u2]at h;cases h) (fun h=>by rw[u1]at h;cases h)⟩
   ·
    obtain⟨n,x,ob',f',v',k1,k2,k3,k4,k5,k6,k7⟩:=hi.flt (ord m) _ (q2 u2) hj u2 u1 (by omega);rw[u3]at k1;cases k1;rw[g2]at u4 u5;have hx:=hi.ext.kA k2 k5 k4 k3;rw[<-u5]at hx;have hnew:(p++[(fl (ord m),n)])[(Hh m).nx]?=some (fl (ord m),n):=by rw[<-hi.ext.rel.len];simp
    have hv:Ac (p++[(fl (ord m),n)]) (v (ord m)) v':=by rw[u4];exact k6 _ _ hnew
    refine⟨p++[(fl (ord m),n)],hx,?_,by omega,hmh,hma,hi.sz,hi.df,fun t ht=>(hi.slot t ht).mono _,fun i o t hs hi' ht hc=>?_,fun i o hs hi' ha hw hle=>?_,fun i j o o' hs hs' hi' hj' ha ha' hw hw' hle hle' he=>?_⟩
    ·exact Gp.app hi.gl _
    ·by_cases e:i=ord m
     ·subst e;rw[hj]at hi';cases hi';rw[k7 t ht];exact hv
     ·refine(hi.slotw i o t hs hi' ht fun ha hw=>?_).mono _;have h1:=hc ha hw;have hin:=(zc.1 hi').1;have:pos i≠m:=fun e2=>e (by rw[<-e2];exact(st.posp i hin).2.symm)
      omega
    ·obtain⟨n',x',ob',f',v'',l1,l2,l3,l4,l5,l6,l7⟩:=hi.flt i o hs hi' ha hw (by omega);refine⟨n',x',ob',f',v'',l1,l2,l3,?_,l5.mono _,l6,l7⟩;rintro⟨b,ob2,n2,m1,m2⟩;rw[u5,H.BK]at m1;by_cases e:b=(Hh m).nx
     ·subst e;rw[hnew]at m2;have:fl (ord m)=fl i:=(Prod.mk.inj (Option.some.inj m2)).1;have:=hi.inj (ord m) i _ o (q2 u2) hs hj hi' u2 ha u1 hw (by omega) (by omega) this;subst this;omega
     ·rw[wc e]at m1;have hb:=hi.ext.rel.lt m1;rw[z7 (by rw[hi.ext.rel.len];exact hb)]at m2;exact l4 ⟨b,ob2,n2,m1,m2⟩
    ·exact hi.inj i j o o' hs hs' hi' hj' ha ha' hw hw' (by omega) (by omega) he
   ·rw[q1]at u2;cases u2
  obtain⟨p',hi'⟩:=one;obtain⟨p'',hi''⟩:=Inv.adv st cn d (m+1) hi' ⟨fun i k o ok t tk g1 g2 g3 g4 g5 g6 g7=>h2f.eq i k o ok t tk g1 g2 g3 g4 g5 g6 (by omega)⟩ (by omega) (fun q h1 h2=>hq q (by omega) (by omega));exact⟨p'',by rw[show m+(d+1)=m+1+d from by omega];exact hi''⟩
end
section
variable {C:Ctx}{P:Program}{call:Dy}{ops:Array Oper}{anc:Nat->Nat->Bool}{ord pos:Nat->Nat}{sc:Nat->Option Nat}{fr0:Fr}{h0:H}{v:Nat->V}{Hh:Nat->H}{F:Nat->Fr}
 {p0:Pl} {w0:World} {df:List Deferred} {S:Nat->Prop} {m:Nat} {fl:Nat->Nat} {p:Pl} {a:Act} {w:World}
structure Q1(anc:Nat->Nat->Bool)(S:Nat->Prop)(i:Nat):Prop where
 fresh:¬S i
 all:∀k,anc i k=true->S k
def Down(anc:Nat->Nat->Bool)(S:Nat->Prop):Prop:=∀i k,S i->anc i k=true->S k
theorem operands(st:Stat ops anc ord pos sc)(cn:Canon C call ops anc ord pos fr0 h0 v Hh F)(hi:Inv C ops pos sc fr0 v Hh F p0 h0 w0 df S m fl p a w)(hd:Down anc S){i:Nat}{o:Oper}(ho:ops[i]?=some o)(hr:Q1 anc S i)
  (hfl:∀(k:Nat) (ok:Oper) (t:Tmp),ops[k]?=some ok->(Ct ok=true\/(sc k).isSome=true)->ok.dst=some t->t∈reads ops o->anc i k=true->pos k<m):yP p (F (pos i)) a (reads ops o):=by
 have hin:=(zc.1 ho).1;have hpn:=(st.posp i hin).1;refine⟨by rw[cn.fn _ (by omega),hi.sz],fun t ht=>?_⟩;by_cases hw:∃(k:Nat) (ok:Oper),k≠i/\ops[k]?=some ok/\ok.dst=some t
 ·obtain⟨k,ok,hne,hk,hkt⟩:=hw;rcases(st.s6 k i ok o t hk ho hne hkt).2 ht with h1|h1
  ·have hkS:=hr.all k h1;rw[Fw st cn hk hkt (pos i) (by omega) (st.apos i k h1)];exact hi.slotw k ok t hkS hk hkt fun ha _=>hfl k ok t hk ha hkt ht h1
  ·have hkS:¬S k:=fun h=>hr.fresh (hd k i h h1)
   have hno:∀(j:Nat) (oj:Oper),ops[j]?=some oj->oj.dst=some t->j=k:=by
    intro j oj hj hjt;by_cases e:j=k
    ·exact e
    ·exact wh hjt (st.s6 k j ok oj t hk hj (fun h=>e h.symm) hkt).1
   rw[Fz st cn (pos i) (by omega) fun j oj hj hjt hlt=>by
    have:=hno j oj hj hjt;subst this;have:=st.apos _ _ h1;omega]
   refine hi.slot t fun j oj hS hj hjt=>?_
   have:=hno j oj hj hjt;subst this;exact hkS hS
 ·have hno:∀(j:Nat) (oj:Oper),ops[j]?=some oj->oj.dst=some t->j=i:=by
   intro j oj hj hjt;by_cases e:j=i
   ·exact e
   ·exact wh ⟨j,oj,e,hj,hjt⟩ hw
  rw[Fz st cn (pos i) (by omega) fun j oj hj hjt hlt=>by
   have:=hno j oj hj hjt;subst this;omega]
  refine hi.slot t fun j oj hS hj hjt=>?_
  have:=hno j oj hj hjt;subst this;exact hr.fresh hS
def Rest(ops:Array Oper)(pos:Nat->Nat)(S:Nat->Prop)(m:Nat):Prop:=m=0\/∃(k:Nat) (o:Oper),ops[k]?=some o/\CF o=true/\S k/\m=pos k+1
theorem N6(st:Stat ops anc ord pos sc)(hd:Down anc S)(hi:Inv C ops pos sc fr0 v Hh F p0 h0 w0 df S m fl p a w)(hrest:Rest ops pos S m){k:Nat}{o:Oper}(hk:ops[k]?=some o)(hr:¬S k):
  m<=pos k\/∃(i:Nat) (oi:Oper),ops[i]?=some oi/\CF oi=true/\S i/\m=pos i+1/\pos k<pos i/\anc i k=false:=by
 by_cases hlt:m<=pos k
 ·exact .inl hlt
 ·right;rcases hrest with rfl|⟨i,oi,h1,h2,h3,h4⟩
  ·omega
  ·refine⟨i,oi,h1,h2,h3,h4,?_,?_⟩
   ·have hne:k≠i:=fun e=>hr (e▸h3)
    have hkn:=(zc.1 hk).1;have hin:=(zc.1 h1).1;have:pos k≠pos i:=fun e=>hne (by rw[<-(st.posp k hkn).2,e,(st.posp i hin).2])
    omega
   ·cases hc:anc i k with
    |false=>rfl
    |true=>exact wh (hd i k h3 hc) hr
theorem P2(st:Stat ops anc ord pos sc)(hi:Inv C ops pos sc fr0 v Hh F p0 h0 w0 df S m fl p a w){i:Nat}{o:Oper}(ho:ops[i]?=some o)(hr:Q1 anc S i)(hnal:Ct o=false){k:Nat}{ok:Oper}(hk:ops[k]?=some ok)
  (hv:CF ok=true) (h1:m<=pos k) (h2:pos k<pos i):False:=by
 have hkS:¬S k:=fun h=>by have:=(hi.mh k ok hk hv).1 h;omega
 have hne:k≠i:=fun e=>by subst e;omega
 rcases kinds o with h|h|h
 ·rcases st.s2 k i ok o hk ho hv h with h3|h3
  ·exact hkS (hr.all k h3)
  ·omega
 ·rw[hnal]at h;cases h
 ·rcases st.s1 k i ok o hk ho hv h hne with h3|h3
  ·have:=st.apos _ _ h3;omega
  ·exact hkS (hr.all k h3)
theorem VG(st:Stat ops anc ord pos sc)(cn:Canon C call ops anc ord pos fr0 h0 v Hh F)(hd:Down anc S)(hi:Inv C ops pos sc fr0 v Hh F p0 h0 w0 df S m fl p a w)(hrest:Rest ops pos S m){i:Nat}{o:Oper}(ho:ops[i]?=some o)
  (hr:Q1 anc S i) (hk:Eh o=true) (hwd:Bb (F (pos i)) ops o=true) (hdop:Gu C (F (pos i)) (Hh (pos i)) o=some (.val (v i) (Hh (pos i)))):Gu C (F (pos i)) (Hh m) o=some (.val (v i) (Hh m)):=by
 have hnal:=Jg hk;cases hhd:Ot o with
 |false=>exact kJ hk hhd hdop _
 |true=>
  rcases N6 st hd hi hrest ho hr.fresh with hle|⟨k,ok,h1,h2,h3,h4,h5,h6⟩
  ·have hin:=(zc.1 ho).1;have hpn:=(st.posp i hin).1;have key:∀d,m+d<=pos i->Hh (m+d)=Hh m:=by
    intro d;induction d with
    |zero=>intro _;rfl
    |succ d ih=>
     intro hle';have h7:=ih (by omega);obtain⟨g1,g2⟩:=st.ordp (m+d) (by omega);obtain⟨oq,hq⟩:∃oq,ops[ord (m+d)]?=some oq:=⟨ops[ord (m+d)],by simp[g1]⟩;rw[<-h7,show m+(d+1)=m+d+1 from by omega];rcases cn.step _ oq hq with⟨_,_,u⟩|⟨_,⟨_,_,u⟩|⟨u1,_⟩|⟨u1,_⟩⟩
     ·rwa [g2]at u
     ·rwa [g2]at u
     ·obtain⟨k,ok,k1,k2,k3,k4⟩:=st.s5 i _ o oq ho hq hk hhd u1 (by rw[g2];omega);rw[g2]at k3;exact(P2 st hi ho hr hnal k1 k2 (by omega) k4).elim
     ·exact(P2 st hi ho hr hnal hq u1 (by rw[g2];omega) (by rw[g2];omega)).elim
   have:=key (pos i-m) (by omega);rw[show m+(pos i-m)=pos i from by omega]at this;rw[this]at hdop;exact hdop
  ·rw[h4];exact cn.stable k i ok o h1 ho h2 hk hhd hwd h5 h6
theorem DR{a:Act}{d:Option Tmp}{x:Value}{t:Tmp}(h:d≠some t):(a.put d x).tmps.getD t undef=a.tmps.getD t undef:=by
 cases d with
 |none=>rfl
 |some s=>
  have:s≠t:=fun e=>h (by rw[e])
  simp only[Act.put,zk];rw[Array.getElem?_setIfInBounds_ne this]
theorem Fk{a:Act}{x:Value}{t:Tmp}(h:t<a.tmps.size):(a.put (some t) x).tmps.getD t undef=x:=by
 simp[Act.put,h]
theorem Of{a:Act}{d:Option Tmp}{x:Value}:(a.put d x).tmps.size=a.tmps.size:=by cases d<;>simp[Act.put]
theorem Ow{a:Act}{d:Option Tmp}{x:Value}:(a.put d x).defers=a.defers:=by cases d<;>rfl
theorem MC.put(st:Stat ops anc ord pos sc){S:Nat->Prop}{m m':Nat}{a:Act}(h2:MC ops pos sc S m a){i:Nat}{o:Oper}(ho:ops[i]?=some o)(hfresh:¬S i)(hr:Q1 anc S i){x:Value}(hm:m<=m')
  (hc:∀(k:Nat) (ok:Oper) (t tk:Tmp),sc i=some k->ops[k]?=some ok->o.dst=some t->ok.dst=some tk->m'<=pos i->(a.put o.dst x).tmps.getD t undef=a.tmps.getD tk undef):
  MC ops pos sc (fun k=>S k\/k=i) m' (a.put o.dst x):=by
 refine⟨fun j k oj ok t tk g1 g2 g3 g4 g5 g6 g7=>?_⟩;obtain⟨o1,o2,t2,q1,q2,q3,q4,q5,q6,q7⟩:=st.q1 j k g3;rw[g4]at q2;cases q2;rw[g6]at q6;cases q6;by_cases e:j=i
 ·subst e;rw[ho]at g2;cases g2;have hk:S k:=hr.all k q7;refine⟨?_,.inl hk⟩;rw[hc k ok t tk g3 g4 g5 g6 g7];have hne:k≠j:=fun e=>hfresh (e▸hk)
  have:o.dst≠some tk:=(st.s6 k j ok o tk g4 ho hne g6).1;rw[DR this]
 ·have hj:=g1.resolve_right e;obtain⟨e1,e2⟩:=h2.eq j k oj ok t tk hj g2 g3 g4 g5 g6 (by omega);have hki:k≠i:=fun h=>hfresh (h▸e2)
  have d1:o.dst≠some t:=(st.s6 j i oj o t g2 ho e g5).1;have d2:o.dst≠some tk:=(st.s6 k i ok o tk g4 ho hki g6).1;rw[DR d1,DR d2];exact⟨e1,.inl e2⟩
theorem Inv.quiet(st:Stat ops anc ord pos sc)(cn:Canon C call ops anc ord pos fr0 h0 v Hh F)(hi:Inv C ops pos sc fr0 v Hh F p0 h0 w0 df S m fl p a w){i:Nat}{o:Oper}(ho:ops[i]?=some o)(hfresh:¬S i)(hnhv:CF o=false)
  (hna:Ct o=true->Bb (F (pos i)) ops o=false) {x:Value} (hx:((sc i).isSome=true->Bb (F (pos i)) ops o=true->pos i<m)->Ac p (v i) x):Inv C ops pos sc fr0 v Hh F p0 h0 w0 df (fun k=>S k\/k=i) m fl p (a.put o.dst x) w:=by
 have hdst:∀(k:Nat) (ok:Oper) (t:Tmp),k≠i->ops[k]?=some ok->ok.dst=some t->o.dst≠some t:=fun k ok t hne hk ht=>(st.s6 k i ok o t hk ho hne ht).1
 refine⟨hi.ext,hi.gl,hi.mn,fun k ok hk hv=>?_,fun k ok hk hal hlt=>.inl (hi.ma k ok hk hal hlt),by rw[Of,hi.sz],by rw[Ow,hi.df],fun t ht=>?_,fun k ok t hS hk ht hc=>?_,fun k ok hS hk ha hw hle=>?_,
  fun k j ok oj hS hS' hk hj ha ha' hw hw' hle hle' he=>?_⟩
 ·rw[<-hi.mh k ok hk hv];refine⟨fun h=>h.elim id fun e=>?_,.inl⟩;subst e;rw[ho]at hk;cases hk;rw[hnhv]at hv;cases hv
 ·have h1:o.dst≠some t:=ht i o (.inr rfl) ho;rw[DR h1];exact hi.slot t fun k ok hS hk=>ht k ok (.inl hS) hk
 ·by_cases e:k=i
  ·subst e;rw[ho]at hk;cases hk;rw[ht,Fk (by rw[hi.sz];exact cn.dst k o t ho ht)];exact hx fun h1 h2=>hc (.inr h1) h2
  ·rw[DR (hdst k ok t e hk ht)];exact hi.slotw k ok t (hS.resolve_right e) hk ht hc
 ·have e:k≠i:=by
   rintro rfl;rw[ho]at hk;cases hk;rw[hna ha]at hw;cases hw
  obtain⟨n,y,ob,f,v',k1,k2,k3,k4,k5,k6,k7⟩:=hi.flt k ok (hS.resolve_right e) hk ha hw hle;exact⟨n,y,ob,f,v',k1,k2,k3,k4,k5,k6,fun t ht=>by rw[DR (hdst k ok t e hk ht)];exact k7 t ht⟩
 ·have e:k≠i:=by
   rintro rfl;rw[ho]at hk;cases hk;rw[hna ha]at hw;cases hw
  have e':j≠i:=by
   rintro rfl;rw[ho]at hj;cases hj;rw[hna ha']at hw';cases hw'
  exact hi.inj k j ok oj (hS.resolve_right e) (hS'.resolve_right e') hk hj ha ha' hw hw' hle hle' he
theorem Inv.made(st:Stat ops anc ord pos sc)(hi:Inv C ops pos sc fr0 v Hh F p0 h0 w0 df S m fl p a w){i:Nat}{o:Oper}(ho:ops[i]?=some o)(hal:Ct o=true)(hwd:Bb (F (pos i)) ops o=true)(hle:m<=pos i)
  (cn:Canon C call ops anc ord pos fr0 h0 v Hh F) {ob:O} {f:Nat->V} (hdal:aZ C (F (pos i)) o=some (ob,f)) {x:Obj} {n:Nat} {v':Value} (hx:Hg p n ob x) (hv:∀(q:Pl) b,q[b]?=some (w.heap.size,n)->Ac q (f b) v'):
  Inv C ops pos sc fr0 v Hh F p0 h0 w0 df (fun k=>S k\/k=i) m (fun k=>if k=i then w.heap.size else fl k) p (a.put o.dst v') { w with heap:=w.heap.push x }:=by
 have hdst:∀(k:Nat) (ok:Oper) (t:Tmp),k≠i->ops[k]?=some ok->ok.dst=some t->o.dst≠some t:=fun k ok t hne hk ht=>(st.s6 k i ok o t hk ho hne ht).1
 have hnhv:CF o=false:=by simp[CF,hal]
 refine⟨hi.ext.aside x,hi.gl,hi.mn,fun k ok hk hv=>?_,fun k ok hk hal hlt=>.inl (hi.ma k ok hk hal hlt),by rw[Of,hi.sz],by rw[Ow,hi.df],fun t ht=>?_,fun k ok t hS hk ht hc=>?_,fun k ok hS hk ha hw hle=>?_,
  fun k j ok oj hS hS' hk hj ha ha' hw hw' hle hle' he=>?_⟩
 ·rw[<-hi.mh k ok hk hv];refine⟨fun h=>h.elim id fun e=>?_,.inl⟩;subst e;rw[ho]at hk;cases hk;rw[hnhv]at hv;cases hv
 ·have h1:o.dst≠some t:=ht i o (.inr rfl) ho;rw[DR h1];exact hi.slot t fun k ok hS hk=>ht k ok (.inl hS) hk
 ·by_cases e:k=i
  ·subst e;rw[ho]at hk;cases hk;have:=hc (.inl hal) hwd;omega
  ·rw[DR (hdst k ok t e hk ht)];exact hi.slotw k ok t (hS.resolve_right e) hk ht hc
 ·by_cases e:k=i
  ·subst e;rw[ho]at hk;cases hk;refine⟨n,x,ob,f,v',hdal,by simp,by simpa using hi.ext.size,fun hIm=>?_,hx,by simpa using hv,fun t ht=>?_⟩
   ·have:=hi.ext.rel.YG hIm;simp at this
   ·rw[ht,Fk (by rw[hi.sz];exact cn.dst k o t ho ht)]
  ·obtain⟨n',y,ob',f',v'',k1,k2,k3,k4,k5,k6,k7⟩:=hi.flt k ok (hS.resolve_right e) hk ha hw hle;have hlt:=(zc.1 k2).1;refine⟨n',y,ob',f',v'',k1,?_,by simpa [e]using k3,by simpa [e]using k4,k5,by simpa [e]using k6,fun t ht=>by rw[DR (hdst k ok t e hk ht)];exact k7 t ht⟩;simp only[e,ve,yb];rw[wc (by omega)];exact k2
 ·by_cases e:k=i<;>by_cases e':j=i
  ·rw[e,e']
  ·obtain⟨_,_,_,_,_,_,k2,_⟩:=hi.flt j oj (hS'.resolve_right e') hj ha' hw' hle';have hlt:=(zc.1 k2).1;simp only[e,wk,e',ve]at he;omega
  ·obtain⟨_,_,_,_,_,_,k2,_⟩:=hi.flt k ok (hS.resolve_right e) hk ha hw hle;have hlt:=(zc.1 k2).1;simp only[e,ve,e',wk]at he;omega
  ·simp only[e,ve,e']at he;exact hi.inj k j ok oj (hS.resolve_right e) (hS'.resolve_right e') hk hj ha ha' hw hw' hle hle' he
theorem Inv.wrote(st:Stat ops anc ord pos sc)(cn:Canon C call ops anc ord pos fr0 h0 v Hh F){i:Nat}{o:Oper}(hi:Inv C ops pos sc fr0 v Hh F p0 h0 w0 df S (pos i) fl p a w)(ho:ops[i]?=some o)(hhv:CF o=true)(hfresh:¬S i)
  {p':Pl} {w':World} {x:Value} (he:Ext p (Hh (pos i)) w p' (Hh (pos i+1)) w') (hx:Ac p' (v i) x):
  Inv C ops pos sc fr0 v Hh F p0 h0 w0 df (fun k=>S k\/k=i) (pos i+1) fl p' (a.put o.dst x) w':=by
 have hdst:∀(k:Nat) (ok:Oper) (t:Tmp),k≠i->ops[k]?=some ok->ok.dst=some t->o.dst≠some t:=fun k ok t hne hk ht=>(st.s6 k i ok o t hk ho hne ht).1
 obtain⟨hnr,hnal⟩:=PD hhv;have hin:=(zc.1 ho).1;have hpi:∀ {k:Nat} {ok:Oper},ops[k]?=some ok->pos k=pos i->k=i:=fun {k ok} hk e=>by
  have hkn:=(zc.1 hk).1;rw[<-(st.posp k hkn).2,e,(st.posp i hin).2]
 refine⟨hi.ext.trans he,hi.gl.ext he,(st.posp i hin).1,fun k ok hk hv=>?_,fun k ok hk hal hlt=>?_,by rw[Of,hi.sz],by rw[Ow,hi.df],fun t ht=>?_,fun k ok t hS hk ht hc=>?_,fun k ok hS hk ha hw hle=>?_,
  fun k j ok oj hS hS' hk hj ha ha' hw hw' hle hle' hfe=>?_⟩
 ·constructor
  ·rintro(h|rfl)
   ·have:=(hi.mh k ok hk hv).1 h;omega
   ·omega
  ·intro h;by_cases e:pos k=pos i
   ·exact .inr (hpi hk e)
   ·exact .inl ((hi.mh k ok hk hv).2 (by omega))
 ·by_cases e:pos k=pos i
  ·exact .inr (hpi hk e)
  ·exact .inl (hi.ma k ok hk hal (by omega))
 ·have h1:o.dst≠some t:=ht i o (.inr rfl) ho;rw[DR h1];exact he.dX (hi.slot t fun k ok hS hk=>ht k ok (.inl hS) hk)
 ·by_cases e:k=i
  ·subst e;rw[ho]at hk;cases hk;rw[ht,Fk (by rw[hi.sz];exact cn.dst k o t ho ht)];exact hx
  ·rw[DR (hdst k ok t e hk ht)];refine he.dX (hi.slotw k ok t (hS.resolve_right e) hk ht fun h1 h2=>?_);have:=hc h1 h2;have h3:pos k≠pos i:=fun e2=>e (hpi hk e2)
   omega
 ·have e:k≠i:=by
   rintro rfl;omega
  obtain⟨n,y,ob,f,v',k1,k2,k3,k4,k5,k6,k7⟩:=hi.flt k ok (hS.resolve_right e) hk ha hw (by omega);have hlt:=(zc.1 k2).1;obtain⟨q,rfl⟩:=he.pre;refine⟨n,y,ob,f,v',k1,by rw[he.same _ hlt k4];exact k2,k3,fun hIm=>?_,k5.mono _,k6,fun t ht=>by rw[DR (hdst k ok t e hk ht)];exact k7 t ht⟩;rcases he.im _ hIm with h|h
  ·exact k4 h
  ·omega
 ·have e:k≠i:=by rintro rfl;omega
  have e':j≠i:=by rintro rfl;omega
  exact hi.inj k j ok oj (hS.resolve_right e) (hS'.resolve_right e') hk hj ha ha' hw hw' (by omega) (by omega) hfe
theorem Inv.along(hi:Inv C ops pos sc fr0 v Hh F p0 h0 w0 df S m fl p a w){p':Pl}{w':World}(he:Ext p (Hh m) w p' (Hh m) w'):Inv C ops pos sc fr0 v Hh F p0 h0 w0 df S m fl p' a w':=by
 refine⟨hi.ext.trans he,hi.gl.ext he,hi.mn,hi.mh,hi.ma,hi.sz,hi.df,fun t ht=>he.dX (hi.slot t ht),fun i o t h1 h2 h3 h4=>he.dX (hi.slotw i o t h1 h2 h3 h4),fun k ok hS hk ha hw hle=>?_,hi.inj⟩;obtain⟨n,y,ob,f,v',k1,k2,k3,k4,k5,k6,k7⟩:=hi.flt k ok hS hk ha hw hle;have hlt:=(zc.1 k2).1;obtain⟨q,rfl⟩:=he.pre;refine⟨n,y,ob,f,v',k1,by rw[he.same _ hlt k4];exact k2,k3,fun hIm=>?_,k5.mono _,k6,k7⟩;rcases he.im _ hIm with h|h
 ·exact k4 h
 ·omega
theorem bX{o:Oper}(h:Ct o=true):∀c,o.op≠ .defer c:=by
 intro c e;unfold Ct at h;rw[e]at h;cases h
theorem up(hC:C.Ok P)(hcall:call.Ok C P)(st:Stat ops anc ord pos sc)(cn:Canon C call ops anc ord pos fr0 h0 v Hh F)(hi:Inv C ops pos sc fr0 v Hh F p0 h0 w0 df S m fl p a w)(h2f:MC ops pos sc S m a)(hd:Down anc S)(hrest:Rest ops pos S m)
  {i:Nat} {o:Oper} (ho:ops[i]?=some o) (hr:Q1 anc S i) {Q:Exit->Act->World->Prop} {K:Act->World->Prop}
  (hK:∀m' fl' p' a' w',Inv C ops pos sc fr0 v Hh F p0 h0 w0 df (fun k=>S k\/k=i) m' fl' p' a' w'->MC ops pos sc (fun k=>S k\/k=i) m' a'->Rest ops pos (fun k=>S k\/k=i) m'->K a' w') {ro:Option Nat} {nn:Nat}:wpOpIn (FW ro) nn P ops Q i K a w:=by
 have hin:=(zc.1 ho).1;have hsel:∀cs b,o.op≠ .select cs b:=fun cs b=>Region.noSelect_spec st.sel i o cs b ho
 have hrest':Rest ops pos (fun k=>S k\/k=i) m:=by
  rcases hrest with h|⟨k,ok,h1,h2,h3,h4⟩
  ·exact .inl h
  ·exact .inr ⟨k,ok,h1,h2,.inl h3,h4⟩
 unfold wpOpIn;simp only[ho];cases hhv:CF o with
 |false=>
  by_cases hcp:(sc i).isSome=true/\m<=pos i
  ·
   obtain⟨k,hk⟩:=yn.1 hcp.1;obtain⟨o2,ok,t,q1,q2,q3,q4,q5,q6,q7⟩:=st.q1 i k hk;rw[ho]at q1;cases q1;have hw:Region.wanted o (yielded ops a.tmps)=true:=by unfold Region.wanted;rw[q4]
   simp only[hw,wk];refine⟨fun _ _=>trivial,?_⟩;have hrun:(execOp a.eval o).run P w=.ok (.value (a.tmps.getD t undef)) w:=by
    unfold execOp;rcases q3 with q3|q3<;>simp[q3,Act.eval]
   rw[yc _ _ _ (fun c hc=>by rcases q3 with q3|q3<;>rw[q3]at hc<;>cases hc),hrun,yd];have hnal:Ct o=false:=by unfold Ct;rcases q3 with q3|q3<;>rw[q3]
   refine hK m fl p _ w (hi.quiet st cn ho hr.fresh hhv (fun h=>by rw[hnal]at h;cases h) (fun h=>by have:=h hcp.1 (by unfold Bb;rw[q4]);omega)) (h2f.put st ho hr.fresh hr (zo _) fun k' ok' t' tk h1 h2 h3 h4 _=>?_) hrest';rw[hk]at h1;cases h1;rw[q2]at h2;cases h2;rw[q6]at h4;cases h4;rw[h3,Fk (by rw[hi.sz];exact cn.dst i o t' ho h3)]
  have hcp':∀k,sc i=some k->pos i<m:=fun k hk=>by
   rcases yr (pos i) m with h|h
   ·exact h
   ·exact wh ⟨by rw[hk];rfl,h⟩ hcp
  have hfl:∀(k:Nat) (ok:Oper) (t:Tmp),ops[k]?=some ok->(Ct ok=true\/(sc k).isSome=true)->ok.dst=some t->t∈reads ops o->anc i k=true->pos k<m:=by
   intro k ok t hk hal hkt ht hanc;rcases st.s3 k i ok o t hk ho hal hhv hkt ht hanc with h|⟨j,oj,j1,j2,j3,j4⟩
   ·have:=hcp' k h;have:=st.apos _ _ hanc;omega
   ·have:=(hi.mh j oj j1 j2).1 (hr.all j j4);have:=st.apos _ _ j3;omega
  have h2n:∀x,MC ops pos sc (fun k=>S k\/k=i) m (a.put o.dst x):=fun x=>h2f.put st ho hr.fresh hr (zo _) fun k ok t tk h1 _ _ _ h5=>by have:=hcp' k h1;omega
  have hon:=operands st cn hi hd ho hr hfl;rw[Q7 hon];rcases cn.step i o ho with⟨u1,u2,u3⟩|⟨u1,u⟩
  ·simp only[u1,zu,ve];refine⟨fun _ _=>trivial,?_⟩;exact hK m fl p _ w (hi.quiet st cn ho hr.fresh hhv (fun _=>u1) (fun _=>by rw[u2];simp[Ac,undef])) (h2n _) hrest'
  ·simp only[u1,wk];refine⟨fun _ _=>trivial,?_⟩;rcases u with⟨u2,u3,u4⟩|⟨u2,ob,f,u3,u4,u5⟩|⟨u2,u3⟩
   ·have hdop:=VG st cn hd hi hrest ho hr u2 u1 u3;obtain⟨v',p',w',g1,g2,g3⟩:=Ja hC hi.ext.rel hi.gl hon hsel hdop;rw[yc _ _ _ (Hj hdop),g1,yd];have hi2:=hi.along g3;exact hK m fl p' _ w' (hi2.quiet st cn ho hr.fresh hhv (fun h=>by rw[Jg u2]at h;cases h) fun _=>g2) (h2n _) hrest'
   ·have hle:m<=pos i:=by
     rcases N6 st hd hi hrest ho hr.fresh with h|⟨k,ok,h1,h2,h3,h4,h5,h6⟩
     ·exact h
     ·rcases st.s4 k i ok o h1 ho h2 u2 with h7|h7
      ·rw[h6]at h7;cases h7
      ·omega
    obtain⟨x,n,v',g1,g2,g3⟩:=vS (P:=P) hC hi.gl hon u3;rw[yc _ _ _ (bX u2),g1,yd];exact hK m _ p _ _ (hi.made st ho u2 u1 hle cn u3 g2 g3) (h2n _) hrest'
   ·rw[hhv]at u2;cases u2
 |true=>
  obtain⟨hnr,hnal⟩:=PD hhv;have hle:m<=pos i:=by
   rcases yr (pos i) m with h|h
   ·exact wh ((hi.mh i o ho hhv).2 h) hr.fresh
   ·exact h
  have hpn:=(st.posp i hin).1;obtain⟨p1,hi1⟩:=Inv.adv st cn (pos i-m) m hi h2f (by omega) (fun q h1 h2 oq hq=>by
   obtain⟨g1,g2⟩:=st.ordp q (by omega);refine⟨?_,fun hal=>?_⟩
   ·cases hv:CF oq with
    |false=>rfl
    |true=>exact(P2 st hi ho hr hnal hq hv (by rw[g2];omega) (by rw[g2];omega)).elim
   ·rcases st.s4 i (ord q) o oq ho hq hhv hal with h3|h3
    ·exact hr.all _ h3
    ·rw[g2]at h3;omega)
  rw[show m+(pos i-m)=pos i from by omega]at hi1;have hon:=operands st cn hi1 hd ho hr fun k ok t hk hal _ _ hanc=>st.apos _ _ hanc
  have h2n:∀x,MC ops pos sc (fun k=>S k\/k=i) (pos i+1) (a.put o.dst x):=fun x=>h2f.put st ho hr.fresh hr (by omega) fun k ok t tk _ _ _ _ h5=>by omega
  rw[Q7 hon];have hrest2:Rest ops pos (fun k=>S k\/k=i) (pos i+1):=.inr ⟨i,o,ho,hhv,.inr rfl,rfl⟩;rcases cn.step i o ho with⟨u1,u2,u3⟩|⟨u1,u⟩
  ·simp only[u1,zu,ve];refine⟨fun _ _=>trivial,?_⟩;have he:Ext p1 (Hh (pos i)) w p1 (Hh (pos i+1)) w:=by rw[u3];exact yh hi1.ext.rel
   exact hK _ _ _ _ _ (hi1.wrote st cn ho hhv hr.fresh he (by rw[u2];simp[Ac,undef])) (h2n _) hrest2
  ·simp only[u1,wk];refine⟨fun _ _=>trivial,?_⟩;rcases u with⟨u2,u3,u4⟩|⟨u2,ob,f,u3,u4,u5⟩|⟨u2,u3⟩
   ·rw[hnr]at u2;cases u2
   ·rw[hnal]at u2;cases u2
   ·unfold DJ at u3;split at u3
    case h_4=>cases u3
    case h_1=>
     rename_i vv hh hop;simp only[ze,zl]at u3;obtain⟨rfl,rfl⟩:=u3;obtain⟨v',p',w',g1,g2,g3⟩:=Ja hC hi1.ext.rel hi1.gl hon hsel hop;rw[yc _ _ _ (Hj hop),g1,yd];exact hK _ _ _ _ _ (hi1.wrote st cn ho hhv hr.fresh g3 g2) (h2n _) hrest2
    case h_2=>
     rename_i hh hop;simp only[ze,zl]at u3;obtain⟨u4,rfl⟩:=u3;obtain⟨p',w',g1,g3⟩:=Ja hC hi1.ext.rel hi1.gl hon hsel hop;rw[yc _ _ _ (Hj hop),g1,Oper.uponIn_skip];exact hK _ _ _ _ _ (hi1.wrote st cn ho hhv hr.fresh g3 (by rw[<-u4];simp[Ac,undef])) (h2n _) hrest2
    case h_3=>
     rename_i f args hop;obtain⟨args',g1,g2⟩:=Ja hC hi1.ext.rel hi1.gl hon hsel hop;rw[yc _ _ _ (Hj hop),g1,Oper.uponIn_enter];split at u3
     case h_2=>cases u3
     rename_i x1 x2 hcl;cases u3;refine⟨fun h=>(by simp[FW,yi]at h),Wk.2 ((hcall.fn f args _ _ hcl p1 w args' hi1.ext.rel hi1.gl g2).mono ?_)⟩;rintro e w' ⟨v',h',x',p',hm,rfl,k1,k2⟩;rw[zf]at hm;cases hm;exact hK _ _ _ _ _ (hi1.wrote st cn ho hhv hr.fresh k2 k1) (h2n _) hrest2
theorem Inv.congr{S':Nat->Prop}(h:∀k,S k↔S' k)(hi:Inv C ops pos sc fr0 v Hh F p0 h0 w0 df S m fl p a w):Inv C ops pos sc fr0 v Hh F p0 h0 w0 df S' m fl p a w:=by
 have e:S=S':=funext fun k=>propext (h k)
 exact e▸hi
theorem MC.congr{S':Nat->Prop}(h:∀k,S k↔S' k)(hi:MC ops pos sc S m a):MC ops pos sc S' m a:=by
 have e:S=S':=funext fun k=>propext (h k)
 exact e▸hi
theorem Rest.congr{S':Nat->Prop}(h:∀k,S k↔S' k)(hi:Rest ops pos S m):Rest ops pos S' m:=by
 have e:S=S':=funext fun k=>propext (h k)
 exact e▸hi
def Ls(l:Array Bool)(k:Nat):Prop:=l.getD k false=true
theorem Vb{l:Array Bool}(n:Nat)(hl:l.size=n){i:Nat}(hi:i<n)(hf:l.getD i true=false):
  ((zq n).filter fun k=> !(l.setIfInBounds i true).getD k true).length<((zq n).filter fun k=> !l.getD k true).length:=by
 have sub:∀k,(!(l.setIfInBounds i true).getD k true)=true->(!l.getD k true)=true:=by
  intro k hk;by_cases e:i=k
  ·subst e;simp[hl,hi]at hk
  ·rwa [getD_set_ne true e]at hk
 have key:∀(L:List Nat),(L.filter fun k=> !(l.setIfInBounds i true).getD k true).length<=(L.filter fun k=> !l.getD k true).length/\(i∈L->(L.filter fun k=> !(l.setIfInBounds i true).getD k true).length<(L.filter fun k=> !l.getD k true).length):=by
  intro L;induction L with
  |nil=>simp
  |cons x L ih=>
   simp only[List.filter_cons];constructor
   ·by_cases h1:(!(l.setIfInBounds i true).getD x true)=true
    ·rw[wd h1,wd (sub x h1)];simp only[zt];have:=ih.1;omega
    ·rw[wc h1];have:=ih.1;split<;>(try simp only[zt])<;>omega
   ·intro hm;by_cases e:i=x
    ·subst e;rw[wc (by simp[hl,hi]),wd (by simp[hf])];simp only[zt];have:=ih.1;omega
    ·have hm':i∈L:=by simpa [e]using hm
     by_cases h1:(!(l.setIfInBounds i true).getD x true)=true
     ·rw[wd h1,wd (sub x h1)];simp only[zt];have:=ih.2 hm';omega
     ·rw[wc h1];have:=ih.2 hm';split<;>(try simp only[zt])<;>omega
 exact(key (zq n)).2 (by simpa using hi)
theorem fP(hC:C.Ok P)(hcall:call.Ok C P)(st:Stat ops anc ord pos sc)(cn:Canon C call ops anc ord pos fr0 h0 v Hh F){Q:Exit->Act->World->Prop}
  (hQ:∀p' a' w',Cz p' (F ops.size) a'->Ext p0 h0 w0 p' (Hh ops.size) w'->a'.defers=df->Q .normal a' w') {ro:Option Nat} {nn:Nat}:
  ∀(fuel:Nat) (l:Array Bool),l.size=ops.size->((zq ops.size).filter fun k=> !l.getD k true).length<=fuel->∀ {m:Nat} {fl:Nat->Nat} {p:Pl} {a:Act} {w:World},
   Inv C ops pos sc fr0 v Hh F p0 h0 w0 df (Ls l) m fl p a w->MC ops pos sc (Ls l) m a->Down anc (Ls l)->Rest ops pos (Ls l) m->wpAnyIn (FW ro) nn P .any ops Q fuel l a w:=by
 have fin:∀(l:Array Bool),l.size=ops.size->yg .any ops l=[]->∀ {m:Nat} {fl:Nat->Nat} {p:Pl} {a:Act} {w:World},
   Inv C ops pos sc fr0 v Hh F p0 h0 w0 df (Ls l) m fl p a w->MC ops pos sc (Ls l) m a->Q .normal a w:=by
  intro l hl hrd m fl p a w hi h2f;have all:∀q,q<=ops.size->∀k,k<ops.size->pos k<q->Ls l k:=by
   intro q;induction q with
   |zero=>intro _ k _ h;omega
   |succ q ih=>
    intro hq k hk hlt;by_cases e:pos k=q
    ·apply z8;intro hns;have hmem:k∈yg .any ops l:=by
      rw[mem_ready];refine⟨?_,ops[k],by simp[hk],fun e' he' hb=>?_⟩
      ·unfold Ls at hns;have:k<l.size:=by omega
       simp only[zk,yk this,yp]at hns ⊢;simpa using hns
      ·obtain⟨h1,h2⟩:=st.dir k _ e' (by simp[hk]) he' hb;have h3:=st.apos _ _ h1;exact ih (by omega) e'.on h2 (by omega)
     rw[hrd]at hmem;cases hmem
    ·exact ih (by omega) k hk (by omega)
  have allS:∀k,k<ops.size->Ls l k:=fun k hk=>all ops.size (zo _) k hk (st.posp k hk).1
  obtain⟨p',hi'⟩:=Inv.adv st cn (ops.size-m) m hi h2f (by have:=hi.mn;omega) (fun q h1 h2 o ho=>by
   obtain⟨g1,g2⟩:=st.ordp q (by have:=hi.mn;omega);refine⟨?_,fun _=>allS _ g1⟩;cases hv:CF o with
   |false=>rfl
   |true=>have:=(hi.mh _ o ho hv).1 (allS _ g1);omega)
  rw[show m+(ops.size-m)=ops.size from by have:=hi.mn;omega]at hi';refine hQ p' a w ⟨by rw[cn.fn _ (zo _),hi'.sz],fun t=>?_⟩ hi'.ext hi'.df;by_cases hw:∃(k:Nat) (ok:Oper),ops[k]?=some ok/\ok.dst=some t
  ·obtain⟨k,ok,hk,hkt⟩:=hw;have hkn:=(zc.1 hk).1;rw[Fw st cn hk hkt _ (zo _) (st.posp k hkn).1];exact hi'.slotw k ok t (allS k hkn) hk hkt fun _ _=>(st.posp k hkn).1
  ·rw[Fz st cn _ (zo _) fun k ok hk hkt _=>hw ⟨k,ok,hk,hkt⟩];exact hi'.slot t fun k ok _ hk hkt=>hw ⟨k,ok,hk,hkt⟩
 intro fuel;induction fuel with
 |zero=>
  intro l hl hlen m fl p a w hi h2f hd hrest;have hrd:yg .any ops l=[]:=by
   cases hc:yg .any ops l with
   |nil=>rfl
   |cons k ks=>
    have hm:k∈yg .any ops l:=by rw[hc];simp
    obtain⟨h1,o,h2,_⟩:=mem_ready.1 hm;have hk:=(zc.1 h2).1;have:k∈(zq ops.size).filter fun k=> !l.getD k true:=List.mem_filter.2 ⟨by simpa using hk,by simp[h1]⟩
    have:=List.length_pos_of_mem this;omega
  exact⟨hrd,fin l hl hrd hi h2f⟩
 |succ fuel ih=>
  intro l hl hlen m fl p a w hi h2f hd hrest;refine⟨fun hrd=>fin l hl hrd hi h2f,fun i hm=>?_⟩;obtain⟨h1,o,h2,h3⟩:=mem_ready.1 hm;have hin:=(zc.1 h2).1;have hil:i<l.size:=by omega
  have hready:Q1 anc (Ls l) i:=by
   refine⟨fun hs=>?_,fun k hk=>?_⟩
   ·unfold Ls at hs;simp only[zk,yk hil,yp]at hs h1;rw[hs]at h1;cases h1
   ·obtain⟨o',e,g1,g2,g3,g4⟩:=st.edge i k hk;rw[h2]at g1;cases g1;have hon:=h3 e g2 g3;rcases g4 with g4|g4
    ·rw[<-g4];exact hon
    ·exact hd e.on k hon g4
  refine up hC hcall st cn hi h2f hd hrest h2 hready fun m' fl' p' a' w' hi' h2f' hrest'=>?_
  have hS:∀k,(Ls l k\/k=i)↔Ls (l.setIfInBounds i true) k:=by
   intro k;unfold Ls;by_cases e:k=i
   ·subst e;simp[hil]
   ·rw[getD_set_ne false (fun x=>e x.symm)];simp[e]
  refine ih (l.setIfInBounds i true) (by simpa using hl) ?_ (hi'.congr hS) (h2f'.congr hS) ?_ (hrest'.congr hS)
  ·have:=Vb ops.size hl hin h1;omega
  ·intro j k hj hk;rw[<-hS]at hj ⊢;rcases hj with hj|rfl
   ·exact .inl (hd j k hj hk)
   ·exact .inl (hready.all k hk)
theorem jI(hC:C.Ok P)(hcall:call.Ok C P)(hm:P.follows .mixedOrders=true)(st:Stat ops anc ord pos sc)(cn:Canon C call ops anc ord pos fr0 h0 v Hh F){Q:Exit->Act->World->Prop}(hr:R p h0 w)(hg:Gl C p)(hf:Cz p fr0 a)
  {id:Nat} (hQ:∀p' a' w',Cz p' (F ops.size) a'->Ext p h0 w p' (Hh ops.size) w'->a'.defers=a.defers->Q .normal a' w') {ro:Option Nat} {nn:Nat}:(yv id ops true).wpIn (FW ro) nn P Q a w:=by
 refine wpIn_region_any hm ?_;have hd:=Ext.drew hr (w.drawn+1);have hno:∀k,¬Ls (yt ops.size false) k:=by
  intro k hk;unfold Ls at hk;rw[zk]at hk;by_cases h:k<ops.size
  ·simp[h]at hk
  ·rw[Array.getElem?_eq_none (by simpa using h)]at hk;simp at hk
 refine fP (p0:=p) (h0:=h0) (w0:=w) (df:=a.defers) hC hcall st cn hQ ops.size _ (by simp) (by simpa using List.length_filter_le _ (zq ops.size)) (m:=0) (fl:=fun _=>0) (p:=p)
  ⟨by rw[cn.h0];exact hd,hg,Nat.zero_le _,fun k o _ _=>⟨fun h=>wh h (hno k),fun h=>by omega⟩,fun k o _ _ h=>by omega,hf.1.symm,rfl,fun t _=>hf.2 t,fun i o t h=>wh h (hno i),fun i o h=>wh h (hno i),fun i j o o' h=>wh h (hno i)⟩
  ⟨fun i k o ok t tk h=>wh h (hno i)⟩ (fun i k h=>wh h (hno i)) (.inl rfl)
end
structure Nf where
 anc:List Nat
 ord:List Nat
 pos:List Nat
 sc:List (Option Nat)
def zN(acc:List Nat)(o:Oper):Nat:=
 o.after.toList.foldl (fun s e=>bif yf .any e then s|||(2^e.on|||acc.getD e.on 0)else s) 0
def uE:List Oper->List Nat->List Nat
 |[],acc=>acc
 |o::os,acc=>uE os (acc++[zN acc o])
def tb(m i:Nat):Bool:=m.testBit i
def sub(a d:Nat):Bool:=zi (a&&&d) a
def I5(f:Nat->Oper->Bool):Nat->List Oper->Option Nat
 |_,[]=>none
 |i,o::os=>bif f i o then some i else I5 f (i+1) os
def cD(f:Nat->Oper->Bool):Nat->List Oper->List Nat
 |_,[]=>[]
 |i,o::os=>bif f i o then i::cD f (i+1) os else cD f (i+1) os
def UB(ops:List Oper)(anc:List Nat):Nat->Nat->List Nat->List Nat
 |0,_,out=>out.reverse
 |fuel+1,d,out=>
  match I5 (fun i o=>Eh o&& !tb d i&&sub (anc.getD i 0) d) 0 ops with
  |some i=>UB ops anc fuel (d|||2^i) (i::out)
  |none=>
   match I5 (fun i o=>CF o&& !tb d i) 0 ops with
   |some k=>
    let al:=cD (fun i o=>Ct o&& !tb d i&&tb (anc.getD k 0) i) 0 ops
    bif al.isEmpty then UB ops anc fuel (d|||2^k) (k::out)
    else UB ops anc fuel (al.foldl (fun s i=>s|||2^i) d) (al.reverse++out)
   |none=>
    match I5 (fun i o=>Ct o&& !tb d i) 0 ops with
    |some i=>UB ops anc fuel (d|||2^i) (i::out)
    |none=>out.reverse
def idx(l:List Nat)(i:Nat):Nat:=l.getD i 0
def Aas(ord:List Nat)(n:Nat):List Nat:=(zq n).map fun i=>ord.idxOf i
def R8(o:Oper):Option Tmp:=
 match o.guard,o.op with
 |none,.assign (.tmp t)=>some t
 |none,.move (.tmp t)=>some t
 |_,_=>none
def Abo(ops:List Oper)(anc:List Nat)(i:Nat)(o:Oper):Option Nat:=
 match R8 o with
 |some t=>
  match I5 (fun k x=>Ct x&&(x.dst==some t)&&tb (anc.getD i 0) k) 0 ops with
  |some k=>match I5 (fun h x=>CF x&&tb (anc.getD h 0) k&&tb (anc.getD i 0) h) 0 ops with
   |none=>some k
   |some _=>none
  |none=>none
 |none=>none
def EF(ops:Array Oper):Nf:=
 let anc:=uE ops.toList []
 let ord:=UB ops.toList anc (3*ops.size+3) 0 []
 ⟨anc,ord,Aas ord ops.size,ops.toList.zipIdx.map fun(o,i)=>Abo ops.toList anc i o⟩
def Nf.s(pl:Nf)(i:Nat):Option Nat:=pl.sc.getD i none
def Nf.a(pl:Nf)(j i:Nat):Bool:=(idx pl.anc j).testBit i
def X5(ops:Array Oper)(f:Nat->Oper->Nat->Oper->Bool):Bool:=
 ops.toList.zipIdx.all fun(o,i)=>ops.toList.zipIdx.all fun(o',j)=>f i o j o'
def H4(ops:Array Oper)(pl:Nf):Bool:=
 let n:=ops.size
 let A:=pl.a
 let pos:=idx pl.pos
 let ord:=idx pl.ord
 Region.noSelect ops&&
 ((zq n).all fun q=>zz (ord q) n&&zi (pos (ord q)) q)&&
 ((zq n).all fun i=>zz (pos i) n&&zi (ord (pos i)) i)&&
 (pl.anc.length==n)&&(pl.ord.length==n)&&
 (pl.sc.zipIdx.all fun(s,i)=>match s with
  |none=>true
  |some k=>match ops[i]?,ops[k]? with
   |some o,some ok=>match R8 o with
    |some t=>Ct ok&&(ok.dst==some t)&&A i k
    |none=>false
   |_,_=>false)&&
 (ops.toList.zipIdx.all fun(o,j)=>zz (idx pl.anc j) (2^n)&&
  ((zq n).all fun i=> !A j i||((o.after.toList.any fun e=>yf .any e&&(zi e.on i||A e.on i))&&zz (pos i) (pos j)))&&
  (o.after.toList.all fun e=> !yf .any e||(A j e.on&&zz e.on n)))&&
 (X5 ops fun i o j o'=>
  (!(CF o&&CF o')||zi i j||A i j||A j i)&&
  (!(CF o&&Eh o')||A j i||zz (pos j) (pos i))&&
  (!((Ct o||(pl.s i).isSome)&& !CF o')|| !A j i||(match o.dst with|some t=> !((reads ops o').contains t)|none=>true)||(pl.s j==some i)||(ops.toList.zipIdx.any fun(x,k)=>CF x&&A k i&&A j k))&&
  (!(CF o&&Ct o')||A i j||zz (pos i) (pos j))&&
  (!(Eh o&&Ot o&&Ct o')|| !zz (pos j) (pos i)||(ops.toList.zipIdx.any fun(x,k)=>CF x&&zz (pos j) (pos k)&&zz (pos k) (pos i)))&&
  (zi i j||(match o.dst with
   |none=>true
   |some t=> !(o'.dst==some t)&&(!((reads ops o').contains t)||A j i||A i j))))
theorem IY{ops:Array Oper}{i:Nat}{o:Oper}(h:ops[i]?=some o):(o,i)∈ops.toList.zipIdx:=by
 have:=(zc.1 h);obtain⟨h1,h2⟩:=this;rw[zw];simpa using h
theorem iT{ops:Array Oper}{i:Nat}{o:Oper}(h:(o,i)∈ops.toList.zipIdx):ops[i]?=some o:=by
 rw[zw]at h;simpa using h
theorem US{o:Oper}{t:Tmp}(h:R8 o=some t):(o.op=.assign (.tmp t)\/o.op=.move (.tmp t))/\o.guard=none:=by
 unfold R8 at h;split at h
 ·cases h;rename_i h1 h2;exact⟨.inl h2,h1⟩
 ·cases h;rename_i h1 h2;exact⟨.inr h2,h1⟩
 ·cases h
theorem Xq{ops:Array Oper}{pl:Nf}(hs:H4 ops pl=true):Stat ops pl.a (idx pl.ord) (idx pl.pos) pl.s:=by
 unfold H4 at hs;simp only[zd]at hs;obtain⟨⟨⟨⟨⟨⟨⟨h0,h1⟩,h2⟩,h3⟩,_⟩,hq⟩,h4⟩,h5⟩:=hs;simp only[zm,yw,zd,yq,Br,w5]at h1 h2;simp only[zm]at h4;have pr:∀(i j:Nat) (o o':Oper),ops[i]?=some o->ops[j]?=some o'->_:=fun i j o o' hi hj=>zm.1 (zm.1 h5 (o,i) (IY hi)) (o',j) (IY hj)
 simp only[zd,zp,zx,Br,w5,GX,w9,Bool.and_eq_false_imp]at pr;have hanc:∀(j i:Nat),pl.a j i=true->j<ops.size/\i<ops.size:=by
  intro j i h;have hj:j<ops.size:=by
   rcases yr j ops.size with h6|h6
   ·exact h6
   ·have hl:pl.anc.length=ops.size:=by simpa using h3
    unfold Nf.a idx at h;rw[zy,List.getElem?_eq_none (by omega)]at h;simp at h
  refine⟨hj,?_⟩;have h6:=h4 (ops[j],j) (IY (by simp[hj]));simp only[zd,yq]at h6;rcases yr i ops.size with h7|h7
  ·exact h7
  ·have h8:=h6.1.1;have h9:idx pl.anc j<2^i:=Nat.lt_of_lt_of_le h8 (Nat.pow_le_pow_right (by omega) h7);unfold Nf.a at h;rw[Nat.testBit_lt_two_pow h9]at h;cases h
 refine⟨h0,fun q hq=>h1 q hq,fun i hi=>h2 i hi,fun j i h=>?_,fun j o e hj he hb=>?_,fun j i h=>?_,fun i j o o' hi hj hv hv' hne=>?_,fun i j o o' hi hj hv hr=>?_,fun i k h=>?_,fun j k o o' t hj hk ha hv ht hm h=>?_,fun i j o o' hi hj hv ha=>?_,
  fun i j o o' hi hj hr hhd ha hlt=>?_,fun i j o o' t hi hj hne ht=>?_⟩
 ·obtain⟨hj,hi⟩:=hanc j i h;have h6:=h4 (ops[j],j) (IY (by simp[hj]));simp only[zd,zm,yw,zp,zx]at h6;rcases h6.1.2 i hi with h7|h7
  ·rw[h]at h7;cases h7
  ·obtain⟨e,he,h8⟩:=ye.1 h7.1;simp only[zd,zp,Br,w5]at h8;exact⟨ops[j],e,by simp[hj],by simpa using he,h8.1,h8.2⟩
 ·have h6:=h4 (o,j) (IY hj);simp only[zd,zm,zp,zx,yq]at h6;rcases h6.2 e (by simpa using he)with h7|h7
  ·rw[hb]at h7;cases h7
  ·exact h7
 ·obtain⟨hj,hi⟩:=hanc j i h;have h6:=h4 (ops[j],j) (IY (by simp[hj]));simp only[zd,zm,yw,zp,zx,yq]at h6;rcases h6.1.2 i hi with h7|h7
  ·rw[h]at h7;cases h7
  ·exact h7.2
 ·have:=(pr i j o o' hi hj).1.1.1.1.1;simp_all
 ·have:=(pr i j o o' hi hj).1.1.1.1.2;simp_all
 ·have hm:(pl.s i,i)∈pl.sc.zipIdx:=by
   rw[zw];unfold Nf.s at h ⊢;rw[zy]at h ⊢;cases hg:pl.sc[i]? with
   |none=>rw[hg]at h;cases h
   |some x=>rfl
  have h6:=zm.1 hq _ hm;simp only[h]at h6;split at h6
  case h_2=>cases h6
  rename_i o ok ho hok;split at h6
  case h_2=>cases h6
  rename_i t ht;simp only[zd,wj]at h6;obtain⟨g1,g2⟩:=US ht;exact⟨o,ok,t,ho,hok,g1,g2,h6.1.1,h6.1.2,h6.2⟩
 ·have h6:=(pr j k o o' hj hk).1.1.1.2;have ha':(Ct o||(pl.s j).isSome)=true:=by simpa using ha
  rw[hv,h,ht]at h6;have hc:(reads ops o').contains t=true:=by simpa using hm
  simp only[zp]at ha';simp only[hc,Bool.not_false,Bool.not_true,zu,or_false,Bool.true_eq_false]at h6;rcases h6 with(h6|h6)|h6
  ·exact wh ha' (fun h7=>by simpa using h6 h7)
  ·exact .inl (by simpa using h6)
  ·obtain⟨⟨x,i⟩,hm2,h7⟩:=ye.1 h6;simp only[zd]at h7;exact .inr ⟨i,x,iT hm2,h7.1.1,h7.1.2,h7.2⟩
 ·have:=(pr i j o o' hi hj).1.1.2;simp_all
 ·have h6:=(pr i j o o' hi hj).1.2;rw[hr,hhd,ha]at h6;simp only[vc,forall_const,Bool.true_eq_false,false_or]at h6;rcases h6 with h6|h6
  ·omega
  ·obtain⟨⟨x,k⟩,hm,h7⟩:=ye.1 h6;simp only[zd,w5]at h7;exact⟨k,x,iT hm,h7.1.1,h7.1.2,h7.2⟩
 ·have h6:=(pr i j o o' hi hj).2;rcases h6 with h6|h6
  ·exact wh h6 hne
  ·rw[ht]at h6;simp only[zd,zx,zp,beq_eq_false_iff_ne]at h6;refine⟨h6.1,fun hm=>?_⟩;rcases h6.2 with(h7|h7)|h7
   ·have:(reads ops o').contains t=true:=by simpa using hm
    rw[this]at h7;cases h7
   ·exact .inl h7
   ·exact .inr h7
theorem mW{ops:Array Oper}{pl:Nf}(hs:H4 ops pl=true):pl.ord.length=ops.size:=by
 unfold H4 at hs;simp only[zd]at hs;obtain⟨⟨⟨⟨⟨⟨⟨h0,h1⟩,h2⟩,h3⟩,h4⟩,hq⟩,h5⟩,h6⟩:=hs;simpa using h4
mutual
def V.beq:V->V->Bool
 | .bool a,.bool b=>a==b
 | .int k a,.int l b=>k==l&&a==b
 | .str a,.str b=>a==b
 | .nilp,.nilp=>true
 | .ptr a i,.ptr b j=>zi a b&&zi i j
 | .nils,.nils=>true
 | .sl a b c d e,.sl a' b' c' d' e'=>zi a a'&&zi b b'&&zi c c'&&zi d d'&&zi e e'
 | .esl,.esl=>true
 | .es0,.es0=>true
 | .junk,.junk=>true
 | .nilm,.nilm=>true
 | .map a,.map b=>zi a b
 | .yld a,.yld b=>zi a b
 | .nilf,.nilf=>true
 | .nili,.nili=>true
 | .fn f a b,.fn g c d=>f==g&&V.KU a c&&V.KU b d
 | .iface t x,.iface u y=>zi t u&&V.beq x y
 | .agg a,.agg b=>V.KU a b
 | .tup a,.tup b=>V.KU a b
 |_,_=>false
def V.KU:List V->List V->Bool
 |[],[]=>true
 |a::AcJ,b::bs=>V.beq a b&&V.KU AcJ bs
 |_,_=>false
end
mutual
theorem V.beq_eq:∀ {a b:V},V.beq a b=true->a=b:=by
 intro a b h;cases a<;>cases b<;>simp only[V.beq]at h<;>first
  |(cases h;done)
  |rfl
  |(simp only[zd,wj,Br,w5]at h;first|(obtain rfl:=h;rfl)|(obtain⟨rfl,rfl⟩:=h;rfl)|(obtain⟨⟨⟨⟨rfl,rfl⟩,rfl⟩,rfl⟩,rfl⟩:=h;rfl))
  |skip
 case fn.fn f a b g c d=>
  simp only[zd,wj]at h;rw[h.1.1,V.HQ h.1.2,V.HQ h.2]
 case iface.iface t x u y=>
  simp only[zd,Br,w5]at h;rw[h.1,V.beq_eq h.2]
 case agg.agg a b=>rw[V.HQ h]
 case tup.tup a b=>rw[V.HQ h]
theorem V.HQ:∀ {a b:List V},V.KU a b=true->a=b
 |[],[],_=>rfl
 |[],_::_,h=>by simp[V.KU]at h
 |_::_,[],h=>by simp[V.KU]at h
 |a::AcJ,b::bs,h=>by
  simp only[V.KU,zd]at h;rw[V.beq_eq h.1,V.HQ h.2]
end
structure Rc where
 i:Nat
 o:Oper
 f:Fr
 v:V
structure St where
 f:Fr
 h:H
 r:List Rc
def still(C:Ctx)(anc:Nat->Nat->Bool)(i:Nat)(h:H)(r:Rc):Bool:=
 anc i r.i||(match Gu C r.f h r.o with
  |some (.val x _)=>V.beq x r.v
  |_=>false)
def HZ(C:Ctx)(call:Dy)(ops:Array Oper)(anc:Nat->Nat->Bool)(i:Nat)(s:St):Option (V×St):=
 match ops[i]? with
 |none=>none
 |some o=>
  bif Bb s.f ops o then
   bif Eh o then
    match Gu C s.f s.h o with
    |some (.val v _)=>match s.f.put o.dst v with
     |some f'=>some (v,⟨f',s.h,bif Ot o then⟨i,o,s.f,v⟩::s.r else s.r⟩)
     |none=>none
    |_=>none
   else bif Ct o then
    match aZ C s.f o with
    |some (ob,f)=>match s.f.put o.dst (f s.h.nx)with
     |some f'=>some (f s.h.nx,⟨f',s.h.push ob,s.r⟩)
     |none=>none
    |none=>none
   else
    match DJ C call s.f s.h o with
    |some (v,h')=>match s.f.put o.dst v with
     |some f'=>bif s.r.all (still C anc i h')then some (v,⟨f',h',s.r⟩)else none
     |none=>none
    |none=>none
  else
   match s.f.put o.dst (.tup [])with
   |some f'=>bif CF o then(bif s.r.all (still C anc i s.h)then some (.tup [],⟨f',s.h,s.r⟩)else none)else some (.tup [],⟨f',s.h,s.r⟩)
   |none=>none
def TB(C:Ctx)(call:Dy)(ops:Array Oper)(anc:Nat->Nat->Bool):List Nat->St->Option St
 |[],s=>some s
 |i::is,s=>match HZ C call ops anc i s with
  |some (_,s')=>TB C call ops anc is s'
  |none=>none
def II(C:Ctx)(call:Dy)(ops:Array Oper)(fr:Fr)(h:H):Option (Fr×H):=
 match TB C call ops (EF ops).a (EF ops).ord ⟨fr,h,[]⟩with
 |some s=>some (s.f,s.h)
 |none=>none
def Vp(C:Ctx)(call:Dy)(ops:Array Oper)(fr:Fr)(h:H):Option (Fr×H):=
 bif H4 ops (EF ops)then II C call ops fr h else none
def DG:Code->Bool
 | .region _ ops dr=>bif dr then H4 ops (EF ops)else true
 | .seq a b=>DG a&&DG b
 | .cond _ a b=>DG a&&DG b
 | .block _ b=>DG b
 | .loop b=>DG b
 | .scope b=>DG b
 |_=>true
section
variable {C:Ctx}{P:Program}{call:Dy}{ops:Array Oper}{p:Pl}{h:H}{w:World}{fr:Fr}{a:Act}
theorem Ky{f f':Fr}{d:Option Nat}{v:V}(h:f.put d v=some f'):f'.n=f.n/\(∀t,f'.get t=if d=some t then v else f.get t)/\∀t,d=some t->t<f.n:=by
 unfold Fr.put at h;cases d with
 |none=>cases h;exact⟨rfl,fun t=>by simp,fun t h=>by cases h⟩
 |some s=>
  simp only[GX]at h;by_cases hlt:s<f.n
  ·simp only[hlt,decide_true,we,ze]at h;subst h;refine⟨rfl,fun t=>?_,fun t ht=>by cases ht;exact hlt⟩;unfold Fr.get;simp only[PM.Db];by_cases e:t=s
   ·subst e;simp
   ·have:¬s=t:=fun x=>e x.symm
    simp[e,this]
  ·simp[hlt]at h
theorem D2{anc:Nat->Nat->Bool}{i:Nat}{s s':St}{v:V}(hd:HZ C call ops anc i s=some (v,s')):∃o,ops[i]?=some o/\s'.f.n=s.f.n/\(∀t,s'.f.get t=if o.dst=some t then v else s.f.get t)/\(∀t,o.dst=some t->t<s.f.n)/\
  ((Bb s.f ops o=false/\v=.tup []/\s'.h=s.h)\/
   (Bb s.f ops o=true/\
   ((Eh o=true/\Gu C s.f s.h o=some (.val v s.h)/\s'.h=s.h)\/
    (Ct o=true/\∃ob f,aZ C s.f o=some (ob,f)/\v=f s.h.nx/\s'.h=s.h.push ob)\/
    (CF o=true/\DJ C call s.f s.h o=some (v,s'.h)))))/\
  (∀r∈s.r,r∈s'.r)/\(Eh o=true->Ot o=true->Bb s.f ops o=true->⟨i,o,s.f,v⟩∈s'.r)/\
  (CF o=true->∀r∈s.r,still C anc i s'.h r=true):=by
 unfold HZ at hd;split at hd
 case h_1=>cases hd
 rename_i o ho;refine⟨o,ho,?_⟩;cases hw:Bb s.f ops o with
 |false=>
  simp only[hw,wg]at hd;split at hd
  case h_2=>cases hd
  rename_i f' hp;obtain⟨k1,k2,k3⟩:=Ky hp;cases hv:CF o with
  |false=>
   simp only[hv,wg,ze,zl]at hd;obtain⟨rfl,rfl⟩:=hd;exact⟨k1,k2,k3,.inl ⟨rfl,rfl,rfl⟩,fun r hr=>hr,fun _ _ h=>(by cases h),fun h=>(by cases h)⟩
  |true=>
   simp only[hv,we]at hd;cases hs:s.r.all (still C anc i s.h)with
   |false=>simp[hs]at hd
   |true=>
    simp only[hs,we,ze,zl]at hd;obtain⟨rfl,rfl⟩:=hd;exact⟨k1,k2,k3,.inl ⟨rfl,rfl,rfl⟩,fun r hr=>hr,fun _ _ h=>(by cases h),fun _ r hr=>zm.1 hs r hr⟩
 |true=>
  simp only[hw,we]at hd;cases hrd:Eh o with
  |true=>
   simp only[hrd,we]at hd;split at hd
   case h_2=>cases hd
   rename_i v1 h1 hop;split at hd
   case h_2=>cases hd
   rename_i f' hp;simp only[ze,zl]at hd;obtain⟨rfl,rfl⟩:=hd;obtain⟨k1,k2,k3⟩:=Ky hp;obtain⟨v2,hv2⟩:=rd_val hrd hop;cases hv2;refine⟨k1,k2,k3,.inr ⟨rfl,.inl ⟨rfl,hop,rfl⟩⟩,fun r hr=>?_,fun _ hh _=>?_,fun hv=>by rw[(PD hv).1]at hrd;cases hrd⟩
   ·cases Ot o<;>simp[hr]
   ·simp[hh]
  |false=>
   simp only[hrd,wg]at hd;cases hal:Ct o with
   |true=>
    simp only[hal,we]at hd;split at hd
    case h_2=>cases hd
    rename_i ob f hdal;split at hd
    case h_2=>cases hd
    rename_i f' hp;simp only[ze,zl]at hd;obtain⟨rfl,rfl⟩:=hd;obtain⟨k1,k2,k3⟩:=Ky hp;exact⟨k1,k2,k3,.inr ⟨rfl,.inr (.inl ⟨rfl,ob,f,hdal,rfl,rfl⟩)⟩,fun r hr=>hr,fun h=>(by cases h),fun hv=>by rw[(PD hv).2]at hal;cases hal⟩
   |false=>
    simp only[hal,wg]at hd;split at hd
    case h_2=>cases hd
    rename_i v1 h1 hst;split at hd
    case h_2=>cases hd
    rename_i f' hp;obtain⟨k1,k2,k3⟩:=Ky hp;cases hs:s.r.all (still C anc i h1)with
    |false=>simp[hs]at hd
    |true=>
     simp only[hs,we,ze,zl]at hd;obtain⟨rfl,rfl⟩:=hd;exact⟨k1,k2,k3,.inr ⟨rfl,.inr (.inr ⟨by simp[CF,hrd,hal],hst⟩)⟩,fun r hr=>hr,fun h=>(by cases h),fun _ r hr=>zm.1 hs r hr⟩
theorem MZ{anc:Nat->Nat->Bool}:∀(L:List Nat) (s s':St),TB C call ops anc L s=some s'->
  ∃(sq:Nat->St) (vq:Nat->V),sq 0=s/\sq L.length=s'/\∀(q i:Nat),L[q]?=some i->HZ C call ops anc i (sq q)=some (vq q,sq (q+1))
 |[],s,s',h=>by
  cases h;exact⟨fun _=>s,fun _=>.nilp,rfl,rfl,fun q i h=>by simp at h⟩
 |i::L,s,s',h=>by
  unfold TB at h;split at h
  case h_2=>cases h
  rename_i v s1 hs;obtain⟨sq,vq,h0,hn,hq⟩:=MZ L s1 s' h;refine⟨fun q=>match q with|0=>s|q+1=>sq q,fun q=>match q with|0=>v|q+1=>vq q,rfl,by simpa using hn,fun q j hj=>?_⟩;cases q with
  |zero=>simp at hj;subst hj;simp only[h0];exact hs
  |succ q=>simp at hj;exact hq q j hj
theorem dN{pl:Nf}(hs:H4 ops pl=true){s':St}(hd:TB C call ops pl.a pl.ord ⟨fr,h,[]⟩=some s'):
  ∃(v:Nat->V) (Hh:Nat->H) (F:Nat->Fr),Canon C call ops pl.a (idx pl.ord) (idx pl.pos) fr h v Hh F/\Hh ops.size=s'.h/\F ops.size=s'.f:=by
 have st:=Xq hs;have hl:=mW hs;obtain⟨sq,vq,h0,hn,hq⟩:=MZ pl.ord _ _ hd;have DJ:∀q,q<ops.size->HZ C call ops pl.a (idx pl.ord q) (sq q)=some (vq q,sq (q+1)):=by
  intro q hqn;refine hq q _ ?_;unfold idx;rw[zy,yo (by omega)];rfl
 have hfn:∀q,q<=ops.size->(sq q).f.n=fr.n:=by
  intro q;induction q with
  |zero=>intro _;rw[h0]
  |succ q ih=>
   intro hqn;obtain⟨o,_,g1,_⟩:=D2 (DJ q (by omega));rw[g1,ih (by omega)]
 have hmono:∀q q',q<=q'->q'<=ops.size->∀r∈(sq q).r,r∈(sq q').r:=by
  intro q q' hle;induction q' with
  |zero=>
   intro _ r hr;have:q=0:=by omega
   subst this;exact hr
  |succ q' ih=>
   intro hqn r hr;by_cases e:q=q'+1
   ·subst e;exact hr
   ·obtain⟨o,_,_,_,_,_,g,_⟩:=D2 (DJ q' (by omega));exact g r (ih (by omega) (by omega) r hr)
 refine⟨fun i=>vq (idx pl.pos i),fun q=>(sq q).h,fun q=>(sq q).f,⟨by simp[h0],by simp[h0],hfn,fun q hqn o ho t=>?_,fun i o t ho ht=>?_,fun i o ho=>?_,fun i j o oj ho hj hhv hrd hhd hw hlt hanc=>?_⟩,by simp[<-hl,hn],by simp[<-hl,hn]⟩
 ·obtain⟨o',g0,_,g1,_⟩:=D2 (DJ q hqn);rw[ho]at g0;cases g0;simp only[(st.ordp q hqn).2];exact g1 t
 ·have hin:=(zc.1 ho).1;have hp:=st.posp i hin;obtain⟨o',g0,_,_,g2,_⟩:=D2 (DJ _ hp.1);rw[hp.2,ho]at g0;cases g0;rw[<-hfn _ (y7 hp.1)];exact g2 t ht
 ·have hin:=(zc.1 ho).1;have hp:=st.posp i hin;obtain⟨o',g0,_,_,_,g3,_⟩:=D2 (DJ _ hp.1);rw[hp.2,ho]at g0;cases g0;exact g3
 ·have hin:=(zc.1 ho).1;have hjn:=(zc.1 hj).1;have hpi:=st.posp i hin;have hpj:=st.posp j hjn;obtain⟨o',g0,_,_,_,_,_,g4,_⟩:=D2 (DJ _ hpj.1);rw[hpj.2,hj]at g0;cases g0;have hmem:=hmono _ (idx pl.pos i) (by omega) (y7 hpi.1) _ (g4 hrd hhd hw);obtain⟨o'',g0,_,_,_,_,_,_,g5⟩:=D2 (DJ _ hpi.1);rw[hpi.2,ho]at g0;cases g0;have h6:=g5 hhv _ hmem;unfold still at h6;rw[hpj.2]at h6;rw[hpi.2,hanc]at h6;simp only[Bool.false_or]at h6;split at h6
  case h_2=>cases h6
  rename_i x hx hop;obtain⟨y,hy⟩:=rd_val hrd hop;cases hy;rw[V.beq_eq h6]at hop;exact hop
theorem Ov(hs:H4 ops (EF ops)=true)(hC:C.Ok P)(hcall:call.Ok C P)(hm:P.follows .mixedOrders=true)(hr:R p h w)(hg:Gl C p)(hf:Cz p fr a){fr':Fr}{h':H}(hd:II C call ops fr h=some (fr',h')){id:Nat}{ro:Option Nat}{nn:Nat}{Q:Exit->Act->World->Prop}
  (hQ:∀p' a' w',Cz p' fr' a'->Ext p h w p' h' w'->a'.defers=a.defers->Q .normal a' w'):(yv id ops true).wpIn (FW ro) nn P Q a w:=by
 unfold II at hd;split at hd
 case h_2=>cases hd
 rename_i s hrun;cases hd;obtain⟨v,Hh,F,hc,h1,h2⟩:=dN hs hrun;refine jI hC hcall hm (Xq hs) hc hr hg hf fun p' a' w' g1 g2 g3=>hQ p' a' w' ?_ ?_ g3
 ·rw[<-h2];exact g1
 ·rw[<-h1];exact g2
theorem aH(hC:C.Ok P)(hcall:call.Ok C P)(hm:P.follows .mixedOrders=true)(hr:R p h w)(hg:Gl C p)(hf:Cz p fr a){fr':Fr}{h':H}(hd:Vp C call ops fr h=some (fr',h')){id:Nat}{ro:Option Nat}{nn:Nat}{Q:Exit->Act->World->Prop}
  (hQ:∀p' a' w',Cz p' fr' a'->Ext p h w p' h' w'->a'.defers=a.defers->Q .normal a' w'):(yv id ops true).wpIn (FW ro) nn P Q a w:=by
 unfold Vp at hd;cases hs:H4 ops (EF ops)with
 |false=>simp[hs]at hd
 |true=>
  simp only[hs,we]at hd;exact Ov hs hC hcall hm hr hg hf hd hQ
end
section
variable {P:Program}{F:Fence}{n:Nat}{b:Frame}{a:Act}{k:List Item}{cs:List Frame}{w:World}{Q:Exit->Act->World->Prop}
theorem D8{c:Code}:step P (lone (b.atR a (.code (.scope c)::k)) cs w)=.next (lone (b.atR a (.code c:: .inScope c::k)) cs w):=
 step_lone_go (by simp[stepG,stepG.exec,Frame.atR])
theorem Qv{c:Code}:step P (lone (b.atR a (.inScope c::k)) cs w)=.next (lone (b.atR a k) cs w):=
 step_lone_go (by simp[stepG,stepG.exec,Frame.atR])
theorem Jy{c:Code}(h:c.wpIn F n P (Exit.noGoto Q) a w):(Code.scope c).wpIn F n P Q a w:=by
 intro b k cs hro hb hr;have h0:(lone (b.atR a (.code (.scope c)::k)) cs w).fenced P F:=fenced_calm hb hr rfl;obtain⟨e,a₁,w₁,hq,harr⟩:=h b (.inScope c::k) cs hro hb hr;cases e with
 |normal=>exact⟨.normal,a₁,w₁,hq,.head h0 D8 (StepsIn.trans harr (.one (fenced_calm hb hr rfl) Qv))⟩
 |exit id=>
  have hx:exitTo id (.inScope c::k)=exitTo id k:=by simp[exitTo]
  exact⟨.exit id,a₁,w₁,hq,fun k' hk=>.head h0 D8 (harr.1 k' (by rw[hx];exact hk)),
   fun hr' hk=>let ⟨k₁,h1,h2⟩:=harr.2 hr' (by rw[hx];exact hk);⟨k₁,h1,.head h0 D8 h2⟩⟩
 |goto l=>exact hq.elim
 |ret=>exact⟨_,a₁,w₁,hq,.of_steps (.one h0 D8) harr⟩
 |panic ch=>exact⟨_,a₁,w₁,hq,.of_steps (.one h0 D8) harr⟩
 |outgrown=>exact⟨_,a₁,w₁,hq,.of_steps (.one h0 D8) harr⟩
end
structure X where
 e:DX
 fr:Fr
 h:H
 ds:List Nat
def VY(ro:Option Nat)(fr:Fr)(h:H)(ps:Array Tmp)(asg body:Code)(ds:List Nat):Option (Nat×H×List Nat):=
 match ro with
 |none=>some (h.nx+1,(h.push (.defd true)).push (.loop ⟨.ready,none,fr,ps,asg,body,h.nx⟩),h.nx::ds)
 |some b=>match h.get b with
  |some (.loop l)=>some (h.nx,h.push (.loop ⟨.ready,none,fr,ps,asg,body,l.db⟩),ds)
  |_=>none
def BJ(C:Ctx)(call:Dy)(ro:Option Nat)(ct:Bool):Nat->Code->Fr->H->List Nat->Option (List X)
 |0,_,_,_,_=>none
 |m+1,c,fr,h,ds=>
  match c with
  | .skip| .label _=>some [⟨.normal,fr,h,ds⟩]
  | .region _ ops dr=>bif dr then(match (bif ct then II C call ops fr h else Vp C call ops fr h)with
    |some (fr',h')=>some [⟨.normal,fr',h',ds⟩]
    |none=>none)
   else(match R1 C call ops ops.toList fr h with
    |some l=>some (l.map fun x=>⟨.normal,x.1,x.2,ds⟩)
    |none=>none)
  | .seq a b=>match BJ C call ro ct m a fr h ds with
   |some l=>bl l fun x=>match x.e with
    | .normal=>BJ C call ro ct m b x.fr x.h x.ds
    |_=>some [x]
   |none=>none
  | .cond x a b=>match ev C fr x with
   |some (.bool true)=>BJ C call ro ct m a fr h ds
   |some (.bool false)=>BJ C call ro ct m b fr h ds
   |_=>none
  | .block id b=>match BJ C call ro ct m b fr h ds with
   |some l=>some (l.map fun x=>match x.e with
    | .exit i=>bif zi i id then { x with e:=.normal }else x
    |_=>x)
   |none=>none
  | .loop b=>match BJ C call ro ct m b fr h ds with
   |some l=>bl l fun x=>match x.e with
    | .normal=>BJ C call ro ct m (.loop b) x.fr x.h x.ds
    |_=>some [x]
   |none=>none
  | .exit i=>some [⟨.exit i,fr,h,ds⟩]
  | .ret=>some [⟨.ret,fr,h,ds⟩]
  | .scope b=>BJ C call ro ct m b fr h ds
  | .rangeFunc g ps asg body=>match VY ro fr h ps asg body ds,ev C fr g with
   |some (b,h1,ds1),some g'=>match KS C h1 g' [.yld b]with
    |some (.enter f args)=>match call (.fn f args) h1 with
     |some l=>bl l fun x=>match x.2.get b with
      |some (.loop ls)=>match ls.st,ls.pend with
       | .busy,_=>none
       |_,none=>some [⟨.normal,fr,x.2.put b (.loop { ls with st:=.exhausted }),ds1⟩]
       |_,some c=>BJ C call ro false m c fr (x.2.put b (.loop { ls with st:=.exhausted })) ds1
      |_=>none
     |none=>none
    |_=>none
   |_,_=>none
  |_=>none
def HS(p:Pl):List Nat->List Deferred->Prop
 |[],l=>l=[]
 |b::bs,l=>∃r n l',p[b]?=some (r,n)/\l={ target:=.collected r,args:= #[] }::l'/\HS p bs l'
theorem HP{p:Pl}(q:Pl){b:Nat}{x:Nat×Nat}(h:p[b]?=some x):(p++q)[b]?=some x:=by
 rw[z7 (List.getElem?_eq_some_iff.1 h).1];exact h
theorem HS.mono{p:Pl}(q:Pl):∀ {ds:List Nat} {l:List Deferred},HS p ds l->HS (p++q) ds l
 |[],_,h=>h
 |_b::_bs,_l,⟨r,n,l',h1,h2,h3⟩=>⟨r,n,l',HP q h1,h2,h3.mono q⟩
theorem HS.ext{p p':Pl}{h h':H}{w w':World}(e:Ext p h w p' h' w'){ds:List Nat}{l:List Deferred}(hd:HS p ds l):HS p' ds l:=by
 obtain⟨q,rfl⟩:=e.pre;exact hd.mono q
def Rp(p:Pl):Option Nat->Option Nat->Prop
 |none,none=>True
 |some b,some r=>∃n,p[b]?=some (r,n)
 |_,_=>False
theorem Rp.ext{p p':Pl}{h h':H}{w w':World}(e:Ext p h w p' h' w'){ro k:Option Nat}(hd:Rp p ro k):Rp p' ro k:=by
 obtain⟨q,rfl⟩:=e.pre;cases ro with
 |none=>cases k with
  |none=>trivial
  |some r=>exact hd.elim
 |some b=>
  cases k with
  |none=>exact hd
  |some r=>obtain⟨n,hn⟩:=hd;exact⟨n,HP q hn⟩
theorem Ext.at{p p':Pl}{h h':H}{w w':World}(e:Ext p h w p' h' w'){b:Nat}{x:Nat×Nat}(hb:p[b]?=some x):p'[b]?=some x:=by
 obtain⟨q,rfl⟩:=e.pre;exact HP q hb
section
variable {C:Ctx}{P:Program}{call:Dy}{ops:Array Oper}{p:Pl}{h:H}{w:World}{fr:Fr}{a:Act}
theorem Je(hr:R p h w)(hf:Cz p fr a){ro k:Option Nat}(hro:Rp p ro k){ps:Array Tmp}{asg body:Code}{ds ds1:List Nat}(hds:HS p ds a.defers){b:Nat}{h1:H}
  (hd:VY ro fr h ps asg body ds=some (b,h1,ds1)) (fn:FuncId):∃l mark w1 p1 n,(Instr.enterLoop fn a.tmps ps asg body k).run P w=.ok (l,mark) w1/\Ext p h w p1 h1 w1/\p1[b]?=some (l,n)/\HS p1 ds1 (mark++a.defers):=by
 unfold VY at hd;cases ro with
 |none=>
  cases k with
  |some k=>exact hro.elim
  |none=>
   simp only[ze,zl]at hd;obtain⟨rfl,rfl,rfl⟩:=hd;have e1:=Ext.push (n:=0) hr (o:=.defd true) (x:=.deferred (some [])) (by simp[Hg]);have hp1:(p++[(w.heap.size,0)])[h.nx]?=some (w.heap.size,0):=by rw[<-hr.len];simp
   have hf1:E3 (p++[(w.heap.size,0)]) fr a.tmps:=E3.mono _ hf;have e2:=Ext.push (n:=0) e1.rel (o:=.loop ⟨.ready,none,fr,ps,asg,body,h.nx⟩) (x:=.loop { state:=.ready,pending:=none,fn,tmps:=a.tmps,params:=ps,assign:=asg,body,defers:=w.heap.size })
    ⟨fn,a.tmps,_,_,hf1,hp1,rfl⟩
   refine⟨_,_,_,_,0,run_enterLoop_outer fn a.tmps ps asg body,e1.trans e2,?_,?_⟩
   ·have:h.nx+1=(p++[(w.heap.size,0)]).length:=by simp[hr.len]
    rw[this,List.getElem?_append_right (zo _)];simp only[Nat.sub_self,List.getElem?_cons_zero,ze,zl,wn];simp
   ·exact⟨w.heap.size,0,a.defers,HP _ hp1,rfl,HS.mono _ (HS.mono _ hds)⟩
 |some b0=>
  cases k with
  |none=>exact hro.elim
  |some k=>
   simp only at hd;split at hd
   case h_2=>cases hd
   rename_i l0 hb0;simp only[ze,zl]at hd;obtain⟨rfl,rfl,rfl⟩:=hd;obtain⟨n0,hn0⟩:=hro;obtain⟨r',n',x,h1,h2,f0,tmps,r,m,h3,h4,rfl⟩:=hr.obj _ _ hb0;rw[hn0]at h1;cases h1;have e2:=Ext.push (n:=0) hr (o:=.loop ⟨.ready,none,fr,ps,asg,body,l0.db⟩) (x:=.loop { state:=.ready,pending:=none,fn,tmps:=a.tmps,params:=ps,assign:=asg,body,defers:=r })
    ⟨fn,a.tmps,_,_,hf,h4,rfl⟩
   refine⟨w.heap.size,[],_,_,0,?_,e2,?_,?_⟩
   ·unfold Instr.enterLoop;simp only[zj,run_getLoop h2,run_newObj_alloc,zh,zn,World.alloc]
   ·rw[<-hr.len];simp
   ·exact HS.mono _ hds
theorem Result.WO{α β:Type}{r:Result α}{f:α->World->Result β}{b:β}{w':World}(h:r.andThen f=.ok b w'):∃a w1,r=.ok a w1/\f a w1=.ok b w':=by
 cases r with
 |ok a w1=>exact⟨a,w1,rfl,h⟩
 |halt x w1=>simp[Result.andThen]at h
theorem Ly(hC:C.Ok P)(hcall:call.Ok C P)(hm:P.follows .mixedOrders=true){ro k:Option Nat}{n:Nat}:∀(m:Nat) (ct:Bool) (c:Code) {fr:Fr} {h:H} {ds:List Nat} {L:List X},(ct=true->DG c=true)->BJ C call ro ct m c fr h ds=some L->
  ∀(p:Pl) (a:Act) (w:World) (Q:Exit->Act->World->Prop),R p h w->Gl C p->Cz p fr a->HS p ds a.defers->Rp p ro k->
   (∀x∈L,∀p' a' w',Cz p' x.fr a'->Ext p h w p' x.h w'->HS p' x.ds a'.defers->Q x.e.Ta a' w')->
   c.wpIn (FW k) n P Q a w/\∀b,c=.loop b->Code.roundsIn (FW k) n P b Q m a w
 |0,ct,c,fr,h,ds,L,hct,hd=>by cases hd
 |m+1,ct,c,fr,h,ds,L,hct,hd=>by
  intro p a w Q hr hg hf hds hro hQ;have ih:∀ {ct:Bool} (c:Code) {fr:Fr} {h:H} {ds:List Nat} {L:List X},(ct=true->DG c=true)->BJ C call ro ct m c fr h ds=some L->∀ {p:Pl} {a:Act} {w:World},R p h w->Gl C p->Cz p fr a->HS p ds a.defers->Rp p ro k->
    ∀ {Q:Exit->Act->World->Prop},(∀x∈L,∀p' a' w',Cz p' x.fr a'->Ext p h w p' x.h w'->HS p' x.ds a'.defers->Q x.e.Ta a' w')->
   c.wpIn (FW k) n P Q a w/\∀b,c=.loop b->Code.roundsIn (FW k) n P b Q m a w:=fun {ct} c {fr h ds L} hct hd {p a w} hr hg hf hds hro {Q} hQ=>Ly hC hcall hm m ct c hct hd p a w Q hr hg hf hds hro hQ
  cases c with
  |skip=>cases hd;exact⟨wpIn_skip (hQ _ (zf.2 rfl) p a w hf (yh hr) hds),fun b hb=>by cases hb⟩
  |label l=>cases hd;exact⟨wpIn_label (hQ _ (zf.2 rfl) p a w hf (yh hr) hds),fun b hb=>by cases hb⟩
  |region id ops dr=>
   refine⟨?_,fun b hb=>by cases hb⟩;simp only[BJ]at hd;cases dr with
   |true=>
    simp only[we]at hd;split at hd
    case h_2=>cases hd
    rename_i fr1 h1 hs;cases hd;refine(show ∀ {Q':Exit->Act->World->Prop},(∀p' a' w',Cz p' fr1 a'->Ext p h w p' h1 w'->a'.defers=a.defers->Q' .normal a' w')->(yv id ops true).wpIn (FW k) n P Q' a w from fun {Q'} hq=>?_) fun p1 a1 w1 hf1 he1 hd1=>hQ _ (zf.2 rfl) p1 a1 w1 hf1 he1 (hd1▸hds.ext he1)
    cases ct with
    |false=>exact aH hC hcall hm hr hg hf hs hq
    |true=>exact Ov (by simpa [DG]using hct rfl) hC hcall hm hr hg hf hs hq
   |false=>
    simp only[wg]at hd;split at hd
    case h_2=>cases hd
    rename_i l hs;cases hd;exact V6 hC hcall hr hg hf hs fun x hx p1 a1 w1 hf1 he1 hd1=>hQ _ (y8.2 ⟨x,hx,rfl⟩) p1 a1 w1 hf1 he1 (hd1▸hds.ext he1)
  |seq x y=>
   refine⟨wpIn_seq ?_,fun b hb=>by cases hb⟩;simp only[BJ]at hd;split at hd
   case h_2=>cases hd
   rename_i l hs;refine(ih x (fun e=>by have:=hct e;simp[DG]at this;exact this.1) hs hr hg hf hds hro fun z hz p1 a1 w1 hf1 he1 hd1=>?_).1;obtain⟨L1,g1,g2⟩:=IQ hd z hz;cases hze:z.e with
   |normal=>
    simp only[hze]at g1;exact(ih y (fun e=>by have:=hct e;simp[DG]at this;exact this.2) g1 he1.rel (hg.ext he1) hf1 hd1 (hro.ext he1) fun u hu p2 a2 w2 hf2 he2 hd2=>hQ u (g2 u hu) p2 a2 w2 hf2 (he1.trans he2) hd2).1
   |exit i=>
    simp only[hze,ze]at g1;subst g1;have:=hQ z (g2 z (zf.2 rfl)) p1 a1 w1 hf1 he1 hd1;rw[hze]at this;exact this
   |ret=>
    simp only[hze,ze]at g1;subst g1;have:=hQ z (g2 z (zf.2 rfl)) p1 a1 w1 hf1 he1 hd1;rw[hze]at this;exact this
  |cond x b1 b2=>
   refine⟨?_,fun b hb=>by cases hb⟩;simp only[BJ]at hd;split at hd
   case h_1=>
    rename_i hx;have hv:=A5 hg hf hx;simp only[Ac]at hv;exact wpIn_cond_true hv (ih b1 (fun e=>by have:=hct e;simp[DG]at this;exact this.1) hd hr hg hf hds hro hQ).1
   case h_2=>
    rename_i hx;have hv:=A5 hg hf hx;simp only[Ac]at hv;exact wpIn_cond_false hv (ih b2 (fun e=>by have:=hct e;simp[DG]at this;exact this.2) hd hr hg hf hds hro hQ).1
   case h_3=>cases hd
  |block id b=>
   refine⟨wpIn_block ?_,fun b hb=>by cases hb⟩;simp only[BJ]at hd;split at hd
   case h_2=>cases hd
   rename_i l hs;cases hd;refine(ih b (fun e=>by have:=hct e;simpa [DG]using this) hs hr hg hf hds hro fun z hz p1 a1 w1 hf1 he1 hd1=>?_).1;have hq:=hQ _ (y8.2 ⟨z,hz,rfl⟩) p1 a1 w1;cases hze:z.e with
   |normal=>
    simp only[hze]at hq;exact hq hf1 he1 hd1
   |ret=>
    simp only[hze]at hq;exact hq hf1 he1 hd1
   |exit i=>
    simp only[hze,Br]at hq;by_cases ei:i=id
    ·simp only[ei,decide_true,we]at hq;simp only[DX.Ta,Exit.inBlock,ei,wk];exact hq hf1 he1 hd1
    ·simp only[ei,decide_false,wg,hze]at hq;simp only[DX.Ta,Exit.inBlock,ei,ve];exact hq hf1 he1 hd1
  |loop b=>
   have key:Code.roundsIn (FW k) n P b Q (m+1) a w:=by
    rw[roundsIn_succ];simp only[BJ]at hd;split at hd
    case h_2=>cases hd
    rename_i l hs;refine(ih b (fun e=>by have:=hct e;simpa [DG]using this) hs hr hg hf hds hro fun z hz p1 a1 w1 hf1 he1 hd1=>?_).1;obtain⟨L1,g1,g2⟩:=IQ hd z hz;cases hze:z.e with
    |normal=>
     simp only[hze]at g1;exact(ih (.loop b) hct g1 he1.rel (hg.ext he1) hf1 hd1 (hro.ext he1) fun u hu p2 a2 w2 hf2 he2 hd2=>hQ u (g2 u hu) p2 a2 w2 hf2 (he1.trans he2) hd2).2 b rfl
    |exit i=>
     simp only[hze,ze]at g1;subst g1;have:=hQ z (g2 z (zf.2 rfl)) p1 a1 w1 hf1 he1 hd1;rw[hze]at this;exact this
    |ret=>
     simp only[hze,ze]at g1;subst g1;have:=hQ z (g2 z (zf.2 rfl)) p1 a1 w1 hf1 he1 hd1;rw[hze]at this;exact this
   exact⟨wpIn_loop_rounds (m+1) key,fun b' hb=>by cases hb;exact key⟩
  |exit i=>cases hd;exact⟨wpIn_exit (hQ _ (zf.2 rfl) p a w hf (yh hr) hds),fun b hb=>by cases hb⟩
  |ret=>cases hd;exact⟨wpIn_ret (hQ _ (zf.2 rfl) p a w hf (yh hr) hds),fun b hb=>by cases hb⟩
  |scope b=>
   refine⟨Jy ?_,fun b hb=>by cases hb⟩;simp only[BJ]at hd;refine(ih b (fun e=>by have:=hct e;simpa [DG]using this) hd hr hg hf hds hro fun z hz p1 a1 w1 hf1 he1 hd1=>?_).1;have h1:=hQ z hz p1 a1 w1 hf1 he1 hd1;cases hze:z.e<;>rw[hze]at h1<;>exact h1
  |rangeFunc g ps asg body=>
   refine⟨wpIn_rangeFunc fun fn _=>?_,fun b hb=>by cases hb⟩;simp only[BJ]at hd;split at hd
   case h_2=>cases hd
   rename_i b h1 ds1 g' hen hgv;split at hd
   case h_2=>cases hd
   rename_i f args hdc;split at hd
   case h_2=>cases hd
   rename_i l hcl;obtain⟨r,mark,w1,p1,nb,q1,q2,q3,q4⟩:=Je (P:=P) hr hf hro hds hen fn;have hyld:As p1 [.yld b] (#[Value.func (.yield r) #[] #[]]).toList:=by
    simp only[Bg,GV,wn];simp only[Ac];exact⟨r,nb,q3,rfl⟩
   obtain⟨args',s1,s2⟩:=LY hC q2.rel (hg.ext q2) (q2.dX (A5 hg hf hgv)) hyld hdc;rw[zj]at s1;obtain⟨d,w1',s3,s4⟩:=Result.WO s1;refine⟨r,mark,w1,d,w1',f,args',w1,q1,?_,fun _ _=>trivial,s4,fun h=>(by simp[FW,yi]at h),Wk.2 ((hcall.fn f args h1 l hcl p1 w1 args' q2.rel (hg.ext q2) s2).mono ?_)⟩
   ·unfold resolve;simpa [Act.eval]using s3
   ·rintro e w2 ⟨v,h2,v',p2,hmem,rfl,k1,k2⟩;obtain⟨L1,t1,t2⟩:=IQ hd (v,h2) hmem;simp only at t1;split at t1
    case h_2=>cases t1
    rename_i ls hls;obtain⟨r',n',x,u1,u2,f0,tmps,rd,md,u3,u4,rfl⟩:=k2.rel.obj _ _ hls;have hpb:=k2.at q3;rw[hpb]at u1;cases u1;have hbusy:ls.st≠ .busy:=by
     intro e;rw[e]at t1;simp at t1
    obtain⟨W,hW,hput⟩:∃W,(Instr.endLoop r).run P w2=.ok ls.pend W/\Ext p2 h2 w2 p2 (h2.put b (.loop { ls with st:=.exhausted })) W:=
     ⟨_,run_endLoop u2 hbusy,Ext.put k2.rel hls hpb (o':=.loop { ls with st:=.exhausted }) (x':=.loop { state:=.exhausted,pending:=ls.pend,fn:=f0,tmps,params:=ls.ps,assign:=ls.asg,body:=ls.body,defers:=rd }) ⟨f0,tmps,rd,md,u3,u4,rfl⟩ rfl rfl rfl rfl⟩
    have hex:=q2.trans (k2.trans hput);refine⟨ls.pend,W,hW,?_⟩;have hf2:Cz p2 fr { a with defers:=mark++a.defers }:=Cz.ext (a:={ a with defers:=mark++a.defers }) hf (q2.trans k2);have hd2:HS p2 ds1 (mark++a.defers):=HS.ext k2 q4;split at t1
    case h_1=>cases t1
    case h_2=>
     rename_i hpe _;cases t1;simp only[hpe];exact hQ _ (t2 _ (zf.2 rfl)) p2 _ _ hf2 hex hd2
    case h_3=>
     rename_i c hpe _;simp only[hpe];exact(ih c (fun e=>by cases e) t1 hput.rel (hg.ext hex) hf2 hd2 (hro.ext hex) fun u hu p3 a3 w3 hf3 he3 hd3=>hQ u (t2 u hu) p3 a3 w3 hf3 (hex.trans he3) hd3).1
  |goto l=>simp[BJ]at hd
  |refuse s=>simp[BJ]at hd
end
section
variable {C:Ctx}{P:Program}{p:Pl}{h:H}{w:World}{fr:Fr}{a:Act}
def Xw(C:Ctx)(fr:Fr)(h:H):ResultVar->Option V
 | .tmp t=>some (fr.get t)
 | .cell a t=>E5 C.T h t (fr.get a)
def P1(C:Ctx)(fr:Fr)(h:H):List ResultVar->Option (List V)
 |[]=>some []
 |r::rs=>match Xw C fr h r,P1 C fr h rs with
  |some v,some vs=>some (v::vs)
  |_,_=>none
def P8(C:Ctx)(fr:Fr)(h:H)(rs:List ResultVar):Option V:=
 match P1 C fr h rs with
 |some [v]=>some v
 |some vs=>some (.tup vs)
 |none=>none
def nY(a:Act):ResultVar->Sem Value
 | .tmp t=>pure (a.tmps.getD t undef)
 | .cell x t=>do loadVar t (<-asAddr (a.tmps.getD x undef))
theorem VE(fn:Func)(a:Act):results fn a.tmps=(do let vs<-fn.results.mapM (nY a);pure (if h:vs.size=1 then vs[0]else .tuple vs)):=by
 unfold results;congr 1
theorem kX(hT:C.T.Ok P)(hr:R p h w)(hf:Cz p fr a){r:ResultVar}{v:V}(hd:Xw C fr h r=some v):
  ∃v',(nY a r).run P w=.ok v' w/\Ac p v v':=by
 cases r with
 |tmp t=>cases hd;exact⟨_,rfl,hf.2 t⟩
 |cell x t=>
  simp only[Xw]at hd;obtain⟨v',h1,h2⟩:=UF (P:=P) hT hr (hf.2 x) hd;refine⟨v',?_,h2⟩;have hp:∃b i,fr.get x=.ptr b i:=by
   unfold E5 at hd;split at hd
   ·rename_i b off d i e1 e2 e3;exact⟨b,off,e1⟩
   ·cases hd
  obtain⟨b,i,e⟩:=hp;have hv:=hf.2 x;rw[e]at hv;simp only[Ac]at hv;obtain⟨r,n,_,hv⟩:=hv;rw[hv]at h1;simp only[nY,hv];exact h1
theorem U6(hT:C.T.Ok P)(hr:R p h w)(hf:Cz p fr a):∀ {rs:List ResultVar} {vs:List V},P1 C fr h rs=some vs->
  ∃vs':List Value,(rs.mapM (nY a)).run P w=.ok vs' w/\As p vs vs'
 |[],vs,hd=>by cases hd;exact⟨[],rfl,by simp⟩
 |r::rs,vs,hd=>by
  unfold P1 at hd;split at hd
  case h_2=>cases hd
  rename_i v vs1 h1 h2;cases hd;obtain⟨v',g1,g2⟩:=kX (P:=P) hT hr hf h1;obtain⟨vs',g3,g4⟩:=U6 hT hr hf h2;refine⟨v'::vs',?_,(Bg ..).2 ⟨g2,g4⟩⟩;rw[List.mapM_cons];simp only[zj];rw[g1];simp only[zh,g3,zn]
theorem sM(hT:C.T.Ok P)(hr:R p h w)(hf:Cz p fr a){fn:Func}{v:V}(hd:P8 C fr h fn.results.toList=some v):∃v',(results fn a.tmps).run P w=.ok v' w/\Ac p v v':=by
 unfold P8 at hd;cases hs:P1 C fr h fn.results.toList with
 |none=>simp[hs]at hd
 |some vs=>
  obtain⟨vs',g1,g2⟩:=U6 (P:=P) hT hr hf hs;have hl:=g2.length;have hrun:(results fn a.tmps).run P w=.ok (if h:vs'.toArray.size=1 then vs'.toArray[0]else .tuple vs'.toArray) w:=by
   rw[VE];simp only[zj];rw[Array.mapM_eq_mapM_toList];simp only[Sem.run_map,g1,zh,zn]
  refine⟨_,hrun,?_⟩;simp only[hs]at hd;cases vs with
  |nil=>
   cases hd;have:vs'=[]:=List.length_eq_zero_iff.1 hl.symm;subst this;simp[Ac]
  |cons x xs=>
   cases xs with
   |nil=>
    cases hd;obtain⟨y,rfl,h1⟩:=g2.one;simpa using h1
   |cons x2 xs=>
    cases hd;rw[dif_neg (by simp at hl ⊢;omega)];simp only[Ac];exact⟨_,rfl,g2⟩
def TQ:List V->Nat->PM V->PM V
 |[],_,m=>m
 |v::vs,i,m=>TQ vs (i+1) (m.set i (some v))
def Nd(n:Nat)(args:List V):Fr:=⟨args.length+(n-args.length),TQ args 0 .leaf⟩
theorem Mp:∀(vs:List V) (i:Nat) (m:PM V) (t:Nat),(TQ vs i m).get t=if i<=t/\t<i+vs.length then vs[t-i]? else m.get t
 |[],i,m,t=>by simp[TQ];omega
 |v::vs,i,m,t=>by
  unfold TQ;rw[Mp vs (i+1) _ t];by_cases e:t=i
  ·subst e;rw[wc (by omega),wd (by simp)];simp
  ·by_cases e2:i+1<=t/\t<i+1+vs.length
   ·rw[wd e2,wd (by simp;omega)];have:t-i=(t-(i+1))+1:=by omega
    rw[this];simp
   ·rw[wc e2,wc (by simp;omega)];simp[e]
theorem kF{args:List V}{args':Array Value}(ha:As p args args'.toList)(n:Nat):Cz p (Nd n args) { tmps:=args'++yt (n-args'.size) undef,defers:=[] }:=by
 have hl:=ha.length;simp at hl;refine⟨by simp[Nd,hl],fun t=>?_⟩;unfold Nd Fr.get;rw[Mp];by_cases ht:t<args.length
 ·rw[wd (by omega)];obtain⟨u,h1,h2⟩:=ha.get (i:=t) (d:=args[t]) (by simp[ht]);have h1':args'[t]?=some u:=by simpa using h1
  simp only[Nat.sub_zero,yo ht,yp];rw[zk,Array.getElem?_append_left (by omega),h1'];exact h2
 ·rw[wc (by omega)];simp only[PM.Di,Option.getD_none];have:(args'++yt (n-args'.size) undef).getD t undef=undef:=by
   rw[zk,Array.getElem?_append_right (by omega)];rw[Array.getElem?_replicate];split<;>rfl
  rw[this];simp[Ac,undef]
def Fy:List Nat->H->Option H
 |[],h=>some h
 |b::bs,h=>match h.get b with
  |some (.defd true)=>Fy bs (h.put b (.defd false))
  |_=>none
theorem QN{fn:Func}{tmps:Array Value}{n:Nat}:∀ {ds:List Nat} {l:List Deferred} {p:Pl} {h:H} {w:World} {h1:H},HS p ds l->R p h w->Fy ds h=some h1->
  ∃w1,Ext p h w p h1 w1/\∀R':Ending->World->Prop,(∃v,(results fn tmps).run P w1=.ok v w1/\R' (.returned v) w1)->LeavesInM yi n P fn tmps R' l .returning w
 |[],l,p,h,w,h1,hd,hr,hl=>by
  cases hl;cases (show l=[]from hd);exact⟨w,yh hr,fun R' hR=>hR⟩
 |b::bs,l,p,h,w,h1,hd,hr,hl=>by
  unfold Fy at hl;split at hl
  case h_2=>cases hl
  rename_i hb;obtain⟨r,m,l',hp,rfl,hd'⟩:=hd;obtain⟨r',m',x,k1,k2,k3⟩:=hr.obj _ _ hb;rw[hp]at k1;cases k1;simp only[Hg,we]at k3;subst k3;have hput:=Ext.put hr hb hp (o':=.defd false) (x':=.deferred none) (by simp[Hg]) (w':=w.putObj r (.deferred none)) rfl rfl rfl rfl;obtain⟨w1,g1,g2⟩:=QN (fn:=fn) (tmps:=tmps) (n:=n) hd' hput.rel hl;exact⟨w1,hput.trans g1,fun R' hR=>⟨by simp,.inl ⟨r,_,rfl,run_takeDeferred k2,g2 R' hR⟩⟩⟩
def Ti(C:Ctx)(m:Nat)(call:Dy)(b:Nat)(ls:LS)(fr:Fr)(h:H):Option (List (V×H)):=
 match BJ C call (some b) false m ls.asg fr h []with
 |some l=>bl l fun x=>match x.e,x.h.get b with
  | .normal,some (.loop l1)=>match l1.st with
   | .ready=>match BJ C call (some b) false m ls.body x.fr (x.h.put b (.loop { l1 with st:=.busy })) x.ds with
    |some l2=>bl l2 fun y=>match y.h.get b with
     |some (.loop l3)=>match y.e with
      | .normal=>some [(.bool true,y.h.put b (.loop { l3 with st:=.ready,pend:=none }))]
      | .ret=>some [(.bool false,y.h.put b (.loop { l3 with st:=.done,pend:=some .ret }))]
      | .exit i=>some [(.bool false,y.h.put b (.loop { l3 with st:=.done,pend:=some (.exit i) }))]
     |_=>none
    |none=>none
   |_=>none
  |_,_=>none
 |none=>none
mutual
def Ll:V->List Nat
 | .ptr b _| .sl b _ _ _ _| .map b| .yld b=>[b]
 | .fn _ a b=>IN a++IN b
 | .iface _ v=>Ll v
 | .agg l| .tup l=>IN l
 |_=>[]
def IN:List V->List Nat
 |[]=>[]
 |v::vs=>Ll v++IN vs
end
def rL:O->List Nat
 | .cells cs _ _=>IN cs
 | .map es _=>es.flatMap fun e=>Ll e.1++Ll e.2.1
 |_=>[]
def reach(h:H)(n0:Nat):Nat->List Nat->List Nat->List Nat
 |0,_,acc=>acc
 |_+1,[],acc=>acc
 |f+1,b::bs,acc=>bif zz b n0||acc.any (zi b)then reach h n0 f bs acc
  else match h.get b with
   |some o=>reach h n0 f (rL o++bs) (b::acc)
   |none=>reach h n0 f bs acc
def Nw(PB:List Nat):Nat->Nat->H->H
 |0,_,h=>h
 |f+1,b,h=>Nw PB f (b+1) (bif PB.any (zi b)then h else h.kill b)
def gJ:O->Bool
 | .loop l=>match l.st with| .exhausted=>true|_=>false
 |_=>false
def Uj:Option O->Option O
 |some o=>bif gJ o then none else some o
 |none=>none
def RI:PM O->PM O
 | .leaf=>.leaf
 | .node l v r=>.node (RI l) (Uj v) (RI r)
theorem Ld:∀(q:GP) (m:PM O),q.get (RI m)=Uj (q.get m)
 |GP.here,PM.leaf=>rfl
 |GP.l _,PM.leaf=>rfl
 |GP.r _,PM.leaf=>rfl
 |GP.here,PM.node _ _ _=>rfl
 |GP.l q,PM.node l _ _=>Ld q l
 |GP.r q,PM.node _ _ r=>Ld q r
def H.dU(h:H):H:=⟨RI h.m,h.nx⟩
theorem TG{p:Pl}{h:H}{w:World}(hr:R p h w):Ext p h w p h.dU w:=by
 have sub:∀b o,h.dU.get b=some o->h.get b=some o:=by
  intro b o hb;have:h.dU.get b=Uj (h.get b):=Ld _ _;rw[this]at hb;cases hg:h.get b with
  |none=>rw[hg]at hb;cases hb
  |some x=>
   rw[hg]at hb;unfold Uj at hb;cases hi:gJ x with
   |true=>simp[hi]at hb
   |false=>simpa [hi]using hb
 refine⟨⟨[],by simp⟩,⟨hr.len,fun b o hb=>hr.obj b o (sub b o hb),fun b b' o o' r n n' hb hb'=>hr.inj b b' o o' r n n' (sub b o hb) (sub b' o' hb')⟩,zo _,fun _ _ _=>rfl,fun r hi=>?_,rfl,rfl,rfl,fun r hlt hl=>⟨rfl,?_⟩⟩
 ·obtain⟨b,o,n,h1,h2⟩:=hi;exact .inl ⟨b,o,n,sub b o h1,h2⟩
 ·obtain⟨b,n,cs,t,fz,h1,h2,h3⟩:=hl;refine .inl ⟨b,n,cs,t,fz,?_,h2,h3⟩;rw[show h.dU.get b=Uj (h.get b)from Ld _ _,h1];rfl
def gcO(n0:Nat)(x:V×H):V×H:=(x.1,Nw (reach x.2 n0 1000 (Ll x.1) []) (x.2.nx-n0) n0 x.2.dU)
def Zq:List (V×V×Nat)->List (V×V×Nat)->Bool
 |[],[]=>true
 |(a,b,c)::l,(a',b',c')::l'=>V.beq a a'&&V.beq b b'&&zi c c'&&Zq l l'
 |_,_=>false
def Pr:List Nat->List Nat->Bool
 |[],[]=>true
 |a::l,b::l'=>zi a b&&Pr l l'
 |_,_=>false
def wO:O->O->Bool
 | .cells cs t fz,.cells cs' t' fz'=>V.KU cs cs'&&zi t t'&&zi fz.1 fz'.1&&zi fz.2 fz'.2
 | .map es c,.map es' c'=>Zq es es'&&zi c c'
 | .siter s n,.siter s' n'=>s==s'&&zi n n'
 | .miter none a l b,.miter none a' l' b'=>zi a a'&&Pr l l'&&zi b b'
 | .miter (some m) a l b,.miter (some m') a' l' b'=>zi m m'&&zi a a'&&Pr l l'&&zi b b'
 | .defd a,.defd b=>a==b
 |_,_=>false
def Rh:Option O->Option O->Bool
 |none,none=>true
 |some a,some b=>wO a b
 |_,_=>false
def OO:PM O->PM O->Bool
 | .leaf,.leaf=>true
 | .node l v r,.node l' v' r'=>Rh v v'&&OO l l'&&OO r r'
 |_,_=>false
def YV(x y:V×H):Bool:=V.beq x.1 y.1&&zi x.2.nx y.2.nx&&OO x.2.m y.2.m
def dedup:List (V×H)->List (V×H)
 |[]=>[]
 |x::l=>let r:=dedup l;bif r.any (YV x)then r else x::r
def Qi(n0:Nat):List (V×H)->List (V×H)
 |[]=>[]
 |[x]=>[x]
 |l=>dedup (l.map (gcO n0))
theorem Yf:∀ {a b:List (V×V×Nat)},Zq a b=true->a=b
 |[],[],_=>rfl
 |[],_::_,h=>by simp[Zq]at h
 |_::_,[],h=>by simp[Zq]at h
 |(a,b,c)::l,(a',b',c')::l',h=>by
  simp only[Zq,zd]at h;rw[V.beq_eq h.1.1.1,V.beq_eq h.1.1.2,zg h.1.2,Yf h.2]
theorem N7:∀ {a b:List Nat},Pr a b=true->a=b
 |[],[],_=>rfl
 |[],_::_,h=>by simp[Pr]at h
 |_::_,[],h=>by simp[Pr]at h
 |a::l,b::l',h=>by
  simp only[Pr,zd]at h;rw[zg h.1,N7 h.2]
theorem XX{a b:O}(h:wO a b=true):a=b:=by
 unfold wO at h;split at h
 ·rename_i fz _ _ fz';simp only[zd]at h;obtain⟨⟨⟨h1,h2⟩,h3⟩,h4⟩:=h;rw[V.HQ h1,zg h2,show fz=fz' from Prod.ext (zg h3) (zg h4)]
 ·simp only[zd]at h;rw[Yf h.1,zg h.2]
 ·simp only[zd,wj]at h;rw[h.1,zg h.2]
 ·simp only[zd]at h;rw[zg h.1.1,N7 h.1.2,zg h.2]
 ·simp only[zd]at h;rw[zg h.1.1.1,zg h.1.1.2,N7 h.1.2,zg h.2]
 ·simp only[wj]at h;rw[h]
 ·cases h
theorem NY:∀ {a b:PM O},OO a b=true->a=b
 | .leaf,.leaf,_=>rfl
 | .leaf,.node _ _ _,h=>by simp[OO]at h
 | .node _ _ _,.leaf,h=>by simp[OO]at h
 | .node l v r,.node l' v' r',h=>by
  simp only[OO,zd]at h;rw[NY h.1.2,NY h.2];congr 1;cases v<;>cases v'<;>first|rfl|exact wi some (XX h.1.1)|(simp[Rh]at h)
theorem jX{x y:V×H}(h:YV x y=true):x=y:=by
 simp only[YV,zd]at h;obtain⟨v,m,n⟩:=x;obtain⟨v',m',n'⟩:=y;have h1:=V.beq_eq h.1.1;have h2:=zg h.1.2;have h3:=NY h.2;simp only at h1 h2 h3;rw[h1,h2,h3]
theorem Mq:∀ {l:List (V×H)} {x:V×H},x∈l->x∈dedup l
 |a::l,x,h=>by
  unfold dedup;simp only;cases hc:(dedup l).any (YV a)with
  |true=>
   simp only[we];rcases yx.1 h with rfl|h
   ·obtain⟨y,hy,he⟩:=ye.1 hc;rw[jX he];exact hy
   ·exact Mq h
  |false=>
   simp only[wg];rcases yx.1 h with rfl|h
   ·exact List.mem_cons_self
   ·exact List.mem_cons_of_mem _ (Mq h)
theorem IW(PB:List Nat):∀(f b:Nat) {p:Pl} {h:H} {w:World},R p h w->Ext p h w p (Nw PB f b h) w
 |0,_,_,_,_,hr=>yh hr
 |f+1,b,p,h,w,hr=>by
  unfold Nw;cases PB.any (zi b)with
  |true=>simp only[we];exact IW PB f (b+1) hr
  |false=>simp only[wg];exact(Ext.kill hr b).trans (IW PB f (b+1) (hr.kill b))
theorem GG.merge{l:List (V×H)}{n0:Nat}{e:Ending}{w':World}(hc:GG p h w l e w'):GG p h w (Qi n0 l) e w':=by
 obtain⟨v,h',v',p',hm,he,hv,hx⟩:=hc;unfold Qi;split
 ·cases hm
 ·exact⟨v,h',v',p',hm,he,hv,hx⟩
 ·exact⟨v,(gcO n0 (v,h')).2,v',p',Mq (y8.2 ⟨_,hm,rfl⟩),he,hv,hx.trans ((TG hx.rel).trans (IW _ _ _ (TG hx.rel).rel))⟩
def Bl(C:Ctx):Nat->Dy
 |0=>fun _ _=>none
 |n+1=>fun c h=>
  match c with
  | .rnd b ls fr=>Ti C n (Bl C n) b ls fr h
  | .fn f args=>
   match C.spec f with
   |some q=>match q args h with
    |some x=>some [x]
    |none=>none
   |none=>
    match C.fn f with
    |none=>none
    |some i=>
     match BJ C (Bl C n) none i.cert n i.body (Nd i.ntmps args) h []with
     |none=>none
     |some l=>match (bl l fun x=>match x.e with
      | .exit _=>none
      |_=>match Fy x.ds x.h with
       |some h1=>match P8 C x.fr h1 i.results.toList with
        |some v=>some [(v,h1)]
        |none=>none
       |none=>none)with
      |some r=>some (bif C.mg then Qi h.nx r else r)
      |none=>none
theorem Nb(hr:R p h w){b r n:Nat}{ls:LS}(hb:h.get b=some (.loop ls))(hp:p[b]?=some (r,n)):
  ∃rec:Loop,w.heap[r]?=some (.loop rec)/\rec.state=ls.st/\rec.pending=ls.pend/\∀(st:LoopState) (pe:Option Code),Ext p h w p (h.put b (.loop { ls with st:=st,pend:=pe })) (w.putObj r (.loop { rec with state:=st,pending:=pe })):=by
 obtain⟨r',n',x,u1,u2,f0,tmps,rd,md,u3,u4,rfl⟩:=hr.obj _ _ hb;rw[hp]at u1;cases u1;exact⟨_,u2,rfl,rfl,fun st pe=>Ext.put hr hb hp (o':=.loop { ls with st:=st,pend:=pe }) ⟨f0,tmps,rd,md,u3,u4,rfl⟩ rfl rfl rfl rfl⟩
theorem QJ(hC:C.Ok P){call:Dy}(hcall:call.Ok C P)(hm:P.follows .mixedOrders=true){b:Nat}{ls:LS}{l:List (V×H)}{k m mm:Nat}(hd:Ti C mm call b ls fr h=some l){f:FuncId}{tmps:Array Value}
  (hr:R p h w) (hg:Gl C p) (hp:p[b]?=some (k,m)) (hf:E3 p fr tmps):RoundIn yi 0 P k f tmps ls.asg ls.body w (GG p h w l):=by
 unfold Ti at hd;split at hd
 case h_2=>cases hd
 rename_i L hL;refine roundIn_of_wpIn trivial ?_;refine(Ly (k:=some k) (n:=0) hC hcall hm mm false ls.asg (fun e=>by cases e) hL p { tmps:=tmps,defers:=[] } w _ hr hg hf rfl ⟨m,hp⟩ fun x hx p1 a1 w1 hf1 he1 hd1=>?_).1;obtain⟨L1,g1,g2⟩:=IQ hd x hx;split at g1
 case h_2=>cases g1
 rename_i l1 hxe hl1;split at g1
 case h_2=>cases g1
 rename_i hst;split at g1
 case h_2=>cases g1
 rename_i L2 hL2;rw[hxe];obtain⟨rec,q1,q2,q3,q4⟩:=Nb he1.rel hl1 (he1.at hp);have e2:=q4 .busy l1.pend;refine⟨_,run_beginRound q1 (q2.trans hst),?_⟩;have e2':Ext p1 x.h w1 p1 (x.h.put b (.loop { l1 with st:=.busy })) (w1.putObj k (.loop { rec with state:=.busy })):=by
  have:({ rec with state:=.busy }:Loop)={ rec with state:=.busy,pending:=l1.pend }:=by rw[<-q3]
  rw[this];exact e2
 have ex:=he1.trans e2';refine(Ly (k:=some k) (n:=0) hC hcall hm mm false ls.body (fun e=>by cases e) hL2 p1 a1 _ _ e2'.rel (hg.ext ex) hf1 hd1 ⟨m,he1.at hp⟩ fun y hy p2 a2 w2 hf2 he2 hd2=>?_).1;obtain⟨L3,t1,t2⟩:=IQ g1 y hy;split at t1
 case h_2=>cases t1
 rename_i l3 hl3;obtain⟨rec2,s1,s2,s3,s4⟩:=Nb he2.rel hl3 (he2.at (he1.at hp));cases hye:y.e with
 |normal=>
  simp only[hye,ze]at t1;subst t1;exact⟨_,_,run_endRound none s1,.bool true,_,.bool true,p2,g2 _ (t2 _ (zf.2 rfl)),rfl,by simp[Ac],ex.trans (he2.trans (s4 .ready none))⟩
 |ret=>
  simp only[hye,ze]at t1;subst t1;exact⟨_,_,run_endRound (some .ret) s1,.bool false,_,.bool false,p2,g2 _ (t2 _ (zf.2 rfl)),rfl,by simp[Ac],ex.trans (he2.trans (s4 .done (some .ret)))⟩
 |exit i=>
  simp only[hye,ze]at t1;subst t1;exact⟨_,_,run_endRound (some (.exit i)) s1,.bool false,_,.bool false,p2,g2 _ (t2 _ (zf.2 rfl)),rfl,by simp[Ac],ex.trans (he2.trans (s4 .done (some (.exit i))))⟩
def Gz(C:Ctx):Prop:=∀f i,C.fn f=some i->i.cert=true->DG i.body=true
theorem IV(hC:C.Ok P)(hce:Gz C)(hm:P.follows .mixedOrders=true):∀n,(Bl C n).Ok C P
 |0=>⟨fun f args h l hd=>(by cases hd),fun b ls fr h l hd=>(by cases hd)⟩
 |n+1=>by
  refine⟨fun f args h l hd p w args' hr hg ha=>?_,fun b ls fr h l hd p w k m f tmps hr hg hb hp hf=>QJ hC (IV hC hce hm n) hm hd hr hg hp hf⟩;unfold Bl at hd;simp only at hd;split at hd
  case h_1=>
   rename_i q hq;split at hd
   case h_2=>cases hd
   rename_i x hx;cases hd;refine(hC.spec f q hq p h w args args' x.1 x.2 hr hg ha hx).mono ?_;rintro e w' ⟨v',p',rfl,g1,g2⟩;exact⟨x.1,x.2,v',p',zf.2 rfl,rfl,g1,g2⟩
  case h_2=>
   split at hd
   case h_1=>cases hd
   rename_i i hi;split at hd
   case h_1=>cases hd
   rename_i L hL;split at hd
   case h_2=>cases hd
   rename_i lr hd';cases hd;refine Calls.mono ?_ (fun e w' hc=>(show GG p h w (bif C.mg then Qi h.nx lr else lr) e w' from by cases C.mg with|true=>exact GG.merge hc|false=>exact hc));have hd:=hd';generalize lr=l at hd;obtain⟨fn,h1,h2,h3,h4,h5⟩:=hC.fn f i hi;have h6:=hce f i hi;refine callsIn_wide.1 (callsIn_of_wp_marks (F:=yi) (n:=0) h1 h3 trivial ?_);rw[h4];refine(Ly (k:=none) (n:=0) hC (IV hC hce hm n) hm n i.cert i.body h6 hL p _ w _ hr hg (kF ha i.ntmps) rfl trivial fun x hx p1 a1 w1 hf1 he1 hd1=>?_).1;obtain⟨L1,g1,g2⟩:=IQ hd x hx;have fin:∀ {h1:H} {v:V},Fy x.ds x.h=some h1->P8 C x.fr h1 i.results.toList=some v->L1=[(v,h1)]->LeavesInM yi 0 P fn a1.tmps (GG p h w l) a1.defers .returning w1:=by
    intro h1 v hle hres hL1;subst hL1;obtain⟨w2,q1,q2⟩:=QN (P:=P) (fn:=fn) (tmps:=a1.tmps) (n:=0) hd1 he1.rel hle;obtain⟨v',s1,s2⟩:=sM (P:=P) (fn:=fn) hC.T q1.rel (hf1.ext q1) (by rw[h5];exact hres);exact q2 _ ⟨v',s1,v,h1,v',p1,g2 _ (zf.2 rfl),rfl,s2,he1.trans q1⟩
   split at g1
   case h_1=>cases g1
   case h_2=>
    rename_i hne;split at g1
    case h_2=>cases g1
    rename_i h2 hle;split at g1
    case h_2=>cases g1
    rename_i v hres;cases g1;cases hxe:x.e with
    |normal=>exact fin hle hres rfl
    |ret=>exact fin hle hres rfl
    |exit j=>exact wh hxe (hne j)
end
def kI(P:Program)(t:TypeId):Option TI:=
 match P.info? t with
 |some i=>match i.zero with
  |some z=>match cv z with
   |some v=>some ⟨i.size,i.bytes,v⟩
   |none=>none
  |none=>none
 |none=>none
theorem fB{P:Program}{t:TypeId}{i:TI}(h:kI P t=some i):∃j v,P.info? t=some j/\j.size=i.size/\j.bytes=i.bytes/\j.zero=some v/\∀p,Ac p i.zv v:=by
 unfold kI at h;split at h
 case h_2=>cases h
 rename_i j hj;split at h
 case h_2=>cases h
 rename_i z hz;split at h
 case h_2=>cases h
 rename_i v hv;cases h;exact⟨j,z,hj,rfl,rfl,hz,fun p=>VO p hv⟩
def lQ(P:Program)(t:TypeId):Option FK:=
 match P.underlying t with
 |some (.int k)=>some (.int k)
 |some .string=>some .str
 |some .bool=>some .bool
 |_=>none
def Pn(P:Program):List Field->Nat->Option (List FK)
 |[],_=>some []
 | f :: fs, i => if f.name = "_" \/ f.offset ≠ i then none else match lQ P f.type, Pn P fs (i + 1) with
  |some k,some ks=>some (k::ks)
  |_,_=>none
def Wz(P:Program)(t:TypeId):Option (List FK):=
 match P.underlying t with
 |some (.struct fs)=>if P.stoodInHeld t=true\/P.eqGuardType P.depth t=true then none else Pn P fs.toList 0
 |_=>none
def kD:TypeDesc->Bool
 | .pointer _=>false
 |_=>true
def cC(P:Program)(t:TypeId)(name:String):Option FuncId:=
 match P.info? t,P.underlying t with
 |some j,some d=>match j.methods.find? (·.name==name)with
  |some m=>match m.path,m.func with
   |⟨[]⟩,some (f,false)=>bif kD d then some f else none
   |_,_=>none
  |none=>none
 |_,_=>none
theorem fJ{P:Program}{t:TypeId}{name:String}{f:FuncId}(h:cC P t name=some f):∃j m d,P.info? t=some j/\j.methods.find? (·.name==name)=some m/\m.path= #[]/\m.func=some (f,false)/\P.underlying t=some d/\∀e,d≠ .pointer e:=by
 unfold cC at h;split at h
 case h_2=>cases h
 rename_i j d h1 h2;split at h
 case h_2=>cases h
 rename_i m h3;split at h
 case h_2=>cases h
 rename_i f' h4 h5;cases hp:kD d with
 |false=>rw[hp]at h;cases h
 |true=>
  rw[hp]at h;simp only[we,ze]at h;subst h;exact⟨j,m,d,h1,h3,h4,h5,h2,fun e he=>by subst he;cases hp⟩
def tP(P:Program):B3:=⟨P.underlying,kI P,Wz P,cC P⟩
section
variable {P:Program}{p:Pl}
theorem NT{t:TypeId}{k:FK}(h:lQ P t=some k):∃d,P.underlying t=some d/\DW d=false/\(∀ms,d≠ .interface ms)/\match k with
  | .int k=>d=.int k
  | .str=>d=.string
  | .bool=>d=.bool:=by
 unfold lQ at h;split at h
 case h_1=>rename_i hu;cases h;exact⟨_,hu,rfl,fun _ e=>(by cases e),rfl⟩
 case h_2=>rename_i hu;cases h;exact⟨_,hu,rfl,fun _ e=>(by cases e),rfl⟩
 case h_3=>rename_i hu;cases h;exact⟨_,hu,rfl,fun _ e=>(by cases e),rfl⟩
 case h_4=>cases h
theorem Od{t:TypeId}{d:TypeDesc}(hu:P.underlying t=some d)(ha:DW d=false){cs:Array Value}{i:Nat}{v:Value}(hv:cs[i]?=some v)(w:World):(part t cs i).run P w=.ok v w:=by
 unfold part isAgg;have hund:(underlying t).run P w=.ok d w:=by unfold underlying;simp[hu]
 simp only[zj,hund,zh];cases d<;>first|(cases ha;done)|simp[hv]
theorem Yo{t:TypeId}{k:FK}(h:lQ P t=some k){a b:V}{a' b':Value}(ha:k.ok a=true)(hb:k.ok b=true)(hra:Ac p a a')(hrb:Ac p b b'){r:Bool}(hs:DK a b=some r)(d:Nat)(w:World):
  (Op.equalIn (d+1) t a' b').run P w=.ok r w:=by
 obtain⟨D,hu,_,_,hk⟩:=NT h;cases k with
 |int k=>
  simp only at hk;subst hk;cases a<;>simp only[FK.ok]at ha<;>try (cases ha;done)
  cases b<;>simp only[FK.ok]at hb<;>try (cases hb;done)
  simp only[Ac]at hra hrb;subst hra hrb;simp at ha hb;subst ha hb;simp[DK]at hs;rw[run_equalIn_int w d t _ _ _ _ hu,hs]
 |str=>
  simp only at hk;subst hk;cases a<;>simp only[FK.ok]at ha<;>try (cases ha;done)
  cases b<;>simp only[FK.ok]at hb<;>try (cases hb;done)
  simp only[Ac]at hra hrb;subst hra hrb;simp only[DK,ze]at hs;rw[run_equalIn_string w d t _ _ hu,FN,FN,hs]
 |bool=>
  simp only at hk;subst hk;cases a<;>simp only[FK.ok]at ha<;>try (cases ha;done)
  cases b<;>simp only[FK.ok]at hb<;>try (cases hb;done)
  simp only[Ac]at hra hrb;subst hra hrb;simp only[DK,ze]at hs;rw[run_equalIn_bool' w d t _ _ hu,hs]
theorem So:∀ {ks:List FK} {x:List V},fit ks x=true->ks.length=x.length
 |[],[],_=>rfl
 |[],_::_,h=>by simp[fit]at h
 |_::_,[],h=>by simp[fit]at h
 |k::ks,v::vs,h=>by
  unfold fit at h;cases hk:k.ok v with
  |false=>simp[hk]at h
  |true=>simp only[hk,we]at h;simp[So h]
theorem K4(d:Nat){w:World}{x' y':Array Value}:∀ {fs:List Field} {i:Nat} {ks:List FK},Pn P fs i=some ks->∀ {x y:List V} {u v:List Value},fit ks x=true->fit ks y=true->As p x u->As p y v->
  (∀j a,u[j]?=some a->x'[i+j]?=some a)->(∀j a,v[j]?=some a->y'[i+j]?=some a)->∀ {r:Bool},BU x y=some r->(Op.eqFields (d+1) x' y' fs).run P w=.ok r w
 |[],i,ks,hk,x,y,u,v,hx,hy,_,_,_,_,r,hs=>by
  cases hk;cases x with
  |cons _ _=>simp[fit]at hx
  |nil=>cases y with
   |cons _ _=>simp[fit]at hy
   |nil=>simp[BU]at hs;subst hs;simp[Op.eqFields]
 |f::fs,i,ks,hk,x,y,u,v,hx,hy,hu,hv,gx,gy,r,hs=>by
  unfold Pn at hk;split at hk
  case isTrue=>cases hk
  rename_i hno;have hno1 : f.name ≠ "_" := fun e => hno (.inl e)
  have hno2:f.offset=i:=z8 fun e=>hno (.inr e)
  split at hk
  case h_2=>cases hk
  rename_i k ks' h1 h2;cases hk;cases x with
  |nil=>simp[fit]at hx
  |cons a x=>cases y with
   |nil=>simp[fit]at hy
   |cons b y=>
    simp only[As]at hu hv;obtain⟨a',u',rfl,hu1,hu2⟩:=hu;obtain⟨b',v',rfl,hv1,hv2⟩:=hv;have ka:k.ok a=true:=by unfold fit at hx;cases hk:k.ok a with|false=>simp[hk]at hx|true=>rfl
    have kb:k.ok b=true:=by unfold fit at hy;cases hk:k.ok b with|false=>simp[hk]at hy|true=>rfl
    have fx:fit ks' x=true:=by unfold fit at hx;rw[ka]at hx;exact hx
    have fy:fit ks' y=true:=by unfold fit at hy;rw[kb]at hy;exact hy
    obtain⟨D,hund,hagg,_,_⟩:=NT h1;have pa:=Od hund hagg (gx 0 a' rfl) w;have pb:=Od hund hagg (gy 0 b' rfl) w;simp only[y9]at pa pb;simp only[Op.eqFields,hno1,wm,not_false_eq_true,wk,zj,hno2,pa,pb,zh];unfold BU at hs;split at hs
    case h_1=>
     rename_i hc;rw[Yo h1 ka kb hu1 hv1 hc];simp only[zh,Bool.not_true,zu,ve];exact K4 d h2 fx fy hu2 hv2 (fun j c hj=>by have:=gx (j+1) c (by simpa using hj);rwa [show i+1+j=i+(j+1)from by omega]) (fun j c hj=>by have:=gy (j+1) c (by simpa using hj);rwa [show i+1+j=i+(j+1)from by omega]) hs
    case h_2=>
     rename_i hc;rw[Yo h1 ka kb hu1 hv1 hc];split at hs
     ·cases hs;simp
     ·cases hs
    case h_3=>cases hs
theorem JN{b:Bool}{w:World}{x':Array Value}:∀ {fs:List Field} {i:Nat} {ks:List FK},Pn P fs i=some ks->∀ {x:List V} {u:List Value},fit ks x=true->As p x u->
  (∀j a,u[j]?=some a->x'[i+j]?=some a)->
  (forIn (m := Sem) fs PUnit.unit fun f _ => if f.name ≠ "_" then do
    yj b 9999 f.type (<-part f.type x' f.offset)
    pure (ForInStep.yield yy)
   else do
    pure yy
    pure (ForInStep.yield yy)).run P w=.ok yy w
 |[],i,ks,hk,x,u,hx,_,_=>by simp
 |f::fs,i,ks,hk,x,u,hx,hu,gx=>by
  unfold Pn at hk;split at hk
  case isTrue=>cases hk
  rename_i hno;have hno1 : f.name ≠ "_" := fun e => hno (.inl e)
  have hno2:f.offset=i:=z8 fun e=>hno (.inr e)
  split at hk
  case h_2=>cases hk
  rename_i k ks' h1 h2;cases hk;cases x with
  |nil=>simp[fit]at hx
  |cons a x=>
   simp only[As]at hu;obtain⟨a',u',rfl,hu1,hu2⟩:=hu;have ka:k.ok a=true:=by unfold fit at hx;cases hk:k.ok a with|false=>simp[hk]at hx|true=>rfl
   have fx:fit ks' x=true:=by unfold fit at hx;rw[ka]at hx;exact hx
   obtain⟨D,hund,hagg,hni,_⟩:=NT h1;have pa:=Od hund hagg (gx 0 a' rfl) w;simp only[y9]at pa;have hck:(yj b 9999 f.type a').run P w=.ok () w:=by
    unfold yj;have hund':(underlying f.type).run P w=.ok D w:=by unfold underlying;simp[hund]
    simp only[zj,hund',zh];cases D<;>first|rfl|(cases hagg;done)|exact wh rfl (hni _)
   have ih:=JN (b:=b) (w:=w) (x':=x') h2 fx hu2 (fun j c hj=>by have:=gx (j+1) c (by simpa using hj);rwa [show i+1+j=i+(j+1)from by omega]);simp only[List.forIn_cons,hno1,wm,not_false_eq_true,wk,zj,hno2,pa,hck,zh,zn]at ih ⊢;exact ih
theorem vM(P:Program):(tP P).Ok P:=by
 have key:∀t ks,Wz P t=some ks->∃fs,P.underlying t=some (.struct fs)/\P.stoodInHeld t=false/\P.eqGuardType P.depth t=false/\Pn P fs.toList 0=some ks:=by
  intro t ks h;unfold Wz at h;split at h
  case h_2=>cases h
  rename_i fs hu;split at h
  case isTrue=>cases h
  rename_i hno;refine⟨fs,hu,?_,?_,h⟩
  ·cases hc:P.stoodInHeld t with
   |false=>rfl
   |true=>exact wh (.inl hc) hno
  ·cases hc:P.eqGuardType P.depth t with
   |false=>rfl
   |true=>exact wh (.inr hc) hno
 refine⟨fun t d h=>h,fun t i h=>fB h,?_,?_,?_,?_,fun t name f h=>fJ h⟩
 ·intro t ks h p x y x' y' r w fx fy hx hy hs;obtain⟨fs,hu,h1,h2,h3⟩:=key t ks h;have hfo:P.fieldsOf t=fs:=by unfold Program.fieldsOf;rw[hu]
  unfold Op.equal Op.maxDepth;rw[run_equalIn_struct w 9999 t x' y' (by rw[hfo];exact hu) h1,hfo];exact K4 9998 h3 fx fy hx hy (fun j a hj=>by simpa using hj) (fun j a hj=>by simpa using hj) hs
 ·intro t ks h;obtain⟨fs,hu,h1,h2,h3⟩:=key t ks h;exact h2
 ·intro t ks h p x x' b w fx hx;obtain⟨fs,hu,h1,h2,h3⟩:=key t ks h;unfold yj;have hund':(underlying t).run P w=.ok (.struct fs) w:=by unfold underlying;simp[hu]
  simp only[zj,hund',zh];rw[<-Array.forIn_toList];have:=JN (b:=b) (w:=w) (x':=x') h3 fx hx (fun j a hj=>by simpa using hj);simp only[this,zh,zn]
 ·intro t ks h;obtain⟨fs,hu,_⟩:=key t ks h;exact⟨fs,hu⟩
end
def Qq(P:Program)(ct:FuncId->Bool)(f:FuncId):Option Fn:=
 match P.funcs[f]? with
 |some fn=>match fn.body with
  | some b => if fn.name = "runtime.NumGoroutine" then none else some ⟨fn.ntmps, fn.results, b, ct f⟩
  |none=>none
 |none=>none
theorem rZ {P : Program} {ct : FuncId -> Bool} {f : FuncId} {i : Fn} (h : Qq P ct f = some i) : ∃ fn, P.funcs[f]? = some fn /\ fn.name ≠ "runtime.NumGoroutine" /\ fn.body = some i.body /\ fn.ntmps = i.ntmps /\ fn.results = i.results := by
 unfold Qq at h;split at h
 case h_2=>cases h
 rename_i fn hfn;split at h
 case h_2=>cases h
 rename_i b hb;split at h
 case isTrue=>cases h
 rename_i hn;cases h;exact⟨fn,hfn,hn,hb,rfl,rfl⟩
inductive PK where
 |indexByte
 |add64
 |sub64
 |count
 |noEsc
def O4:Array Value->Sem Value:=fun args=>do
 let (x, y, b) <- Extern.MathBitsCarry.three "Sub64" args
 pure (ya ((x+zr-y-b) % zr) (if x<y+b then 1 else 0))
def PK.entry:PK->Array Value->Sem Value
 | .indexByte=>Extern.BytealgIndexByte.indexByte
 | .add64=>add64Entry
 | .sub64=>O4
 | .count=>Extern.BytealgCount.count
 | .noEsc=>Extern.AbiNoEscape.same
def Ua:Option Nat->V
 |some i=>i64 i
 |none=>.int .i64 (-1)
def aX:Nat:=18446744073709551616
def PK.run:PK->List V->H->Option (V×H)
 | .indexByte,[.str s,.int .u8 c],h=>some (Ua (s.findIdx? fun x=>x==c.toNat.toUInt8),h)
 | .add64,[.int .u64 (.ofNat x),.int .u64 (.ofNat y),.int .u64 (.ofNat c)],h=>
  bif yz c 1 then some (.tup [.int .u64 (.ofNat ((x+y+c) % aX)),.int .u64 (.ofNat ((x+y+c)/aX))],h)else none
 | .sub64,[.int .u64 (.ofNat x),.int .u64 (.ofNat y),.int .u64 (.ofNat c)],h=>
  bif yz c 1 then some (.tup [.int .u64 (.ofNat ((x+aX-y-c) % aX)),.int .u64 (.ofNat (bif zz x (y+c)then 1 else 0))],h)else none
 | .count,[.str s,.int .u8 c],h=>some (.int .i64 (s.foldl (fun n x=>bif x==c.toNat.toUInt8 then Nat.add n 1 else n) 0:Nat),h)
 | .noEsc,[.ptr b o],h=>some (.ptr b o,h)
 |_,_,_=>none
theorem Qt(s:List UInt8)(c:UInt8):((zq (bytesOf s).size).find? fun i=>(bytesOf s)[i]! ==c)=s.findIdx? fun x=>x==c:=by
 have key:∀(l pre:List UInt8),pre++l=s->((List.range' pre.length l.length).find? fun i=>(bytesOf s)[i]! ==c)=(l.findIdx? fun x=>x==c).map (· +pre.length):=by
  intro l;induction l with
  |nil=>intro pre _;simp
  |cons a l ih=>
   intro pre hp;have hget:(bytesOf s)[pre.length]! =a:=by
    subst hp;rw[getElem!_pos _ _ (by simp[BF])];simp[bytesOf,ByteArray.getElem_eq_getElem_data]
   rw[zt,List.range'_succ,List.find?_cons,hget,List.findIdx?_cons];cases hac:a==c with
   |true=>simp
   |false=>
    have:=ih (pre++[a]) (by simpa using hp);simp only[List.length_append,List.length_singleton]at this;simp only[this,zu,ve,Option.map_map];congr 1;funext k;simp;omega
 have:=key s [] rfl;simp only[List.length_nil,y9]at this;rw[List.range_eq_range',BF,this];simp
theorem As.three{p:Pl}{a b c:V}{l:List Value}(h:As p [a,b,c] l):∃x y z,l=[x,y,z]/\Ac p a x/\Ac p b y/\Ac p c z:=by
 simp only[As]at h;obtain⟨x,l1,rfl,h1,y,l2,rfl,h2,z,l3,rfl,h3,rfl⟩:=h;exact⟨x,y,z,rfl,h1,h2,h3⟩
theorem PK.sim{P:Program}{k:PK}{p:Pl}{h:H}{w:World}{args:List V}{args':Array Value}{v:V}{h':H}(ha:As p args args'.toList)(hd:k.run args h=some (v,h')):
  h'=h/\∃v',(k.entry args').run P w=.ok v' w/\Ac p v v':=by
 unfold PK.run at hd;split at hd
 case h_6=>cases hd
 case h_5=>
  rename_i b o;cases hd;obtain⟨x,hl,h1⟩:=ha.one;have:args'= #[x]:=z6.1 hl;subst this;exact⟨rfl,x,Lib.run_noEscape w x,h1⟩
 case h_1=>
  rename_i s c;cases hd;obtain⟨x,y,hl,h1,h2⟩:=ha.two;have:args'= #[x,y]:=z6.1 hl;subst this;simp only[Ac]at h1 h2;subst h1 h2;refine⟨rfl,_,run_indexByte_string (bytesOf s) c w,?_⟩;unfold firstIdx;rw[Qt];cases s.findIdx? fun x=>x==c.toNat.toUInt8<;>simp[Ua,i64,Ac]
 case h_2=>
  rename_i x y c;rw[show yz c 1=decide (c<=1)from by rw[Bool.eq_iff_iff];simp]at hd;by_cases hc:c<=1
  ·simp only[hc,decide_true,we,ze,zl]at hd;obtain⟨rfl,rfl⟩:=hd;obtain⟨x',y',z',hl,h1,h2,h3⟩:=ha.three;have:args'= #[x',y',z']:=z6.1 hl;subst this;simp only[Ac]at h1 h2 h3;subst h1 h2 h3;refine⟨rfl,_,run_add64 x y c (by omega) (by omega) (by omega) (by omega) w,?_⟩;simp only[Ac];refine⟨_,rfl,?_⟩;simp only[Bg,GV,wn,Ac];exact⟨by simp[aX],by simp[aX]⟩
  ·simp[hc]at hd
 case h_3=>
  rename_i x y c;rw[show yz c 1=decide (c<=1)from by rw[Bool.eq_iff_iff];simp]at hd;by_cases hc:c<=1
  ·simp only[hc,decide_true,we,ze,zl]at hd;obtain⟨rfl,rfl⟩:=hd;obtain⟨x',y',z',hl,h1,h2,h3⟩:=ha.three;have:args'= #[x',y',z']:=z6.1 hl;subst this;simp only[Ac]at h1 h2 h3;subst h1 h2 h3;have key:(O4 #[.int .u64 x,.int .u64 y,.int .u64 c]).run P w=
     .ok (ya ((x+zr-y-c) % zr) (if x<y+c then 1 else 0)) w:=by
    have:c=0\/c=1:=by omega
    rcases this with rfl|rfl<;>rfl
   refine⟨rfl,_,key,?_⟩;simp only[Ac,ya];refine⟨_,rfl,?_⟩;simp only[Bg,GV,wn,Ac];refine⟨rfl,?_⟩;rw[GX];by_cases hlt:x<y+c<;>simp[hlt]
  ·simp[hc]at hd
 case h_4=>
  rename_i s c;cases hd;obtain⟨x,y,hl,h1,h2⟩:=ha.two;have:args'= #[x,y]:=z6.1 hl;subst this;simp only[Ac]at h1 h2;subst h1 h2;refine⟨rfl,_,Lib.run_countString (bytesOf s) c w,?_⟩;have key:∀(l:List UInt8) (n:Nat),l.foldl (fun n x=>bif x==c.toNat.toUInt8 then Nat.add n 1 else n) n=n+Lib.countByte l c.toNat.toUInt8:=by
   intro l;induction l with
   |nil=>intro n;simp[Lib.countByte]
   |cons x l ih=>
    intro n;rw[List.foldl_cons,ih];unfold Lib.countByte;rw[List.count_cons];cases hx:x==c.toNat.toUInt8 with
    |true=>simp only[we,wk];show n+1+_=_;omega
    |false=>simp
  simp only[Ac,key,Nat.zero_add];simp[bytesOf]
def Rw(L:List (FuncId×PK))(f:FuncId):Option (List V->H->Option (V×H)):=
 match L with
 |[]=>none
 |(g,k)::L=>bif zi g f then some k.run else Rw L f
structure Ke(P:Program)(x:FuncId×PK):Prop where
 ok : ∃ fn, P.funcs[x.1]? = some fn /\ (fn.name == "runtime.NumGoroutine") = false /\ fn.body.isNone = true /\ Extern.findNext fn = none /\ Extern.find fn = some x.2.entry
theorem Xr{P:Program}:∀ {L:List (FuncId×PK)},(∀x∈L,Ke P x)->∀f q,Rw L f=some q->∀(p:Pl) (h:H) (w:World) (args:List V) (args':Array Value) v h',R p h w->As p args args'.toList->q args h=some (v,h')->
  ∃v' p' w',(callFunc f args').run P w=.ok (.value v') w'/\Ac p' v v'/\Ext p h w p' h' w'
 |[],_,f,q,hq,_,_,_,_,_,_,_,_,_,_=>by cases hq
 |(g,k)::L,hL,f,q,hq,p,h,w,args,args',v,h',hr,ha,hd=>by
  unfold Rw at hq;rw[Br]at hq;by_cases e:g=f
  ·subst e;simp only[decide_true,we,ze]at hq;subst hq;obtain⟨fn,h1,h2,h3,h4,h5⟩:=(hL (g,k) (by simp)).ok;obtain⟨rfl,v',g1,g2⟩:=PK.sim (P:=P) (w:=w) ha hd;refine⟨v',p,w,?_,g2,yh hr⟩;rw[run_callFunc_extern h1 h2 h3 h4 h5,g1];rfl
  ·simp only[e,decide_false,wg]at hq;exact Xr (fun x hx=>hL x (by simp[hx])) f q hq p h w args args' v h' hr ha hd
def zP:Option (List (V×H))->Option V
 |some [(v,_)]=>some v
 |_=>none
def Yr(C:Ctx)(n:Nat)(f:FuncId)(args:List V)(v:V):Bool:=match zP (Bl C n (.fn f args) hG)with
 |some x=>V.beq x v
 |none=>false
theorem Wt{C C':Ctx}{P:Program}(hC:C.Ok P)(hce:Gz C)(hm:P.follows .mixedOrders=true){n:Nat}{f:FuncId}{args:List V}{v:V}
  (hv:Yr C n f args v=true) (ha:V.IL args=true) (hvf:v.flat=true) {p:Pl} {h:H} {w:World} {args':Array Value} (hr:R p h w) (hg:Gl C' p) (hh:Gh h) (hargs:As p args args'.toList):
  Calls P f args' w fun e w'=>∃v' p',e=.returned v'/\Ac p' v v'/\Ext p h w p' h w':=by
 unfold Yr at hv;split at hv
 case h_2=>cases hv
 rename_i x hx;have hxv:x=v:=V.beq_eq hv;subst hxv;unfold zP at hx;split at hx
 case h_2=>cases hx
 rename_i l hl he;cases hx;have hg:Gp p:=hg;refine((IV hC hce hm n).fn f args hG _ he _ w args' (uM hr hg hh) hg.take (V.Jn ha hargs)).mono ?_;rintro e w' ⟨u,h',v',p',hmem,rfl,h1,h2⟩;cases zf.1 hmem;have hun:∀r,r<w.heap.size->w'.heap[r]?=w.heap[r]?:=fun r hr=>h2.Ga hg.take r hr
 refine⟨v',p,rfl,V.C4 hvf h1,⟨⟨[],by simp⟩,⟨hr.len,fun b o hb=>?_,hr.inj⟩,h2.size,fun r hlt _=>hun r hlt,fun r hi=>.inl hi,h2.os,h2.out,h2.tape,fun r hlt hl=>⟨hun r hlt,.inl hl⟩⟩⟩;obtain⟨r,m,y,g1,g2,g3⟩:=hr.obj b o hb;exact⟨r,m,y,g1,by rw[hun r (zc.1 g2).1];exact g2,g3⟩
def pH(h:H):List (Nat×O)->Bool
 |[]=>true
 |(i,o)::l=>Rh (h.get i) (some o)&&pH h l
theorem Yh{h:H}:∀ {l:List (Nat×O)},pH h l=true->∀x∈l,h.get x.1=some x.2
 |[],_,x,hx=>by cases hx
 |(i,o)::l,hb,x,hx=>by
  simp only[pH,zd]at hb;rcases yx.1 hx with rfl|hx
  ·have:=hb.1;cases hq:h.get i with
   |none=>rw[hq]at this;simp[Rh]at this
   |some q=>rw[hq]at this;rw[XX (a:=q) (b:=o) (by simpa [Rh]using this)]
  ·exact Yh hb.2 x hx
def goS:List (Nat×O)->Bool
 |[]=>true
 |(_,o)::l=>Rh (some o) (some o)&&goS l
theorem Zx:goS Ga=true:=by kernel_rfl
theorem vO{h:H}(hh:Gh h):pH h Ga=true:=by
 have key:∀l:List (Nat×O),(∀x∈l,h.get x.1=some x.2)->goS l=true->pH h l=true:=by
  intro l;induction l with
  |nil=>exact fun _ _=>rfl
  |cons x l ih=>
   intro h1 h2;simp only[goS,zd]at h2;simp only[pH,zd];exact⟨by rw[h1 x List.mem_cons_self];exact h2.1,ih (fun y hy=>h1 y (List.mem_cons_of_mem _ hy)) h2.2⟩
 exact key Ga hh Zx
abbrev CG:=List (FuncId×List V×V)
def Il:CG->FuncId->List V->Option V
 |[],_,_=>none
 |(g,a,v)::l,f,args=>bif zi g f&&V.KU a args then some v else Il l f args
def SD:CG->FuncId->Bool
 |[],_=>false
 |(g,_,_)::l,f=>bif zi g f then true else SD l f
def Kb(L:CG)(f:FuncId):Option (List V->H->Option (V×H)):=
 bif SD L f then some (fun args h=>bif pH h Ga then(match Il L f args with|some v=>some (v,h)|none=>none)else none)else none
def AX(C:Ctx)(n:Nat):CG->Bool
 |[]=>true
 |(f,a,v)::l=>Yr C n f a v&&V.IL a&&v.flat&&AX C n l
theorem ZH{L:CG}{f:FuncId}{args:List V}{v:V}(h:Il L f args=some v){C:Ctx}{n:Nat}(ha:AX C n L=true):Yr C n f args v=true/\V.IL args=true/\v.flat=true:=by
 induction L with
 |nil=>cases h
 |cons x l ih=>
  obtain⟨g,a,u⟩:=x;simp only[AX,zd]at ha;unfold Il at h;cases hb:(zi g f&&V.KU a args)with
  |false=>rw[hb]at h;exact ih h ha.2
  |true=>
   rw[hb]at h;cases h;simp only[zd]at hb;have e1:g=f:=zg hb.1;have e2:a=args:=V.HQ hb.2;subst e1;subst e2;exact⟨ha.1.1.1,ha.1.1.2,ha.1.2⟩
theorem rD{C C':Ctx}{P:Program}(hC:C.Ok P)(hce:Gz C)(hm:P.follows .mixedOrders=true){n:Nat}{L:CG}(ha:AX C n L=true):
  ∀f q,Kb L f=some q->∀(p:Pl) (h:H) (w:World) (args:List V) (args':Array Value) v h',R p h w->Gl C' p->As p args args'.toList->q args h=some (v,h')->
  Calls P f args' w fun e w'=>∃v' p',e=.returned v'/\Ac p' v v'/\Ext p h w p' h' w':=by
 intro f q hq p h w args args' v h' hr hg hargs hqr;unfold Kb at hq;cases hh:SD L f with
 |false=>rw[hh]at hq;cases hq
 |true=>
  rw[hh]at hq;cases hq;simp only at hqr;cases hgb:pH h Ga with
  |false=>rw[hgb]at hqr;cases hqr
  |true=>
  rw[hgb]at hqr;simp only[we]at hqr;split at hqr
  case h_2=>cases hqr
  rename_i u hu;cases hqr;obtain⟨g1,g2,g3⟩:=ZH hu ha;exact Wt (C':=C') hC hce hm g1 g2 g3 hr hg (Yh hgb) hargs
end Go.Det
