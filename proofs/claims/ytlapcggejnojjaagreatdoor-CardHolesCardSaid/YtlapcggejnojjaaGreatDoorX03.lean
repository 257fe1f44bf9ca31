import Derived.Test.YtlapcggejnojjaaGreatDoorX02
import Derived.RangeFuncRecord
import Derived.RangeFuncLeaves
import Derived.Scope
import Derived.Laws.StructEq
import Derived.Lib.Bytealg
import Derived.Laws.Externs
/- A part of a proof (no law is stated here). Made by program out of texts by AI agents. -/
open Array renaming getElem?_eq_some_iff → zc, getD_eq_getD_getElem? → zi, toList_inj → zE, getElem?_eq_getElem → zM, replicate → zR
open Bool renaming and_eq_true → zd, or_eq_true → zm, false_eq_true → zu, not_eq_true' → zx
open Option.some renaming injEq → ze
open List renaming mem_singleton → zf, all_eq_true → zk, range → zo, length_cons → zr, mem_zipIdx_iff_getElem? → zw, getD_eq_getElem?_getD → zy, any_eq_true → zD, getElem?_append_left → zL, getElem?_eq_getElem → zO, mem_range → zT, mem_cons → zU, mem_map → zY
open Nat renaming eq_of_beq_eq_true → zg, beq → zh, blt → zq, le_refl → zt, lt_or_ge → zQ, blt_eq → zV, le_of_lt → zX, add_zero → zZ
open Go.Result renaming andThen_ok → zj
open Prod.mk renaming injEq → zl
open Go.Sem renaming run_bind → zn, run_pure → zH
open Go.Extern.MathBitsCarry renaming m64 → zp, pair → zA
open Classical renaming byContradiction → zz
open Go.Oper renaming semAt_eq → zB, uponIn_value → zC
open Go.Region renaming binds → zF, ready → zG
open Go.Det.Ext renaming refl → zI
open Go.Fence renaming wide → zJ
open Go.Instr renaming checkKey → zK
open Option renaming isSome_iff_exists → zN, getD_some → zP
open Go.Code renaming region → zS
open PUnit renaming unit → zW
section
namespace Go.Det
noncomputable section
def CC(C:Ctx)(call:Cy)(fr:Fr)(h:H)(o:Oper):Option (V×H):=
 match EP C fr h o with
 |some (.val v h')=>some (v,h')
 |some (.skip h')=>some (.tup [],h')
 |some (.enter f args)=>match call (.fn f args) h with
  |some [x]=>some x
  |_=>none
 |_=>none
def BQ(o:Oper):Bool:= !Db o&& !BE o
structure Stat(ops:Array Oper)(anc:Nat→Nat→Bool)(ord pos:Nat→Nat)(sc:Nat→Option Nat):Prop where
 sel:Region.noSelect ops=true
 ordp:∀q,q<ops.size→ord q<ops.size∧pos (ord q)=q
 posp:∀i,i<ops.size→pos i<ops.size∧ord (pos i)=i
 edge:∀j i,anc j i=true→∃(o:Oper) (e:Edge),ops[j]?=some o∧e∈o.after∧zF .any e=true∧(e.on=i∨anc e.on i=true)
 dir:∀(j:Nat) (o:Oper) (e:Edge),ops[j]?=some o→e∈o.after→zF .any e=true→anc j e.on=true∧e.on<ops.size
 apos:∀j i,anc j i=true→pos i<pos j
 s1:∀(i j:Nat) (o o':Oper),ops[i]?=some o→ops[j]?=some o'→BQ o=true→BQ o'=true→i≠j→anc i j=true∨anc j i=true
 s2:∀(i j:Nat) (o o':Oper),ops[i]?=some o→ops[j]?=some o'→BQ o=true→Db o'=true→anc j i=true∨pos j<pos i
 q1:∀(i k:Nat),sc i=some k→∃(o ok:Oper) (t:Tmp),ops[i]?=some o∧ops[k]?=some ok∧(o.op=.assign (.tmp t)∨o.op=.move (.tmp t))∧o.guard=none∧BE ok=true∧ok.dst=some t∧anc i k=true
 s3:∀(j k:Nat) (o o':Oper) (t:Tmp),ops[j]?=some o→ops[k]?=some o'→(BE o=true∨(sc j).isSome=true)→BQ o'=false→o.dst=some t→t∈reads ops o'→anc k j=true→
  sc k=some j∨∃(i:Nat) (oi:Oper),ops[i]?=some oi∧BQ oi=true∧anc i j=true∧anc k i=true
 s4:∀(i j:Nat) (o o':Oper),ops[i]?=some o→ops[j]?=some o'→BQ o=true→BE o'=true→anc i j=true∨pos i<pos j
 s5:∀(i j:Nat) (o o':Oper),ops[i]?=some o→ops[j]?=some o'→Db o=true→Mw o=true→BE o'=true→pos j<pos i→∃(k:Nat) (ok:Oper),ops[k]?=some ok∧BQ ok=true∧pos j<pos k∧pos k<pos i
 s6:∀(i j:Nat) (o o':Oper) (t:Tmp),ops[i]?=some o→ops[j]?=some o'→i≠j→o.dst=some t→o'.dst≠some t∧(t∈reads ops o'→anc j i=true∨anc i j=true)
structure Canon(C:Ctx)(call:Cy)(ops:Array Oper)(anc:Nat→Nat→Bool)(ord pos:Nat→Nat)(fr0:Fr)(h0:H)(v:Nat→V)(Hh:Nat→H)(F:Nat→Fr):Prop where
 h0:Hh 0=h0
 f0:F 0=fr0
 fn:∀q,q≤ops.size→(F q).n=fr0.n
 fget:∀q,q<ops.size→∀(o:Oper),ops[ord q]?=some o→∀t,(F (q+1)).get t=if o.dst=some t then v (ord q)else(F q).get t
 dst:∀(i:Nat) (o:Oper) (t:Tmp),ops[i]?=some o→o.dst=some t→t<fr0.n
 step:∀(i:Nat) (o:Oper),ops[i]?=some o→
  (AR (F (pos i)) ops o=false∧v i=.tup []∧Hh (pos i+1)=Hh (pos i))∨
  (AR (F (pos i)) ops o=true∧
   ((Db o=true∧EP C (F (pos i)) (Hh (pos i)) o=some (.val (v i) (Hh (pos i)))∧Hh (pos i+1)=Hh (pos i))∨
    (BE o=true∧∃ob f,UD C (F (pos i)) o=some (ob,f)∧v i=f (Hh (pos i)).nx∧Hh (pos i+1)=(Hh (pos i)).push ob)∨
    (BQ o=true∧CC C call (F (pos i)) (Hh (pos i)) o=some (v i,Hh (pos i+1)))))
 stable:∀(i j:Nat) (o oj:Oper),ops[i]?=some o→ops[j]?=some oj→BQ o=true→Db oj=true→Mw oj=true→AR (F (pos j)) ops oj=true→pos j<pos i→anc i j=false→
  EP C (F (pos j)) (Hh (pos i+1)) oj=some (.val (v j) (Hh (pos i+1)))
theorem kinds(o:Oper):Db o=true∨BE o=true∨BQ o=true:=by
 unfold BQ;cases Db o<;>cases BE o<;>simp
theorem G6{o:Oper}(h:Db o=true):BE o=false:=by
 unfold Db at h;unfold BE;split at h<;>simp_all
theorem Li{o:Oper}(h:BQ o=true):Db o=false∧BE o=false:=by
 unfold BQ at h;simpa using h
section
variable {C:Ctx}{P:Program}{call:Cy}{ops:Array Oper}{anc:Nat→Nat→Bool}{ord pos:Nat→Nat}{sc:Nat→Option Nat}{fr0:Fr}{h0:H}{v:Nat→V}{Hh:Nat→H}{F:Nat→Fr}
theorem Fw(st:Stat ops anc ord pos sc)(cn:Canon C call ops anc ord pos fr0 h0 v Hh F){k:Nat}{o:Oper}{t:Tmp}(hk:ops[k]?=some o)(ht:o.dst=some t):
  ∀q,q≤ops.size→pos k<q→(F q).get t=v k
 |0,_,h=>by omega
 |q+1,hq,h=>by
  have hqn:q<ops.size:=by omega
  obtain⟨h1,h2⟩:=st.ordp q hqn;rw[cn.fget q hqn (ops[ord q]) (by simp[h1]) t];have hkn:=(zc.1 hk).1;by_cases e:pos k=q
  ·have e2:ord q=k:=by rw[←e];exact(st.posp k hkn).2
   have e3:ops[ord q]=o:=by have:=(zc.1 hk).2;simp only[e2];exact this
   rw[e3,if_pos ht,e2]
  ·have hne:ord q≠k:=fun e2=>e (by rw[←e2,h2])
   have:=(st.s6 k (ord q) o (ops[ord q]) t hk (by simp[h1]) (Ne.symm hne) ht).1;rw[if_neg this];exact Fw st cn hk ht q (by omega) (by omega)
theorem Fz(st:Stat ops anc ord pos sc)(cn:Canon C call ops anc ord pos fr0 h0 v Hh F){t:Tmp}:
  ∀q,q≤ops.size→(∀k o,ops[k]?=some o→o.dst=some t→¬pos k<q)→(F q).get t=fr0.get t
 |0,_,_=>by rw[cn.f0]
 |q+1,hq,h=>by
  have hqn:q<ops.size:=by omega
  obtain⟨h1,h2⟩:=st.ordp q hqn;rw[cn.fget q hqn (ops[ord q]) (by simp[h1]) t,if_neg]
  ·exact Fz st cn q (by omega) fun k o hk ht hlt=>h k o hk ht (by omega)
  ·intro ht;exact h (ord q) _ (by simp[h1]) ht (by omega)
theorem aJ(st:Stat ops anc ord pos sc)(cn:Canon C call ops anc ord pos fr0 h0 v Hh F){i k:Nat}(h:sc i=some k):v i=v k:=by
 obtain⟨o,ok,t,h1,h2,h3,h4,h5,h6,h7⟩:=st.q1 i k h;have hin:=(zc.1 h1).1;have hg:=Fw st cn h2 h6 (pos i) (zX (st.posp i hin).1) (st.apos i k h7);have hw:AR (F (pos i)) ops o=true:=by unfold AR;rw[h4]
 have hrd:Db o=true:=by unfold Db;rcases h3 with h3|h3<;>rw[h3]
 rcases cn.step i o h1 with⟨u,_⟩|⟨_,⟨_,u,_⟩|⟨u,_⟩|⟨u,_⟩⟩
 ·rw[hw]at u;cases u
 ·have:EP C (F (pos i)) (Hh (pos i)) o=some (.val ((F (pos i)).get t) (Hh (pos i))):=by
   rw[Ch];unfold Fb;rcases h3 with h3|h3<;>simp only[h3,ev,A6]
  rw[this,hg]at u;simp only[ze,OR.val.injEq]at u;exact u.1.symm
 ·rw[G6 hrd]at u;cases u
 ·rw[(Li u).1]at hrd;cases hrd
structure Inv(C:Ctx)(ops:Array Oper)(pos:Nat→Nat)(sc:Nat→Option Nat)(fr0:Fr)(v:Nat→V)(Hh:Nat→H)(F:Nat→Fr)(p0:Pl)(h0:H)(w0:World)(df:List Deferred)
  (S:Nat→Prop) (m:Nat) (fl:Nat→Nat) (p:Pl) (a:Act) (w:World):Prop where
 ext:Ext p0 h0 w0 p (Hh m) w
 gl:Gl C p
 mn:m≤ops.size
 mh:∀(k:Nat) (o:Oper),ops[k]?=some o→BQ o=true→(S k↔pos k<m)
 ma:∀(k:Nat) (o:Oper),ops[k]?=some o→BE o=true→pos k<m→S k
 sz:a.tmps.size=fr0.n
 df:a.defers=df
 slot:∀t,(∀(i:Nat) (o:Oper),S i→ops[i]?=some o→o.dst≠some t)→Aa p (fr0.get t) (a.tmps.getD t undef)
 slotw:∀(i:Nat) (o:Oper) (t:Tmp),S i→ops[i]?=some o→o.dst=some t→((BE o=true∨(sc i).isSome=true)→AR (F (pos i)) ops o=true→pos i<m)→Aa p (v i) (a.tmps.getD t undef)
 flt:∀(i:Nat) (o:Oper),S i→ops[i]?=some o→BE o=true→AR (F (pos i)) ops o=true→m≤pos i→
  ∃n x ob f v',UD C (F (pos i)) o=some (ob,f)∧w.heap[fl i]?=some x∧w0.heap.size≤fl i∧¬Im p (Hh m) (fl i)∧EE p n ob x∧
   (∀(q:Pl) b,q[b]?=some (fl i,n)→Aa q (f b) v')∧(∀t,o.dst=some t→a.tmps.getD t undef=v')
 inj:∀(i j:Nat) (o o':Oper),S i→S j→ops[i]?=some o→ops[j]?=some o'→BE o=true→BE o'=true→AR (F (pos i)) ops o=true→AR (F (pos j)) ops o'=true→
  m≤pos i→m≤pos j→fl i=fl j→i=j
structure JF(ops:Array Oper)(pos:Nat→Nat)(sc:Nat→Option Nat)(S:Nat→Prop)(m:Nat)(a:Act):Prop where
 eq:∀(i k:Nat) (o ok:Oper) (t tk:Tmp),S i→ops[i]?=some o→sc i=some k→ops[k]?=some ok→o.dst=some t→ok.dst=some tk→m≤pos i→a.tmps.getD t undef=a.tmps.getD tk undef∧S k
theorem Inv.eR(st:Stat ops anc ord pos sc)(cn:Canon C call ops anc ord pos fr0 h0 v Hh F){p0:Pl}{w0:World}{df:List Deferred}{S:Nat→Prop}{fl:Nat→Nat}{a:Act}{w:World}:
  ∀(d m:Nat) {p:Pl},Inv C ops pos sc fr0 v Hh F p0 h0 w0 df S m fl p a w→JF ops pos sc S m a→m+d≤ops.size→
  (∀q,m≤q→q<m+d→∀(o:Oper),ops[ord q]?=some o→BQ o=false∧(BE o=true→S (ord q)))→
  ∃p',Inv C ops pos sc fr0 v Hh F p0 h0 w0 df S (m+d) fl p' a w
 |0,m,p,hi,_,_,_=>⟨p,hi⟩
 |d+1,m,p,hi,h2f,hn,hq=>by
  have hm:m<ops.size:=by omega
  obtain⟨g1,g2⟩:=st.ordp m hm;obtain⟨o0,hj⟩:∃o0,ops[ord m]?=some o0:=⟨ops[ord m],by simp[g1]⟩;obtain⟨q1,q2⟩:=hq m (zt _) (by omega) _ hj;have one:∃p',Inv C ops pos sc fr0 v Hh F p0 h0 w0 df S (m+1) fl p' a w:=by
   have hmh:∀(k:Nat) (o:Oper),ops[k]?=some o→BQ o=true→(S k↔pos k<m+1):=by
    intro k o hk hv;rw[hi.mh k o hk hv];constructor
    ·intro h;omega
    ·intro h;by_cases e:pos k=m
     ·have hkn:=(zc.1 hk).1;have e2:ord m=k:=by rw[←e];exact(st.posp k hkn).2
      subst e2;rw[hj]at hk;cases hk;simp[q1]at hv
     ·omega
   have hma:∀(k:Nat) (o:Oper),ops[k]?=some o→BE o=true→pos k<m+1→S k:=by
    intro k o hk hal hlt;by_cases e:pos k=m
    ·have hkn:=(zc.1 hk).1;have e2:ord m=k:=by rw[←e];exact(st.posp k hkn).2
     subst e2;rw[hj]at hk;cases hk;exact q2 hal
    ·exact hi.ma k o hk hal (by omega)
   have same:Hh (m+1)=Hh m→(BE o0=true→AR (F (pos (ord m))) ops o0=false)→(AR (F (pos (ord m))) ops o0=false→v (ord m)=.tup [])→
     Inv C ops pos sc fr0 v Hh F p0 h0 w0 df S (m+1) fl p a w:=by
    intro hh hal _;refine⟨by rw[hh];exact hi.ext,hi.gl,by omega,hmh,hma,hi.sz,hi.df,hi.slot,fun i o t hs hi' ht hc=>?_,fun i o hs hi' ha hw hle=>?_,fun i j o o' hs hs' hi' hj' ha ha' hw hw' hle hle' he=>?_⟩
    ·by_cases hcp:(sc i).isSome=true∧pos i=m
     ·obtain⟨k,hk⟩:=zN.1 hcp.1;obtain⟨o2,ok,tk,h1,h2,h3,h4,h5,h6,h7⟩:=st.q1 i k hk;rw[hi']at h1;cases h1;obtain⟨e1,e2⟩:=h2f.eq i k o ok t tk hs hi' hk h2 ht h6 (by omega);rw[aJ st cn hk,e1];have:=st.apos _ _ h7;exact hi.slotw k ok tk e2 h2 h6 fun _ _=>by omega
     ·refine hi.slotw i o t hs hi' ht fun ha hw=>?_
      have h1:=hc ha hw;by_cases e:pos i=m
      ·have hin:=(zc.1 hi').1;have e2:ord m=i:=by rw[←e];exact(st.posp i hin).2
       subst e2;rw[hj]at hi';cases hi';rcases ha with ha|ha
       ·rw[hal ha]at hw;cases hw
       ·exact absurd ⟨ha,e⟩ hcp
      ·omega
    ·obtain⟨n,x,ob,f,v',k1,k2,k3,k4,k5⟩:=hi.flt i o hs hi' ha hw (by omega);exact⟨n,x,ob,f,v',k1,k2,k3,by rw[hh];exact k4,k5⟩
    ·exact hi.inj i j o o' hs hs' hi' hj' ha ha' hw hw' (by omega) (by omega) he
   rcases cn.step (ord m) _ hj with⟨u1,u2,u3⟩|⟨u1,⟨u2,u3,u4⟩|⟨u2,ob,f,u3,u4,u5⟩|⟨u2,u3⟩⟩
   ·rw[g2]at u3;exact⟨p,same u3 (fun _=>u1) (fun _=>u2)⟩
   ·rw[g2]at u4;exact⟨p,same u4 (fun h=>by rw[G6 u2]at h;cases h) (fun h=>by rw[u1]at h;cases h)⟩
   ·
    obtain⟨n,x,ob',f',v',k1,k2,k3,k4,k5,k6,k7⟩:=hi.flt (ord m) _ (q2 u2) hj u2 u1 (by omega);rw[u3]at k1;cases k1;rw[g2]at u4 u5;have hx:=hi.ext.We k2 k5 k4 k3;rw[←u5]at hx;have hnew:(p++[(fl (ord m),n)])[(Hh m).nx]?=some (fl (ord m),n):=by rw[←hi.ext.rel.len];simp
    have hv:Aa (p++[(fl (ord m),n)]) (v (ord m)) v':=by rw[u4];exact k6 _ _ hnew
    refine⟨p++[(fl (ord m),n)],hx,?_,by omega,hmh,hma,hi.sz,hi.df,fun t ht=>(hi.slot t ht).mono _,fun i o t hs hi' ht hc=>?_,fun i o hs hi' ha hw hle=>?_,fun i j o o' hs hs' hi' hj' ha ha' hw hw' hle hle' he=>?_⟩
    ·exact Gp.app hi.gl _
    ·by_cases e:i=ord m
     ·subst e;rw[hj]at hi';cases hi';rw[k7 t ht];exact hv
     ·refine(hi.slotw i o t hs hi' ht fun ha hw=>?_).mono _;have h1:=hc ha hw;have hin:=(zc.1 hi').1;have:pos i≠m:=fun e2=>e (by rw[←e2];exact(st.posp i hin).2.symm)
      omega
    ·obtain⟨n',x',ob',f',v'',l1,l2,l3,l4,l5,l6,l7⟩:=hi.flt i o hs hi' ha hw (by omega);refine⟨n',x',ob',f',v'',l1,l2,l3,?_,l5.mono _,l6,l7⟩;rintro⟨b,ob2,n2,m1,m2⟩;rw[u5,H.Bd]at m1;by_cases e:b=(Hh m).nx
     ·subst e;rw[hnew]at m2;have:fl (ord m)=fl i:=(Prod.mk.inj (Option.some.inj m2)).1;have:=hi.inj (ord m) i _ o (q2 u2) hs hj hi' u2 ha u1 hw (by omega) (by omega) this;subst this;omega
     ·rw[if_neg e]at m1;have hb:=hi.ext.rel.lt m1;rw[zL (by rw[hi.ext.rel.len];exact hb)]at m2;exact l4 ⟨b,ob2,n2,m1,m2⟩
    ·exact hi.inj i j o o' hs hs' hi' hj' ha ha' hw hw' (by omega) (by omega) he
   ·rw[q1]at u2;cases u2
  obtain⟨p',hi'⟩:=one;obtain⟨p'',hi''⟩:=Inv.eR st cn d (m+1) hi' ⟨fun i k o ok t tk g1 g2 g3 g4 g5 g6 g7=>h2f.eq i k o ok t tk g1 g2 g3 g4 g5 g6 (by omega)⟩ (by omega) (fun q h1 h2=>hq q (by omega) (by omega));exact⟨p'',by rw[show m+(d+1)=m+1+d from by omega];exact hi''⟩
end
end
end Go.Det
end
section
namespace Go.Det
noncomputable section
section
variable {C:Ctx}{P:Program}{call:Cy}{ops:Array Oper}{anc:Nat→Nat→Bool}{ord pos:Nat→Nat}{sc:Nat→Option Nat}{fr0:Fr}{h0:H}{v:Nat→V}{Hh:Nat→H}{F:Nat→Fr}
 {p0:Pl} {w0:World} {df:List Deferred} {S:Nat→Prop} {m:Nat} {fl:Nat→Nat} {p:Pl} {a:Act} {w:World}
structure No(anc:Nat→Nat→Bool)(S:Nat→Prop)(i:Nat):Prop where
 fresh:¬S i
 all:∀k,anc i k=true→S k
def Down(anc:Nat→Nat→Bool)(S:Nat→Prop):Prop:=∀i k,S i→anc i k=true→S k
theorem operands(st:Stat ops anc ord pos sc)(cn:Canon C call ops anc ord pos fr0 h0 v Hh F)(hi:Inv C ops pos sc fr0 v Hh F p0 h0 w0 df S m fl p a w)(hd:Down anc S){i:Nat}{o:Oper}(ho:ops[i]?=some o)(hr:No anc S i)
  (hfl:∀(k:Nat) (ok:Oper) (t:Tmp),ops[k]?=some ok→(BE ok=true∨(sc k).isSome=true)→ok.dst=some t→t∈reads ops o→anc i k=true→pos k<m):bU p (F (pos i)) a (reads ops o):=by
 have hin:=(zc.1 ho).1;have hpn:=(st.posp i hin).1;refine⟨by rw[cn.fn _ (by omega),hi.sz],fun t ht=>?_⟩;by_cases hw:∃(k:Nat) (ok:Oper),k≠i∧ops[k]?=some ok∧ok.dst=some t
 ·obtain⟨k,ok,hne,hk,hkt⟩:=hw;rcases(st.s6 k i ok o t hk ho hne hkt).2 ht with h1|h1
  ·have hkS:=hr.all k h1;rw[Fw st cn hk hkt (pos i) (by omega) (st.apos i k h1)];exact hi.slotw k ok t hkS hk hkt fun ha _=>hfl k ok t hk ha hkt ht h1
  ·have hkS:¬S k:=fun h=>hr.fresh (hd k i h h1)
   have hno:∀(j:Nat) (oj:Oper),ops[j]?=some oj→oj.dst=some t→j=k:=by
    intro j oj hj hjt;by_cases e:j=k
    ·exact e
    ·exact absurd hjt (st.s6 k j ok oj t hk hj (fun h=>e h.symm) hkt).1
   rw[Fz st cn (pos i) (by omega) fun j oj hj hjt hlt=>by
    have:=hno j oj hj hjt;subst this;have:=st.apos _ _ h1;omega]
   refine hi.slot t fun j oj hS hj hjt=>?_
   have:=hno j oj hj hjt;subst this;exact hkS hS
 ·have hno:∀(j:Nat) (oj:Oper),ops[j]?=some oj→oj.dst=some t→j=i:=by
   intro j oj hj hjt;by_cases e:j=i
   ·exact e
   ·exact absurd ⟨j,oj,e,hj,hjt⟩ hw
  rw[Fz st cn (pos i) (by omega) fun j oj hj hjt hlt=>by
   have:=hno j oj hj hjt;subst this;omega]
  refine hi.slot t fun j oj hS hj hjt=>?_
  have:=hno j oj hj hjt;subst this;exact hr.fresh hS
def Rest(ops:Array Oper)(pos:Nat→Nat)(S:Nat→Prop)(m:Nat):Prop:=m=0∨∃(k:Nat) (o:Oper),ops[k]?=some o∧BQ o=true∧S k∧m=pos k+1
theorem My(st:Stat ops anc ord pos sc)(hd:Down anc S)(hi:Inv C ops pos sc fr0 v Hh F p0 h0 w0 df S m fl p a w)(hrest:Rest ops pos S m){k:Nat}{o:Oper}(hk:ops[k]?=some o)(hr:¬S k):
  m≤pos k∨∃(i:Nat) (oi:Oper),ops[i]?=some oi∧BQ oi=true∧S i∧m=pos i+1∧pos k<pos i∧anc i k=false:=by
 by_cases hlt:m≤pos k
 ·exact .inl hlt
 ·right;rcases hrest with rfl|⟨i,oi,h1,h2,h3,h4⟩
  ·omega
  ·refine⟨i,oi,h1,h2,h3,h4,?_,?_⟩
   ·have hne:k≠i:=fun e=>hr (e▸h3)
    have hkn:=(zc.1 hk).1;have hin:=(zc.1 h1).1;have:pos k≠pos i:=fun e=>hne (by rw[←(st.posp k hkn).2,e,(st.posp i hin).2])
    omega
   ·cases hc:anc i k with
    |false=>rfl
    |true=>exact absurd (hd i k h3 hc) hr
theorem Lz(st:Stat ops anc ord pos sc)(hi:Inv C ops pos sc fr0 v Hh F p0 h0 w0 df S m fl p a w){i:Nat}{o:Oper}(ho:ops[i]?=some o)(hr:No anc S i)(hnal:BE o=false){k:Nat}{ok:Oper}(hk:ops[k]?=some ok)
  (hv:BQ ok=true) (h1:m≤pos k) (h2:pos k<pos i):False:=by
 have hkS:¬S k:=fun h=>by have:=(hi.mh k ok hk hv).1 h;omega
 have hne:k≠i:=fun e=>by subst e;omega
 rcases kinds o with h|h|h
 ·rcases st.s2 k i ok o hk ho hv h with h3|h3
  ·exact hkS (hr.all k h3)
  ·omega
 ·rw[hnal]at h;cases h
 ·rcases st.s1 k i ok o hk ho hv h hne with h3|h3
  ·have:=st.apos _ _ h3;omega
  ·exact hkS (hr.all k h3)
theorem Rt(st:Stat ops anc ord pos sc)(cn:Canon C call ops anc ord pos fr0 h0 v Hh F)(hd:Down anc S)(hi:Inv C ops pos sc fr0 v Hh F p0 h0 w0 df S m fl p a w)(hrest:Rest ops pos S m){i:Nat}{o:Oper}(ho:ops[i]?=some o)
  (hr:No anc S i) (hk:Db o=true) (hwd:AR (F (pos i)) ops o=true) (hdop:EP C (F (pos i)) (Hh (pos i)) o=some (.val (v i) (Hh (pos i)))):EP C (F (pos i)) (Hh m) o=some (.val (v i) (Hh m)):=by
 have hnal:=G6 hk;cases hhd:Mw o with
 |false=>exact Vp hk hhd hdop _
 |true=>
  rcases My st hd hi hrest ho hr.fresh with hle|⟨k,ok,h1,h2,h3,h4,h5,h6⟩
  ·have hin:=(zc.1 ho).1;have hpn:=(st.posp i hin).1;have key:∀d,m+d≤pos i→Hh (m+d)=Hh m:=by
    intro d;induction d with
    |zero=>intro _;rfl
    |succ d ih=>
     intro hle';have h7:=ih (by omega);obtain⟨g1,g2⟩:=st.ordp (m+d) (by omega);obtain⟨oq,hq⟩:∃oq,ops[ord (m+d)]?=some oq:=⟨ops[ord (m+d)],by simp[g1]⟩;rw[←h7,show m+(d+1)=m+d+1 from by omega];rcases cn.step _ oq hq with⟨_,_,u⟩|⟨_,⟨_,_,u⟩|⟨u1,_⟩|⟨u1,_⟩⟩
     ·rwa [g2]at u
     ·rwa [g2]at u
     ·obtain⟨k,ok,k1,k2,k3,k4⟩:=st.s5 i _ o oq ho hq hk hhd u1 (by rw[g2];omega);rw[g2]at k3;exact(Lz st hi ho hr hnal k1 k2 (by omega) k4).elim
     ·exact(Lz st hi ho hr hnal hq u1 (by rw[g2];omega) (by rw[g2];omega)).elim
   have:=key (pos i-m) (by omega);rw[show m+(pos i-m)=pos i from by omega]at this;rw[this]at hdop;exact hdop
  ·rw[h4];exact cn.stable k i ok o h1 ho h2 hk hhd hwd h5 h6
theorem CO{a:Act}{d:Option Tmp}{x:Value}{t:Tmp}(h:d≠some t):(a.put d x).tmps.getD t undef=a.tmps.getD t undef:=by
 cases d with
 |none=>rfl
 |some s=>
  have:s≠t:=fun e=>h (by rw[e])
  simp only[Act.put,zi];rw[Array.getElem?_setIfInBounds_ne this]
theorem DT{a:Act}{x:Value}{t:Tmp}(h:t<a.tmps.size):(a.put (some t) x).tmps.getD t undef=x:=by
 simp[Act.put,h]
theorem MB{a:Act}{d:Option Tmp}{x:Value}:(a.put d x).tmps.size=a.tmps.size:=by cases d<;>simp[Act.put]
theorem Mb{a:Act}{d:Option Tmp}{x:Value}:(a.put d x).defers=a.defers:=by cases d<;>rfl
theorem JF.put(st:Stat ops anc ord pos sc){S:Nat→Prop}{m m':Nat}{a:Act}(h2:JF ops pos sc S m a){i:Nat}{o:Oper}(ho:ops[i]?=some o)(hfresh:¬S i)(hr:No anc S i){x:Value}(hm:m≤m')
  (hc:∀(k:Nat) (ok:Oper) (t tk:Tmp),sc i=some k→ops[k]?=some ok→o.dst=some t→ok.dst=some tk→m'≤pos i→(a.put o.dst x).tmps.getD t undef=a.tmps.getD tk undef):
  JF ops pos sc (fun k=>S k∨k=i) m' (a.put o.dst x):=by
 refine⟨fun j k oj ok t tk g1 g2 g3 g4 g5 g6 g7=>?_⟩;obtain⟨o1,o2,t2,q1,q2,q3,q4,q5,q6,q7⟩:=st.q1 j k g3;rw[g4]at q2;cases q2;rw[g6]at q6;cases q6;by_cases e:j=i
 ·subst e;rw[ho]at g2;cases g2;have hk:S k:=hr.all k q7;refine⟨?_,.inl hk⟩;rw[hc k ok t tk g3 g4 g5 g6 g7];have hne:k≠j:=fun e=>hfresh (e▸hk)
  have:o.dst≠some tk:=(st.s6 k j ok o tk g4 ho hne g6).1;rw[CO this]
 ·have hj:=g1.resolve_right e;obtain⟨e1,e2⟩:=h2.eq j k oj ok t tk hj g2 g3 g4 g5 g6 (by omega);have hki:k≠i:=fun h=>hfresh (h▸e2)
  have d1:o.dst≠some t:=(st.s6 j i oj o t g2 ho e g5).1;have d2:o.dst≠some tk:=(st.s6 k i ok o tk g4 ho hki g6).1;rw[CO d1,CO d2];exact⟨e1,.inl e2⟩
theorem Inv.quiet(st:Stat ops anc ord pos sc)(cn:Canon C call ops anc ord pos fr0 h0 v Hh F)(hi:Inv C ops pos sc fr0 v Hh F p0 h0 w0 df S m fl p a w){i:Nat}{o:Oper}(ho:ops[i]?=some o)(hfresh:¬S i)(hnhv:BQ o=false)
  (hna:BE o=true→AR (F (pos i)) ops o=false) {x:Value} (hx:((sc i).isSome=true→AR (F (pos i)) ops o=true→pos i<m)→Aa p (v i) x):Inv C ops pos sc fr0 v Hh F p0 h0 w0 df (fun k=>S k∨k=i) m fl p (a.put o.dst x) w:=by
 have hdst:∀(k:Nat) (ok:Oper) (t:Tmp),k≠i→ops[k]?=some ok→ok.dst=some t→o.dst≠some t:=fun k ok t hne hk ht=>(st.s6 k i ok o t hk ho hne ht).1
 refine⟨hi.ext,hi.gl,hi.mn,fun k ok hk hv=>?_,fun k ok hk hal hlt=>.inl (hi.ma k ok hk hal hlt),by rw[MB,hi.sz],by rw[Mb,hi.df],fun t ht=>?_,fun k ok t hS hk ht hc=>?_,fun k ok hS hk ha hw hle=>?_,
  fun k j ok oj hS hS' hk hj ha ha' hw hw' hle hle' he=>?_⟩
 ·rw[←hi.mh k ok hk hv];refine⟨fun h=>h.elim id fun e=>?_,.inl⟩;subst e;rw[ho]at hk;cases hk;rw[hnhv]at hv;cases hv
 ·have h1:o.dst≠some t:=ht i o (.inr rfl) ho;rw[CO h1];exact hi.slot t fun k ok hS hk=>ht k ok (.inl hS) hk
 ·by_cases e:k=i
  ·subst e;rw[ho]at hk;cases hk;rw[ht,DT (by rw[hi.sz];exact cn.dst k o t ho ht)];exact hx fun h1 h2=>hc (.inr h1) h2
  ·rw[CO (hdst k ok t e hk ht)];exact hi.slotw k ok t (hS.resolve_right e) hk ht hc
 ·have e:k≠i:=by
   rintro rfl;rw[ho]at hk;cases hk;rw[hna ha]at hw;cases hw
  obtain⟨n,y,ob,f,v',k1,k2,k3,k4,k5,k6,k7⟩:=hi.flt k ok (hS.resolve_right e) hk ha hw hle;exact⟨n,y,ob,f,v',k1,k2,k3,k4,k5,k6,fun t ht=>by rw[CO (hdst k ok t e hk ht)];exact k7 t ht⟩
 ·have e:k≠i:=by
   rintro rfl;rw[ho]at hk;cases hk;rw[hna ha]at hw;cases hw
  have e':j≠i:=by
   rintro rfl;rw[ho]at hj;cases hj;rw[hna ha']at hw';cases hw'
  exact hi.inj k j ok oj (hS.resolve_right e) (hS'.resolve_right e') hk hj ha ha' hw hw' hle hle' he
theorem Inv.made(st:Stat ops anc ord pos sc)(hi:Inv C ops pos sc fr0 v Hh F p0 h0 w0 df S m fl p a w){i:Nat}{o:Oper}(ho:ops[i]?=some o)(hal:BE o=true)(hwd:AR (F (pos i)) ops o=true)(hle:m≤pos i)
  (cn:Canon C call ops anc ord pos fr0 h0 v Hh F) {ob:O} {f:Nat→V} (hdal:UD C (F (pos i)) o=some (ob,f)) {x:Obj} {n:Nat} {v':Value} (hx:EE p n ob x) (hv:∀(q:Pl) b,q[b]?=some (w.heap.size,n)→Aa q (f b) v'):
  Inv C ops pos sc fr0 v Hh F p0 h0 w0 df (fun k=>S k∨k=i) m (fun k=>if k=i then w.heap.size else fl k) p (a.put o.dst v') { w with heap:=w.heap.push x }:=by
 have hdst:∀(k:Nat) (ok:Oper) (t:Tmp),k≠i→ops[k]?=some ok→ok.dst=some t→o.dst≠some t:=fun k ok t hne hk ht=>(st.s6 k i ok o t hk ho hne ht).1
 have hnhv:BQ o=false:=by simp[BQ,hal]
 refine⟨hi.ext.aside x,hi.gl,hi.mn,fun k ok hk hv=>?_,fun k ok hk hal hlt=>.inl (hi.ma k ok hk hal hlt),by rw[MB,hi.sz],by rw[Mb,hi.df],fun t ht=>?_,fun k ok t hS hk ht hc=>?_,fun k ok hS hk ha hw hle=>?_,
  fun k j ok oj hS hS' hk hj ha ha' hw hw' hle hle' he=>?_⟩
 ·rw[←hi.mh k ok hk hv];refine⟨fun h=>h.elim id fun e=>?_,.inl⟩;subst e;rw[ho]at hk;cases hk;rw[hnhv]at hv;cases hv
 ·have h1:o.dst≠some t:=ht i o (.inr rfl) ho;rw[CO h1];exact hi.slot t fun k ok hS hk=>ht k ok (.inl hS) hk
 ·by_cases e:k=i
  ·subst e;rw[ho]at hk;cases hk;have:=hc (.inl hal) hwd;omega
  ·rw[CO (hdst k ok t e hk ht)];exact hi.slotw k ok t (hS.resolve_right e) hk ht hc
 ·by_cases e:k=i
  ·subst e;rw[ho]at hk;cases hk;refine⟨n,x,ob,f,v',hdal,by simp,by simpa using hi.ext.size,fun hIm=>?_,hx,by simpa using hv,fun t ht=>?_⟩
   ·have:=hi.ext.rel.RW hIm;simp at this
   ·rw[ht,DT (by rw[hi.sz];exact cn.dst k o t ho ht)]
  ·obtain⟨n',y,ob',f',v'',k1,k2,k3,k4,k5,k6,k7⟩:=hi.flt k ok (hS.resolve_right e) hk ha hw hle;have hlt:=(zc.1 k2).1;refine⟨n',y,ob',f',v'',k1,?_,by simpa [e]using k3,by simpa [e]using k4,k5,by simpa [e]using k6,fun t ht=>by rw[CO (hdst k ok t e hk ht)];exact k7 t ht⟩;simp only[e,if_false,Array.getElem?_push];rw[if_neg (by omega)];exact k2
 ·by_cases e:k=i<;>by_cases e':j=i
  ·rw[e,e']
  ·obtain⟨_,_,_,_,_,_,k2,_⟩:=hi.flt j oj (hS'.resolve_right e') hj ha' hw' hle';have hlt:=(zc.1 k2).1;simp only[e,if_true,e',if_false]at he;omega
  ·obtain⟨_,_,_,_,_,_,k2,_⟩:=hi.flt k ok (hS.resolve_right e) hk ha hw hle;have hlt:=(zc.1 k2).1;simp only[e,if_false,e',if_true]at he;omega
  ·simp only[e,if_false,e']at he;exact hi.inj k j ok oj (hS.resolve_right e) (hS'.resolve_right e') hk hj ha ha' hw hw' hle hle' he
end
end
end Go.Det
end
section
namespace Go.Det
noncomputable section
section
variable {C:Ctx}{P:Program}{call:Cy}{ops:Array Oper}{anc:Nat→Nat→Bool}{ord pos:Nat→Nat}{sc:Nat→Option Nat}{fr0:Fr}{h0:H}{v:Nat→V}{Hh:Nat→H}{F:Nat→Fr}
 {p0:Pl} {w0:World} {df:List Deferred} {S:Nat→Prop} {m:Nat} {fl:Nat→Nat} {p:Pl} {a:Act} {w:World}
theorem Inv.wrote(st:Stat ops anc ord pos sc)(cn:Canon C call ops anc ord pos fr0 h0 v Hh F){i:Nat}{o:Oper}(hi:Inv C ops pos sc fr0 v Hh F p0 h0 w0 df S (pos i) fl p a w)(ho:ops[i]?=some o)(hhv:BQ o=true)(hfresh:¬S i)
  {p':Pl} {w':World} {x:Value} (he:Ext p (Hh (pos i)) w p' (Hh (pos i+1)) w') (hx:Aa p' (v i) x):
  Inv C ops pos sc fr0 v Hh F p0 h0 w0 df (fun k=>S k∨k=i) (pos i+1) fl p' (a.put o.dst x) w':=by
 have hdst:∀(k:Nat) (ok:Oper) (t:Tmp),k≠i→ops[k]?=some ok→ok.dst=some t→o.dst≠some t:=fun k ok t hne hk ht=>(st.s6 k i ok o t hk ho hne ht).1
 obtain⟨hnr,hnal⟩:=Li hhv;have hin:=(zc.1 ho).1;have hpi:∀ {k:Nat} {ok:Oper},ops[k]?=some ok→pos k=pos i→k=i:=fun {k ok} hk e=>by
  have hkn:=(zc.1 hk).1;rw[←(st.posp k hkn).2,e,(st.posp i hin).2]
 refine⟨hi.ext.trans he,hi.gl.ext he,(st.posp i hin).1,fun k ok hk hv=>?_,fun k ok hk hal hlt=>?_,by rw[MB,hi.sz],by rw[Mb,hi.df],fun t ht=>?_,fun k ok t hS hk ht hc=>?_,fun k ok hS hk ha hw hle=>?_,
  fun k j ok oj hS hS' hk hj ha ha' hw hw' hle hle' hfe=>?_⟩
 ·constructor
  ·rintro(h|rfl)
   ·have:=(hi.mh k ok hk hv).1 h;omega
   ·omega
  ·intro h;by_cases e:pos k=pos i
   ·exact .inr (hpi hk e)
   ·exact .inl ((hi.mh k ok hk hv).2 (by omega))
 ·by_cases e:pos k=pos i
  ·exact .inr (hpi hk e)
  ·exact .inl (hi.ma k ok hk hal (by omega))
 ·have h1:o.dst≠some t:=ht i o (.inr rfl) ho;rw[CO h1];exact he.WM (hi.slot t fun k ok hS hk=>ht k ok (.inl hS) hk)
 ·by_cases e:k=i
  ·subst e;rw[ho]at hk;cases hk;rw[ht,DT (by rw[hi.sz];exact cn.dst k o t ho ht)];exact hx
  ·rw[CO (hdst k ok t e hk ht)];refine he.WM (hi.slotw k ok t (hS.resolve_right e) hk ht fun h1 h2=>?_);have:=hc h1 h2;have h3:pos k≠pos i:=fun e2=>e (hpi hk e2)
   omega
 ·have e:k≠i:=by
   rintro rfl;omega
  obtain⟨n,y,ob,f,v',k1,k2,k3,k4,k5,k6,k7⟩:=hi.flt k ok (hS.resolve_right e) hk ha hw (by omega);have hlt:=(zc.1 k2).1;obtain⟨q,rfl⟩:=he.pre;refine⟨n,y,ob,f,v',k1,by rw[he.same _ hlt k4];exact k2,k3,fun hIm=>?_,k5.mono _,k6,fun t ht=>by rw[CO (hdst k ok t e hk ht)];exact k7 t ht⟩;rcases he.im _ hIm with h|h
  ·exact k4 h
  ·omega
 ·have e:k≠i:=by rintro rfl;omega
  have e':j≠i:=by rintro rfl;omega
  exact hi.inj k j ok oj (hS.resolve_right e) (hS'.resolve_right e') hk hj ha ha' hw hw' (by omega) (by omega) hfe
theorem Inv.along(hi:Inv C ops pos sc fr0 v Hh F p0 h0 w0 df S m fl p a w){p':Pl}{w':World}(he:Ext p (Hh m) w p' (Hh m) w'):Inv C ops pos sc fr0 v Hh F p0 h0 w0 df S m fl p' a w':=by
 refine⟨hi.ext.trans he,hi.gl.ext he,hi.mn,hi.mh,hi.ma,hi.sz,hi.df,fun t ht=>he.WM (hi.slot t ht),fun i o t h1 h2 h3 h4=>he.WM (hi.slotw i o t h1 h2 h3 h4),fun k ok hS hk ha hw hle=>?_,hi.inj⟩;obtain⟨n,y,ob,f,v',k1,k2,k3,k4,k5,k6,k7⟩:=hi.flt k ok hS hk ha hw hle;have hlt:=(zc.1 k2).1;obtain⟨q,rfl⟩:=he.pre;refine⟨n,y,ob,f,v',k1,by rw[he.same _ hlt k4];exact k2,k3,fun hIm=>?_,k5.mono _,k6,k7⟩;rcases he.im _ hIm with h|h
 ·exact k4 h
 ·omega
theorem UH{o:Oper}(h:BE o=true):∀c,o.op≠ .defer c:=by
 intro c e;unfold BE at h;rw[e]at h;cases h
theorem up(hC:C.Ok P)(hcall:call.Ok C P)(st:Stat ops anc ord pos sc)(cn:Canon C call ops anc ord pos fr0 h0 v Hh F)(hi:Inv C ops pos sc fr0 v Hh F p0 h0 w0 df S m fl p a w)(h2f:JF ops pos sc S m a)(hd:Down anc S)(hrest:Rest ops pos S m)
  {i:Nat} {o:Oper} (ho:ops[i]?=some o) (hr:No anc S i) {Q:Exit→Act→World→Prop} {K:Act→World→Prop}
  (hK:∀m' fl' p' a' w',Inv C ops pos sc fr0 v Hh F p0 h0 w0 df (fun k=>S k∨k=i) m' fl' p' a' w'→JF ops pos sc (fun k=>S k∨k=i) m' a'→Rest ops pos (fun k=>S k∨k=i) m'→K a' w') {ro:Option Nat} {nn:Nat}:wpOpIn (FW ro) nn P ops Q i K a w:=by
 have hin:=(zc.1 ho).1;have hsel:∀cs b,o.op≠ .select cs b:=fun cs b=>Region.noSelect_spec st.sel i o cs b ho
 have hrest':Rest ops pos (fun k=>S k∨k=i) m:=by
  rcases hrest with h|⟨k,ok,h1,h2,h3,h4⟩
  ·exact .inl h
  ·exact .inr ⟨k,ok,h1,h2,.inl h3,h4⟩
 unfold wpOpIn;simp only[ho];cases hhv:BQ o with
 |false=>
  by_cases hcp:(sc i).isSome=true∧m≤pos i
  ·
   obtain⟨k,hk⟩:=zN.1 hcp.1;obtain⟨o2,ok,t,q1,q2,q3,q4,q5,q6,q7⟩:=st.q1 i k hk;rw[ho]at q1;cases q1;have hw:Region.wanted o (yielded ops a.tmps)=true:=by unfold Region.wanted;rw[q4]
   simp only[hw,if_true];refine⟨fun _ _=>trivial,?_⟩;have hrun:(execOp a.eval o).run P w=.ok (.value (a.tmps.getD t undef)) w:=by
    unfold execOp;rcases q3 with q3|q3<;>simp[q3,Act.eval]
   rw[zB _ _ _ (fun c hc=>by rcases q3 with q3|q3<;>rw[q3]at hc<;>cases hc),hrun,zC];have hnal:BE o=false:=by unfold BE;rcases q3 with q3|q3<;>rw[q3]
   refine hK m fl p _ w (hi.quiet st cn ho hr.fresh hhv (fun h=>by rw[hnal]at h;cases h) (fun h=>by have:=h hcp.1 (by unfold AR;rw[q4]);omega)) (h2f.put st ho hr.fresh hr (zt _) fun k' ok' t' tk h1 h2 h3 h4 _=>?_) hrest';rw[hk]at h1;cases h1;rw[q2]at h2;cases h2;rw[q6]at h4;cases h4;rw[h3,DT (by rw[hi.sz];exact cn.dst i o t' ho h3)]
  have hcp':∀k,sc i=some k→pos i<m:=fun k hk=>by
   rcases zQ (pos i) m with h|h
   ·exact h
   ·exact absurd ⟨by rw[hk];rfl,h⟩ hcp
  have hfl:∀(k:Nat) (ok:Oper) (t:Tmp),ops[k]?=some ok→(BE ok=true∨(sc k).isSome=true)→ok.dst=some t→t∈reads ops o→anc i k=true→pos k<m:=by
   intro k ok t hk hal hkt ht hanc;rcases st.s3 k i ok o t hk ho hal hhv hkt ht hanc with h|⟨j,oj,j1,j2,j3,j4⟩
   ·have:=hcp' k h;have:=st.apos _ _ hanc;omega
   ·have:=(hi.mh j oj j1 j2).1 (hr.all j j4);have:=st.apos _ _ j3;omega
  have h2n:∀x,JF ops pos sc (fun k=>S k∨k=i) m (a.put o.dst x):=fun x=>h2f.put st ho hr.fresh hr (zt _) fun k ok t tk h1 _ _ _ h5=>by have:=hcp' k h1;omega
  have hon:=operands st cn hi hd ho hr hfl;rw[Nb hon];rcases cn.step i o ho with⟨u1,u2,u3⟩|⟨u1,u⟩
  ·simp only[u1,zu,if_false];refine⟨fun _ _=>trivial,?_⟩;exact hK m fl p _ w (hi.quiet st cn ho hr.fresh hhv (fun _=>u1) (fun _=>by rw[u2];simp[Aa,undef])) (h2n _) hrest'
  ·simp only[u1,if_true];refine⟨fun _ _=>trivial,?_⟩;rcases u with⟨u2,u3,u4⟩|⟨u2,ob,f,u3,u4,u5⟩|⟨u2,u3⟩
   ·have hdop:=Rt st cn hd hi hrest ho hr u2 u1 u3;obtain⟨v',p',w',g1,g2,g3⟩:=Hg hC hi.ext.rel hi.gl hon hsel hdop;rw[zB _ _ _ (EU hdop),g1,zC];have hi2:=hi.along g3;exact hK m fl p' _ w' (hi2.quiet st cn ho hr.fresh hhv (fun h=>by rw[G6 u2]at h;cases h) fun _=>g2) (h2n _) hrest'
   ·have hle:m≤pos i:=by
     rcases My st hd hi hrest ho hr.fresh with h|⟨k,ok,h1,h2,h3,h4,h5,h6⟩
     ·exact h
     ·rcases st.s4 k i ok o h1 ho h2 u2 with h7|h7
      ·rw[h6]at h7;cases h7
      ·omega
    obtain⟨x,n,v',g1,g2,g3⟩:=aT (P:=P) hC hi.gl hon u3;rw[zB _ _ _ (UH u2),g1,zC];exact hK m _ p _ _ (hi.made st ho u2 u1 hle cn u3 g2 g3) (h2n _) hrest'
   ·rw[hhv]at u2;cases u2
 |true=>
  obtain⟨hnr,hnal⟩:=Li hhv;have hle:m≤pos i:=by
   rcases zQ (pos i) m with h|h
   ·exact absurd ((hi.mh i o ho hhv).2 h) hr.fresh
   ·exact h
  have hpn:=(st.posp i hin).1;obtain⟨p1,hi1⟩:=Inv.eR st cn (pos i-m) m hi h2f (by omega) (fun q h1 h2 oq hq=>by
   obtain⟨g1,g2⟩:=st.ordp q (by omega);refine⟨?_,fun hal=>?_⟩
   ·cases hv:BQ oq with
    |false=>rfl
    |true=>exact(Lz st hi ho hr hnal hq hv (by rw[g2];omega) (by rw[g2];omega)).elim
   ·rcases st.s4 i (ord q) o oq ho hq hhv hal with h3|h3
    ·exact hr.all _ h3
    ·rw[g2]at h3;omega)
  rw[show m+(pos i-m)=pos i from by omega]at hi1;have hon:=operands st cn hi1 hd ho hr fun k ok t hk hal _ _ hanc=>st.apos _ _ hanc
  have h2n:∀x,JF ops pos sc (fun k=>S k∨k=i) (pos i+1) (a.put o.dst x):=fun x=>h2f.put st ho hr.fresh hr (by omega) fun k ok t tk _ _ _ _ h5=>by omega
  rw[Nb hon];have hrest2:Rest ops pos (fun k=>S k∨k=i) (pos i+1):=.inr ⟨i,o,ho,hhv,.inr rfl,rfl⟩;rcases cn.step i o ho with⟨u1,u2,u3⟩|⟨u1,u⟩
  ·simp only[u1,zu,if_false];refine⟨fun _ _=>trivial,?_⟩;have he:Ext p1 (Hh (pos i)) w p1 (Hh (pos i+1)) w:=by rw[u3];exact zI hi1.ext.rel
   exact hK _ _ _ _ _ (hi1.wrote st cn ho hhv hr.fresh he (by rw[u2];simp[Aa,undef])) (h2n _) hrest2
  ·simp only[u1,if_true];refine⟨fun _ _=>trivial,?_⟩;rcases u with⟨u2,u3,u4⟩|⟨u2,ob,f,u3,u4,u5⟩|⟨u2,u3⟩
   ·rw[hnr]at u2;cases u2
   ·rw[hnal]at u2;cases u2
   ·unfold CC at u3;split at u3
    case h_4=>cases u3
    case h_1=>
     rename_i vv hh hop;simp only[ze,zl]at u3;obtain⟨rfl,rfl⟩:=u3;obtain⟨v',p',w',g1,g2,g3⟩:=Hg hC hi1.ext.rel hi1.gl hon hsel hop;rw[zB _ _ _ (EU hop),g1,zC];exact hK _ _ _ _ _ (hi1.wrote st cn ho hhv hr.fresh g3 g2) (h2n _) hrest2
    case h_2=>
     rename_i hh hop;simp only[ze,zl]at u3;obtain⟨u4,rfl⟩:=u3;obtain⟨p',w',g1,g3⟩:=Hg hC hi1.ext.rel hi1.gl hon hsel hop;rw[zB _ _ _ (EU hop),g1,Oper.uponIn_skip];exact hK _ _ _ _ _ (hi1.wrote st cn ho hhv hr.fresh g3 (by rw[←u4];simp[Aa,undef])) (h2n _) hrest2
    case h_3=>
     rename_i f args hop;obtain⟨args',g1,g2⟩:=Hg hC hi1.ext.rel hi1.gl hon hsel hop;rw[zB _ _ _ (EU hop),g1,Oper.uponIn_enter];split at u3
     case h_2=>cases u3
     rename_i x1 x2 hcl;cases u3;refine⟨fun h=>(by simp[FW,zJ]at h),Rn.2 ((hcall.fn f args _ _ hcl p1 w args' hi1.ext.rel hi1.gl g2).mono ?_)⟩;rintro e w' ⟨v',h',x',p',hm,rfl,k1,k2⟩;rw[zf]at hm;cases hm;exact hK _ _ _ _ _ (hi1.wrote st cn ho hhv hr.fresh k2 k1) (h2n _) hrest2
theorem Inv.congr{S':Nat→Prop}(h:∀k,S k↔S' k)(hi:Inv C ops pos sc fr0 v Hh F p0 h0 w0 df S m fl p a w):Inv C ops pos sc fr0 v Hh F p0 h0 w0 df S' m fl p a w:=by
 have e:S=S':=funext fun k=>propext (h k)
 exact e▸hi
theorem JF.congr{S':Nat→Prop}(h:∀k,S k↔S' k)(hi:JF ops pos sc S m a):JF ops pos sc S' m a:=by
 have e:S=S':=funext fun k=>propext (h k)
 exact e▸hi
theorem Rest.congr{S':Nat→Prop}(h:∀k,S k↔S' k)(hi:Rest ops pos S m):Rest ops pos S' m:=by
 have e:S=S':=funext fun k=>propext (h k)
 exact e▸hi
def Ls(l:Array Bool)(k:Nat):Prop:=l.getD k false=true
theorem Ql{l:Array Bool}(n:Nat)(hl:l.size=n){i:Nat}(hi:i<n)(hf:l.getD i true=false):
  ((zo n).filter fun k=> !(l.setIfInBounds i true).getD k true).length<((zo n).filter fun k=> !l.getD k true).length:=by
 have sub:∀k,(!(l.setIfInBounds i true).getD k true)=true→(!l.getD k true)=true:=by
  intro k hk;by_cases e:i=k
  ·subst e;simp[hl,hi]at hk
  ·rwa [getD_set_ne true e]at hk
 have key:∀(L:List Nat),(L.filter fun k=> !(l.setIfInBounds i true).getD k true).length≤(L.filter fun k=> !l.getD k true).length∧(i∈L→(L.filter fun k=> !(l.setIfInBounds i true).getD k true).length<(L.filter fun k=> !l.getD k true).length):=by
  intro L;induction L with
  |nil=>simp
  |cons x L ih=>
   simp only[List.filter_cons];constructor
   ·by_cases h1:(!(l.setIfInBounds i true).getD x true)=true
    ·rw[if_pos h1,if_pos (sub x h1)];simp only[zr];have:=ih.1;omega
    ·rw[if_neg h1];have:=ih.1;split<;>(try simp only[zr])<;>omega
   ·intro hm;by_cases e:i=x
    ·subst e;rw[if_neg (by simp[hl,hi]),if_pos (by simp[hf])];simp only[zr];have:=ih.1;omega
    ·have hm':i∈L:=by simpa [e]using hm
     by_cases h1:(!(l.setIfInBounds i true).getD x true)=true
     ·rw[if_pos h1,if_pos (sub x h1)];simp only[zr];have:=ih.2 hm';omega
     ·rw[if_neg h1];have:=ih.2 hm';split<;>(try simp only[zr])<;>omega
 exact(key (zo n)).2 (by simpa using hi)
theorem Vm(hC:C.Ok P)(hcall:call.Ok C P)(st:Stat ops anc ord pos sc)(cn:Canon C call ops anc ord pos fr0 h0 v Hh F){Q:Exit→Act→World→Prop}
  (hQ:∀p' a' w',BN p' (F ops.size) a'→Ext p0 h0 w0 p' (Hh ops.size) w'→a'.defers=df→Q .normal a' w') {ro:Option Nat} {nn:Nat}:
  ∀(fuel:Nat) (l:Array Bool),l.size=ops.size→((zo ops.size).filter fun k=> !l.getD k true).length≤fuel→∀ {m:Nat} {fl:Nat→Nat} {p:Pl} {a:Act} {w:World},
   Inv C ops pos sc fr0 v Hh F p0 h0 w0 df (Ls l) m fl p a w→JF ops pos sc (Ls l) m a→Down anc (Ls l)→Rest ops pos (Ls l) m→wpAnyIn (FW ro) nn P .any ops Q fuel l a w:=by
 have fin:∀(l:Array Bool),l.size=ops.size→zG .any ops l=[]→∀ {m:Nat} {fl:Nat→Nat} {p:Pl} {a:Act} {w:World},
   Inv C ops pos sc fr0 v Hh F p0 h0 w0 df (Ls l) m fl p a w→JF ops pos sc (Ls l) m a→Q .normal a w:=by
  intro l hl hrd m fl p a w hi h2f;have all:∀q,q≤ops.size→∀k,k<ops.size→pos k<q→Ls l k:=by
   intro q;induction q with
   |zero=>intro _ k _ h;omega
   |succ q ih=>
    intro hq k hk hlt;by_cases e:pos k=q
    ·apply zz;intro hns;have hmem:k∈zG .any ops l:=by
      rw[mem_ready];refine⟨?_,ops[k],by simp[hk],fun e' he' hb=>?_⟩
      ·unfold Ls at hns;have:k<l.size:=by omega
       simp only[zi,zM this,zP]at hns ⊢;simpa using hns
      ·obtain⟨h1,h2⟩:=st.dir k _ e' (by simp[hk]) he' hb;have h3:=st.apos _ _ h1;exact ih (by omega) e'.on h2 (by omega)
     rw[hrd]at hmem;cases hmem
    ·exact ih (by omega) k hk (by omega)
  have allS:∀k,k<ops.size→Ls l k:=fun k hk=>all ops.size (zt _) k hk (st.posp k hk).1
  obtain⟨p',hi'⟩:=Inv.eR st cn (ops.size-m) m hi h2f (by have:=hi.mn;omega) (fun q h1 h2 o ho=>by
   obtain⟨g1,g2⟩:=st.ordp q (by have:=hi.mn;omega);refine⟨?_,fun _=>allS _ g1⟩;cases hv:BQ o with
   |false=>rfl
   |true=>have:=(hi.mh _ o ho hv).1 (allS _ g1);omega)
  rw[show m+(ops.size-m)=ops.size from by have:=hi.mn;omega]at hi';refine hQ p' a w ⟨by rw[cn.fn _ (zt _),hi'.sz],fun t=>?_⟩ hi'.ext hi'.df;by_cases hw:∃(k:Nat) (ok:Oper),ops[k]?=some ok∧ok.dst=some t
  ·obtain⟨k,ok,hk,hkt⟩:=hw;have hkn:=(zc.1 hk).1;rw[Fw st cn hk hkt _ (zt _) (st.posp k hkn).1];exact hi'.slotw k ok t (allS k hkn) hk hkt fun _ _=>(st.posp k hkn).1
  ·rw[Fz st cn _ (zt _) fun k ok hk hkt _=>hw ⟨k,ok,hk,hkt⟩];exact hi'.slot t fun k ok _ hk hkt=>hw ⟨k,ok,hk,hkt⟩
 intro fuel;induction fuel with
 |zero=>
  intro l hl hlen m fl p a w hi h2f hd hrest;have hrd:zG .any ops l=[]:=by
   cases hc:zG .any ops l with
   |nil=>rfl
   |cons k ks=>
    have hm:k∈zG .any ops l:=by rw[hc];simp
    obtain⟨h1,o,h2,_⟩:=mem_ready.1 hm;have hk:=(zc.1 h2).1;have:k∈(zo ops.size).filter fun k=> !l.getD k true:=List.mem_filter.2 ⟨by simpa using hk,by simp[h1]⟩
    have:=List.length_pos_of_mem this;omega
  exact⟨hrd,fin l hl hrd hi h2f⟩
 |succ fuel ih=>
  intro l hl hlen m fl p a w hi h2f hd hrest;refine⟨fun hrd=>fin l hl hrd hi h2f,fun i hm=>?_⟩;obtain⟨h1,o,h2,h3⟩:=mem_ready.1 hm;have hin:=(zc.1 h2).1;have hil:i<l.size:=by omega
  have hready:No anc (Ls l) i:=by
   refine⟨fun hs=>?_,fun k hk=>?_⟩
   ·unfold Ls at hs;simp only[zi,zM hil,zP]at hs h1;rw[hs]at h1;cases h1
   ·obtain⟨o',e,g1,g2,g3,g4⟩:=st.edge i k hk;rw[h2]at g1;cases g1;have hon:=h3 e g2 g3;rcases g4 with g4|g4
    ·rw[←g4];exact hon
    ·exact hd e.on k hon g4
  refine up hC hcall st cn hi h2f hd hrest h2 hready fun m' fl' p' a' w' hi' h2f' hrest'=>?_
  have hS:∀k,(Ls l k∨k=i)↔Ls (l.setIfInBounds i true) k:=by
   intro k;unfold Ls;by_cases e:k=i
   ·subst e;simp[hil]
   ·rw[getD_set_ne false (fun x=>e x.symm)];simp[e]
  refine ih (l.setIfInBounds i true) (by simpa using hl) ?_ (hi'.congr hS) (h2f'.congr hS) ?_ (hrest'.congr hS)
  ·have:=Ql ops.size hl hin h1;omega
  ·intro j k hj hk;rw[←hS]at hj ⊢;rcases hj with hj|rfl
   ·exact .inl (hd j k hj hk)
   ·exact .inl (hready.all k hk)
theorem UR(hC:C.Ok P)(hcall:call.Ok C P)(hm:P.follows .mixedOrders=true)(st:Stat ops anc ord pos sc)(cn:Canon C call ops anc ord pos fr0 h0 v Hh F){Q:Exit→Act→World→Prop}(hr:R p h0 w)(hg:Gl C p)(hf:BN p fr0 a)
  {id:Nat} (hQ:∀p' a' w',BN p' (F ops.size) a'→Ext p h0 w p' (Hh ops.size) w'→a'.defers=a.defers→Q .normal a' w') {ro:Option Nat} {nn:Nat}:(zS id ops true).wpIn (FW ro) nn P Q a w:=by
 refine wpIn_region_any hm ?_;have hd:=Ext.drew hr (w.drawn+1);have hno:∀k,¬Ls (zR ops.size false) k:=by
  intro k hk;unfold Ls at hk;rw[zi]at hk;by_cases h:k<ops.size
  ·simp[h]at hk
  ·rw[Array.getElem?_eq_none (by simpa using h)]at hk;simp at hk
 refine Vm (p0:=p) (h0:=h0) (w0:=w) (df:=a.defers) hC hcall st cn hQ ops.size _ (by simp) (by simpa using List.length_filter_le _ (zo ops.size)) (m:=0) (fl:=fun _=>0) (p:=p)
  ⟨by rw[cn.h0];exact hd,hg,Nat.zero_le _,fun k o _ _=>⟨fun h=>absurd h (hno k),fun h=>by omega⟩,fun k o _ _ h=>by omega,hf.1.symm,rfl,fun t _=>hf.2 t,fun i o t h=>absurd h (hno i),fun i o h=>absurd h (hno i),fun i j o o' h=>absurd h (hno i)⟩
  ⟨fun i k o ok t tk h=>absurd h (hno i)⟩ (fun i k h=>absurd h (hno i)) (.inl rfl)
end
end
end Go.Det
end
section
namespace Go.Det
noncomputable section
structure Kh where
 anc:List Nat
 ord:List Nat
 pos:List Nat
 sc:List (Option Nat)
def dD(acc:List Nat)(o:Oper):Nat:=
 o.after.toList.foldl (fun s e=>bif zF .any e then s|||(2^e.on|||acc.getD e.on 0)else s) 0
def Zq:List Oper→List Nat→List Nat
 |[],acc=>acc
 |o::os,acc=>Zq os (acc++[dD acc o])
def tb(m i:Nat):Bool:=m.testBit i
def sub(a d:Nat):Bool:=zh (a&&&d) a
def Hn(f:Nat→Oper→Bool):Nat→List Oper→Option Nat
 |_,[]=>none
 |i,o::os=>bif f i o then some i else Hn f (i+1) os
def Ww(f:Nat→Oper→Bool):Nat→List Oper→List Nat
 |_,[]=>[]
 |i,o::os=>bif f i o then i::Ww f (i+1) os else Ww f (i+1) os
def P1(ops:List Oper)(anc:List Nat):Nat→Nat→List Nat→List Nat
 |0,_,out=>out.reverse
 |fuel+1,d,out=>
  match Hn (fun i o=>Db o&& !tb d i&&sub (anc.getD i 0) d) 0 ops with
  |some i=>P1 ops anc fuel (d|||2^i) (i::out)
  |none=>
   match Hn (fun i o=>BQ o&& !tb d i) 0 ops with
   |some k=>
    let al:=Ww (fun i o=>BE o&& !tb d i&&tb (anc.getD k 0) i) 0 ops
    bif al.isEmpty then P1 ops anc fuel (d|||2^k) (k::out)
    else P1 ops anc fuel (al.foldl (fun s i=>s|||2^i) d) (al.reverse++out)
   |none=>
    match Hn (fun i o=>BE o&& !tb d i) 0 ops with
    |some i=>P1 ops anc fuel (d|||2^i) (i::out)
    |none=>out.reverse
def idx(l:List Nat)(i:Nat):Nat:=l.getD i 0
def dE(ord:List Nat)(n:Nat):List Nat:=(zo n).map fun i=>ord.idxOf i
def OC(o:Oper):Option Tmp:=
 match o.guard,o.op with
 |none,.assign (.tmp t)=>some t
 |none,.move (.tmp t)=>some t
 |_,_=>none
def fJ(ops:List Oper)(anc:List Nat)(i:Nat)(o:Oper):Option Nat:=
 match OC o with
 |some t=>
  match Hn (fun k x=>BE x&&(x.dst==some t)&&tb (anc.getD i 0) k) 0 ops with
  |some k=>match Hn (fun h x=>BQ x&&tb (anc.getD h 0) k&&tb (anc.getD i 0) h) 0 ops with
   |none=>some k
   |some _=>none
  |none=>none
 |none=>none
def Dl(ops:Array Oper):Kh:=
 let anc:=Zq ops.toList []
 let ord:=P1 ops.toList anc (3*ops.size+3) 0 []
 ⟨anc,ord,dE ord ops.size,ops.toList.zipIdx.map fun(o,i)=>fJ ops.toList anc i o⟩
def Kh.s(pl:Kh)(i:Nat):Option Nat:=pl.sc.getD i none
def Kh.a(pl:Kh)(j i:Nat):Bool:=(idx pl.anc j).testBit i
def SD(ops:Array Oper)(f:Nat→Oper→Nat→Oper→Bool):Bool:=
 ops.toList.zipIdx.all fun(o,i)=>ops.toList.zipIdx.all fun(o',j)=>f i o j o'
def FZ(ops:Array Oper)(pl:Kh):Bool:=
 let n:=ops.size
 let A:=pl.a
 let pos:=idx pl.pos
 let ord:=idx pl.ord
 Region.noSelect ops&&
 ((zo n).all fun q=>zq (ord q) n&&zh (pos (ord q)) q)&&
 ((zo n).all fun i=>zq (pos i) n&&zh (ord (pos i)) i)&&
 (pl.anc.length==n)&&(pl.ord.length==n)&&
 (pl.sc.zipIdx.all fun(s,i)=>match s with
  |none=>true
  |some k=>match ops[i]?,ops[k]? with
   |some o,some ok=>match OC o with
    |some t=>BE ok&&(ok.dst==some t)&&A i k
    |none=>false
   |_,_=>false)&&
 (ops.toList.zipIdx.all fun(o,j)=>zq (idx pl.anc j) (2^n)&&
  ((zo n).all fun i=> !A j i||((o.after.toList.any fun e=>zF .any e&&(zh e.on i||A e.on i))&&zq (pos i) (pos j)))&&
  (o.after.toList.all fun e=> !zF .any e||(A j e.on&&zq e.on n)))&&
 (SD ops fun i o j o'=>
  (!(BQ o&&BQ o')||zh i j||A i j||A j i)&&
  (!(BQ o&&Db o')||A j i||zq (pos j) (pos i))&&
  (!((BE o||(pl.s i).isSome)&& !BQ o')|| !A j i||(match o.dst with|some t=> !((reads ops o').contains t)|none=>true)||(pl.s j==some i)||(ops.toList.zipIdx.any fun(x,k)=>BQ x&&A k i&&A j k))&&
  (!(BQ o&&BE o')||A i j||zq (pos i) (pos j))&&
  (!(Db o&&Mw o&&BE o')|| !zq (pos j) (pos i)||(ops.toList.zipIdx.any fun(x,k)=>BQ x&&zq (pos j) (pos k)&&zq (pos k) (pos i)))&&
  (zh i j||(match o.dst with
   |none=>true
   |some t=> !(o'.dst==some t)&&(!((reads ops o').contains t)||A j i||A i j))))
theorem GV{ops:Array Oper}{i:Nat}{o:Oper}(h:ops[i]?=some o):(o,i)∈ops.toList.zipIdx:=by
 have:=(zc.1 h);obtain⟨h1,h2⟩:=this;rw[zw];simpa using h
theorem UL{ops:Array Oper}{i:Nat}{o:Oper}(h:(o,i)∈ops.toList.zipIdx):ops[i]?=some o:=by
 rw[zw]at h;simpa using h
theorem Qd{o:Oper}{t:Tmp}(h:OC o=some t):(o.op=.assign (.tmp t)∨o.op=.move (.tmp t))∧o.guard=none:=by
 unfold OC at h;split at h
 ·cases h;rename_i h1 h2;exact⟨.inl h2,h1⟩
 ·cases h;rename_i h1 h2;exact⟨.inr h2,h1⟩
 ·cases h
theorem Su{ops:Array Oper}{pl:Kh}(hs:FZ ops pl=true):Stat ops pl.a (idx pl.ord) (idx pl.pos) pl.s:=by
 unfold FZ at hs;simp only[zd]at hs;obtain⟨⟨⟨⟨⟨⟨⟨h0,h1⟩,h2⟩,h3⟩,_⟩,hq⟩,h4⟩,h5⟩:=hs;simp only[zk,zT,zd,zV,A1,decide_eq_true_eq]at h1 h2;simp only[zk]at h4;have pr:∀(i j:Nat) (o o':Oper),ops[i]?=some o→ops[j]?=some o'→_:=fun i j o o' hi hj=>zk.1 (zk.1 h5 (o,i) (GV hi)) (o',j) (GV hj)
 simp only[zd,zm,zx,A1,decide_eq_true_eq,Fk,decide_eq_false_iff_not,Bool.and_eq_false_imp]at pr;have hanc:∀(j i:Nat),pl.a j i=true→j<ops.size∧i<ops.size:=by
  intro j i h;have hj:j<ops.size:=by
   rcases zQ j ops.size with h6|h6
   ·exact h6
   ·have hl:pl.anc.length=ops.size:=by simpa using h3
    unfold Kh.a idx at h;rw[zy,List.getElem?_eq_none (by omega)]at h;simp at h
  refine⟨hj,?_⟩;have h6:=h4 (ops[j],j) (GV (by simp[hj]));simp only[zd,zV]at h6;rcases zQ i ops.size with h7|h7
  ·exact h7
  ·have h8:=h6.1.1;have h9:idx pl.anc j<2^i:=Nat.lt_of_lt_of_le h8 (Nat.pow_le_pow_right (by omega) h7);unfold Kh.a at h;rw[Nat.testBit_lt_two_pow h9]at h;cases h
 refine⟨h0,fun q hq=>h1 q hq,fun i hi=>h2 i hi,fun j i h=>?_,fun j o e hj he hb=>?_,fun j i h=>?_,fun i j o o' hi hj hv hv' hne=>?_,fun i j o o' hi hj hv hr=>?_,fun i k h=>?_,fun j k o o' t hj hk ha hv ht hm h=>?_,fun i j o o' hi hj hv ha=>?_,
  fun i j o o' hi hj hr hhd ha hlt=>?_,fun i j o o' t hi hj hne ht=>?_⟩
 ·obtain⟨hj,hi⟩:=hanc j i h;have h6:=h4 (ops[j],j) (GV (by simp[hj]));simp only[zd,zk,zT,zm,zx]at h6;rcases h6.1.2 i hi with h7|h7
  ·rw[h]at h7;cases h7
  ·obtain⟨e,he,h8⟩:=zD.1 h7.1;simp only[zd,zm,A1,decide_eq_true_eq]at h8;exact⟨ops[j],e,by simp[hj],by simpa using he,h8.1,h8.2⟩
 ·have h6:=h4 (o,j) (GV hj);simp only[zd,zk,zm,zx,zV]at h6;rcases h6.2 e (by simpa using he)with h7|h7
  ·rw[hb]at h7;cases h7
  ·exact h7
 ·obtain⟨hj,hi⟩:=hanc j i h;have h6:=h4 (ops[j],j) (GV (by simp[hj]));simp only[zd,zk,zT,zm,zx,zV]at h6;rcases h6.1.2 i hi with h7|h7
  ·rw[h]at h7;cases h7
  ·exact h7.2
 ·have:=(pr i j o o' hi hj).1.1.1.1.1;simp_all
 ·have:=(pr i j o o' hi hj).1.1.1.1.2;simp_all
 ·have hm:(pl.s i,i)∈pl.sc.zipIdx:=by
   rw[zw];unfold Kh.s at h ⊢;rw[zy]at h ⊢;cases hg:pl.sc[i]? with
   |none=>rw[hg]at h;cases h
   |some x=>rfl
  have h6:=zk.1 hq _ hm;simp only[h]at h6;split at h6
  case h_2=>cases h6
  rename_i o ok ho hok;split at h6
  case h_2=>cases h6
  rename_i t ht;simp only[zd,beq_iff_eq]at h6;obtain⟨g1,g2⟩:=Qd ht;exact⟨o,ok,t,ho,hok,g1,g2,h6.1.1,h6.1.2,h6.2⟩
 ·have h6:=(pr j k o o' hj hk).1.1.1.2;have ha':(BE o||(pl.s j).isSome)=true:=by simpa using ha
  rw[hv,h,ht]at h6;have hc:(reads ops o').contains t=true:=by simpa using hm
  simp only[zm]at ha';simp only[hc,Bool.not_false,Bool.not_true,zu,or_false,Bool.true_eq_false]at h6;rcases h6 with(h6|h6)|h6
  ·exact absurd ha' (fun h7=>by simpa using h6 h7)
  ·exact .inl (by simpa using h6)
  ·obtain⟨⟨x,i⟩,hm2,h7⟩:=zD.1 h6;simp only[zd]at h7;exact .inr ⟨i,x,UL hm2,h7.1.1,h7.1.2,h7.2⟩
 ·have:=(pr i j o o' hi hj).1.1.2;simp_all
 ·have h6:=(pr i j o o' hi hj).1.2;rw[hr,hhd,ha]at h6;simp only[and_self,forall_const,Bool.true_eq_false,false_or]at h6;rcases h6 with h6|h6
  ·omega
  ·obtain⟨⟨x,k⟩,hm,h7⟩:=zD.1 h6;simp only[zd,decide_eq_true_eq]at h7;exact⟨k,x,UL hm,h7.1.1,h7.1.2,h7.2⟩
 ·have h6:=(pr i j o o' hi hj).2;rcases h6 with h6|h6
  ·exact absurd h6 hne
  ·rw[ht]at h6;simp only[zd,zx,zm,beq_eq_false_iff_ne]at h6;refine⟨h6.1,fun hm=>?_⟩;rcases h6.2 with(h7|h7)|h7
   ·have:(reads ops o').contains t=true:=by simpa using hm
    rw[this]at h7;cases h7
   ·exact .inl h7
   ·exact .inr h7
theorem Xu{ops:Array Oper}{pl:Kh}(hs:FZ ops pl=true):pl.ord.length=ops.size:=by
 unfold FZ at hs;simp only[zd]at hs;obtain⟨⟨⟨⟨⟨⟨⟨h0,h1⟩,h2⟩,h3⟩,h4⟩,hq⟩,h5⟩,h6⟩:=hs;simpa using h4
end
end Go.Det
end
section
namespace Go.Det
noncomputable section
mutual
def V.beq:V→V→Bool
 | .bool a,.bool b=>a==b
 | .int k a,.int l b=>k==l&&a==b
 | .str a,.str b=>a==b
 | .nilp,.nilp=>true
 | .ptr a i,.ptr b j=>zh a b&&zh i j
 | .nils,.nils=>true
 | .sl a b c d e,.sl a' b' c' d' e'=>zh a a'&&zh b b'&&zh c c'&&zh d d'&&zh e e'
 | .esl,.esl=>true
 | .es0,.es0=>true
 | .junk,.junk=>true
 | .nilm,.nilm=>true
 | .map a,.map b=>zh a b
 | .yld a,.yld b=>zh a b
 | .nilf,.nilf=>true
 | .nili,.nili=>true
 | .fn f a b,.fn g c d=>f==g&&V.Iq a c&&V.Iq b d
 | .iface t x,.iface u y=>zh t u&&V.beq x y
 | .agg a,.agg b=>V.Iq a b
 | .tup a,.tup b=>V.Iq a b
 |_,_=>false
def V.Iq:List V→List V→Bool
 |[],[]=>true
 |a::gG,b::bs=>V.beq a b&&V.Iq gG bs
 |_,_=>false
end
mutual
theorem V.beq_eq:∀ {a b:V},V.beq a b=true→a=b:=by
 intro a b h;cases a<;>cases b<;>simp only[V.beq]at h<;>first
  |(cases h;done)
  |rfl
  |(simp only[zd,beq_iff_eq,A1,decide_eq_true_eq]at h;first|(obtain rfl:=h;rfl)|(obtain⟨rfl,rfl⟩:=h;rfl)|(obtain⟨⟨⟨⟨rfl,rfl⟩,rfl⟩,rfl⟩,rfl⟩:=h;rfl))
  |skip
 case fn.fn f a b g c d=>
  simp only[zd,beq_iff_eq]at h;rw[h.1.1,V.Fv h.1.2,V.Fv h.2]
 case iface.iface t x u y=>
  simp only[zd,A1,decide_eq_true_eq]at h;rw[h.1,V.beq_eq h.2]
 case agg.agg a b=>rw[V.Fv h]
 case tup.tup a b=>rw[V.Fv h]
theorem V.Fv:∀ {a b:List V},V.Iq a b=true→a=b
 |[],[],_=>rfl
 |[],_::_,h=>by simp[V.Iq]at h
 |_::_,[],h=>by simp[V.Iq]at h
 |a::gG,b::bs,h=>by
  simp only[V.Iq,zd]at h;rw[V.beq_eq h.1,V.Fv h.2]
end
structure Rc where
 i:Nat
 o:Oper
 f:Fr
 v:V
structure St where
 f:Fr
 h:H
 r:List Rc
def still(C:Ctx)(anc:Nat→Nat→Bool)(i:Nat)(h:H)(r:Rc):Bool:=
 anc i r.i||(match EP C r.f h r.o with
  |some (.val x _)=>V.beq x r.v
  |_=>false)
def F5(C:Ctx)(call:Cy)(ops:Array Oper)(anc:Nat→Nat→Bool)(i:Nat)(s:St):Option (V×St):=
 match ops[i]? with
 |none=>none
 |some o=>
  bif AR s.f ops o then
   bif Db o then
    match EP C s.f s.h o with
    |some (.val v _)=>match s.f.put o.dst v with
     |some f'=>some (v,⟨f',s.h,bif Mw o then⟨i,o,s.f,v⟩::s.r else s.r⟩)
     |none=>none
    |_=>none
   else bif BE o then
    match UD C s.f o with
    |some (ob,f)=>match s.f.put o.dst (f s.h.nx)with
     |some f'=>some (f s.h.nx,⟨f',s.h.push ob,s.r⟩)
     |none=>none
    |none=>none
   else
    match CC C call s.f s.h o with
    |some (v,h')=>match s.f.put o.dst v with
     |some f'=>bif s.r.all (still C anc i h')then some (v,⟨f',h',s.r⟩)else none
     |none=>none
    |none=>none
  else
   match s.f.put o.dst (.tup [])with
   |some f'=>bif BQ o then(bif s.r.all (still C anc i s.h)then some (.tup [],⟨f',s.h,s.r⟩)else none)else some (.tup [],⟨f',s.h,s.r⟩)
   |none=>none
def Qh(C:Ctx)(call:Cy)(ops:Array Oper)(anc:Nat→Nat→Bool):List Nat→St→Option St
 |[],s=>some s
 |i::is,s=>match F5 C call ops anc i s with
  |some (_,s')=>Qh C call ops anc is s'
  |none=>none
def GG(C:Ctx)(call:Cy)(ops:Array Oper)(fr:Fr)(h:H):Option (Fr×H):=
 match Qh C call ops (Dl ops).a (Dl ops).ord ⟨fr,h,[]⟩with
 |some s=>some (s.f,s.h)
 |none=>none
def Pr(C:Ctx)(call:Cy)(ops:Array Oper)(fr:Fr)(h:H):Option (Fr×H):=
 bif FZ ops (Dl ops)then GG C call ops fr h else none
def CD:Code→Bool
 | .region _ ops dr=>bif dr then FZ ops (Dl ops)else true
 | .seq a b=>CD a&&CD b
 | .cond _ a b=>CD a&&CD b
 | .block _ b=>CD b
 | .loop b=>CD b
 | .scope b=>CD b
 |_=>true
section
variable {C:Ctx}{P:Program}{call:Cy}{ops:Array Oper}{p:Pl}{h:H}{w:World}{fr:Fr}{a:Act}
theorem IP{f f':Fr}{d:Option Nat}{v:V}(h:f.put d v=some f'):f'.n=f.n∧(∀t,f'.get t=if d=some t then v else f.get t)∧∀t,d=some t→t<f.n:=by
 unfold Fr.put at h;cases d with
 |none=>cases h;exact⟨rfl,fun t=>by simp,fun t h=>by cases h⟩
 |some s=>
  simp only[Fk]at h;by_cases hlt:s<f.n
  ·simp only[hlt,decide_true,cond_true,ze]at h;subst h;refine⟨rfl,fun t=>?_,fun t ht=>by cases ht;exact hlt⟩;unfold Fr.get;simp only[PM.Ci];by_cases e:t=s
   ·subst e;simp
   ·have:¬s=t:=fun x=>e x.symm
    simp[e,this]
  ·simp[hlt]at h
theorem CP{anc:Nat→Nat→Bool}{i:Nat}{s s':St}{v:V}(hd:F5 C call ops anc i s=some (v,s')):∃o,ops[i]?=some o∧s'.f.n=s.f.n∧(∀t,s'.f.get t=if o.dst=some t then v else s.f.get t)∧(∀t,o.dst=some t→t<s.f.n)∧
  ((AR s.f ops o=false∧v=.tup []∧s'.h=s.h)∨
   (AR s.f ops o=true∧
   ((Db o=true∧EP C s.f s.h o=some (.val v s.h)∧s'.h=s.h)∨
    (BE o=true∧∃ob f,UD C s.f o=some (ob,f)∧v=f s.h.nx∧s'.h=s.h.push ob)∨
    (BQ o=true∧CC C call s.f s.h o=some (v,s'.h)))))∧
  (∀r∈s.r,r∈s'.r)∧(Db o=true→Mw o=true→AR s.f ops o=true→⟨i,o,s.f,v⟩∈s'.r)∧
  (BQ o=true→∀r∈s.r,still C anc i s'.h r=true):=by
 unfold F5 at hd;split at hd
 case h_1=>cases hd
 rename_i o ho;refine⟨o,ho,?_⟩;cases hw:AR s.f ops o with
 |false=>
  simp only[hw,cond_false]at hd;split at hd
  case h_2=>cases hd
  rename_i f' hp;obtain⟨k1,k2,k3⟩:=IP hp;cases hv:BQ o with
  |false=>
   simp only[hv,cond_false,ze,zl]at hd;obtain⟨rfl,rfl⟩:=hd;exact⟨k1,k2,k3,.inl ⟨rfl,rfl,rfl⟩,fun r hr=>hr,fun _ _ h=>(by cases h),fun h=>(by cases h)⟩
  |true=>
   simp only[hv,cond_true]at hd;cases hs:s.r.all (still C anc i s.h)with
   |false=>simp[hs]at hd
   |true=>
    simp only[hs,cond_true,ze,zl]at hd;obtain⟨rfl,rfl⟩:=hd;exact⟨k1,k2,k3,.inl ⟨rfl,rfl,rfl⟩,fun r hr=>hr,fun _ _ h=>(by cases h),fun _ r hr=>zk.1 hs r hr⟩
 |true=>
  simp only[hw,cond_true]at hd;cases hrd:Db o with
  |true=>
   simp only[hrd,cond_true]at hd;split at hd
   case h_2=>cases hd
   rename_i v1 h1 hop;split at hd
   case h_2=>cases hd
   rename_i f' hp;simp only[ze,zl]at hd;obtain⟨rfl,rfl⟩:=hd;obtain⟨k1,k2,k3⟩:=IP hp;obtain⟨v2,hv2⟩:=rd_val hrd hop;cases hv2;refine⟨k1,k2,k3,.inr ⟨rfl,.inl ⟨rfl,hop,rfl⟩⟩,fun r hr=>?_,fun _ hh _=>?_,fun hv=>by rw[(Li hv).1]at hrd;cases hrd⟩
   ·cases Mw o<;>simp[hr]
   ·simp[hh]
  |false=>
   simp only[hrd,cond_false]at hd;cases hal:BE o with
   |true=>
    simp only[hal,cond_true]at hd;split at hd
    case h_2=>cases hd
    rename_i ob f hdal;split at hd
    case h_2=>cases hd
    rename_i f' hp;simp only[ze,zl]at hd;obtain⟨rfl,rfl⟩:=hd;obtain⟨k1,k2,k3⟩:=IP hp;exact⟨k1,k2,k3,.inr ⟨rfl,.inr (.inl ⟨rfl,ob,f,hdal,rfl,rfl⟩)⟩,fun r hr=>hr,fun h=>(by cases h),fun hv=>by rw[(Li hv).2]at hal;cases hal⟩
   |false=>
    simp only[hal,cond_false]at hd;split at hd
    case h_2=>cases hd
    rename_i v1 h1 hst;split at hd
    case h_2=>cases hd
    rename_i f' hp;obtain⟨k1,k2,k3⟩:=IP hp;cases hs:s.r.all (still C anc i h1)with
    |false=>simp[hs]at hd
    |true=>
     simp only[hs,cond_true,ze,zl]at hd;obtain⟨rfl,rfl⟩:=hd;exact⟨k1,k2,k3,.inr ⟨rfl,.inr (.inr ⟨by simp[BQ,hrd,hal],hst⟩)⟩,fun r hr=>hr,fun h=>(by cases h),fun _ r hr=>zk.1 hs r hr⟩
theorem J5{anc:Nat→Nat→Bool}:∀(L:List Nat) (s s':St),Qh C call ops anc L s=some s'→
  ∃(sq:Nat→St) (vq:Nat→V),sq 0=s∧sq L.length=s'∧∀(q i:Nat),L[q]?=some i→F5 C call ops anc i (sq q)=some (vq q,sq (q+1))
 |[],s,s',h=>by
  cases h;exact⟨fun _=>s,fun _=>.nilp,rfl,rfl,fun q i h=>by simp at h⟩
 |i::L,s,s',h=>by
  unfold Qh at h;split at h
  case h_2=>cases h
  rename_i v s1 hs;obtain⟨sq,vq,h0,hn,hq⟩:=J5 L s1 s' h;refine⟨fun q=>match q with|0=>s|q+1=>sq q,fun q=>match q with|0=>v|q+1=>vq q,rfl,by simpa using hn,fun q j hj=>?_⟩;cases q with
  |zero=>simp at hj;subst hj;simp only[h0];exact hs
  |succ q=>simp at hj;exact hq q j hj
theorem UM{pl:Kh}(hs:FZ ops pl=true){s':St}(hd:Qh C call ops pl.a pl.ord ⟨fr,h,[]⟩=some s'):
  ∃(v:Nat→V) (Hh:Nat→H) (F:Nat→Fr),Canon C call ops pl.a (idx pl.ord) (idx pl.pos) fr h v Hh F∧Hh ops.size=s'.h∧F ops.size=s'.f:=by
 have st:=Su hs;have hl:=Xu hs;obtain⟨sq,vq,h0,hn,hq⟩:=J5 pl.ord _ _ hd;have CC:∀q,q<ops.size→F5 C call ops pl.a (idx pl.ord q) (sq q)=some (vq q,sq (q+1)):=by
  intro q hqn;refine hq q _ ?_;unfold idx;rw[zy,zO (by omega)];rfl
 have hfn:∀q,q≤ops.size→(sq q).f.n=fr.n:=by
  intro q;induction q with
  |zero=>intro _;rw[h0]
  |succ q ih=>
   intro hqn;obtain⟨o,_,g1,_⟩:=CP (CC q (by omega));rw[g1,ih (by omega)]
 have hmono:∀q q',q≤q'→q'≤ops.size→∀r∈(sq q).r,r∈(sq q').r:=by
  intro q q' hle;induction q' with
  |zero=>
   intro _ r hr;have:q=0:=by omega
   subst this;exact hr
  |succ q' ih=>
   intro hqn r hr;by_cases e:q=q'+1
   ·subst e;exact hr
   ·obtain⟨o,_,_,_,_,_,g,_⟩:=CP (CC q' (by omega));exact g r (ih (by omega) (by omega) r hr)
 refine⟨fun i=>vq (idx pl.pos i),fun q=>(sq q).h,fun q=>(sq q).f,⟨by simp[h0],by simp[h0],hfn,fun q hqn o ho t=>?_,fun i o t ho ht=>?_,fun i o ho=>?_,fun i j o oj ho hj hhv hrd hhd hw hlt hanc=>?_⟩,by simp[←hl,hn],by simp[←hl,hn]⟩
 ·obtain⟨o',g0,_,g1,_⟩:=CP (CC q hqn);rw[ho]at g0;cases g0;simp only[(st.ordp q hqn).2];exact g1 t
 ·have hin:=(zc.1 ho).1;have hp:=st.posp i hin;obtain⟨o',g0,_,_,g2,_⟩:=CP (CC _ hp.1);rw[hp.2,ho]at g0;cases g0;rw[←hfn _ (zX hp.1)];exact g2 t ht
 ·have hin:=(zc.1 ho).1;have hp:=st.posp i hin;obtain⟨o',g0,_,_,_,g3,_⟩:=CP (CC _ hp.1);rw[hp.2,ho]at g0;cases g0;exact g3
 ·have hin:=(zc.1 ho).1;have hjn:=(zc.1 hj).1;have hpi:=st.posp i hin;have hpj:=st.posp j hjn;obtain⟨o',g0,_,_,_,_,_,g4,_⟩:=CP (CC _ hpj.1);rw[hpj.2,hj]at g0;cases g0;have hmem:=hmono _ (idx pl.pos i) (by omega) (zX hpi.1) _ (g4 hrd hhd hw);obtain⟨o'',g0,_,_,_,_,_,_,g5⟩:=CP (CC _ hpi.1);rw[hpi.2,ho]at g0;cases g0;have h6:=g5 hhv _ hmem;unfold still at h6;rw[hpj.2]at h6;rw[hpi.2,hanc]at h6;simp only[Bool.false_or]at h6;split at h6
  case h_2=>cases h6
  rename_i x hx hop;obtain⟨y,hy⟩:=rd_val hrd hop;cases hy;rw[V.beq_eq h6]at hop;exact hop
theorem Lp(hs:FZ ops (Dl ops)=true)(hC:C.Ok P)(hcall:call.Ok C P)(hm:P.follows .mixedOrders=true)(hr:R p h w)(hg:Gl C p)(hf:BN p fr a){fr':Fr}{h':H}(hd:GG C call ops fr h=some (fr',h')){id:Nat}{ro:Option Nat}{nn:Nat}{Q:Exit→Act→World→Prop}
  (hQ:∀p' a' w',BN p' fr' a'→Ext p h w p' h' w'→a'.defers=a.defers→Q .normal a' w'):(zS id ops true).wpIn (FW ro) nn P Q a w:=by
 unfold GG at hd;split at hd
 case h_2=>cases hd
 rename_i s hrun;cases hd;obtain⟨v,Hh,F,hc,h1,h2⟩:=UM hs hrun;refine UR hC hcall hm (Su hs) hc hr hg hf fun p' a' w' g1 g2 g3=>hQ p' a' w' ?_ ?_ g3
 ·rw[←h2];exact g1
 ·rw[←h1];exact g2
theorem Uv(hC:C.Ok P)(hcall:call.Ok C P)(hm:P.follows .mixedOrders=true)(hr:R p h w)(hg:Gl C p)(hf:BN p fr a){fr':Fr}{h':H}(hd:Pr C call ops fr h=some (fr',h')){id:Nat}{ro:Option Nat}{nn:Nat}{Q:Exit→Act→World→Prop}
  (hQ:∀p' a' w',BN p' fr' a'→Ext p h w p' h' w'→a'.defers=a.defers→Q .normal a' w'):(zS id ops true).wpIn (FW ro) nn P Q a w:=by
 unfold Pr at hd;cases hs:FZ ops (Dl ops)with
 |false=>simp[hs]at hd
 |true=>
  simp only[hs,cond_true]at hd;exact Lp hs hC hcall hm hr hg hf hd hQ
end
section
variable {P:Program}{F:Fence}{n:Nat}{b:Frame}{a:Act}{k:List Item}{cs:List Frame}{w:World}{Q:Exit→Act→World→Prop}
theorem CY{c:Code}:step P (lone (b.atR a (.code (.scope c)::k)) cs w)=.next (lone (b.atR a (.code c:: .inScope c::k)) cs w):=
 step_lone_go (by simp[stepG,stepG.exec,Frame.atR])
theorem MT{c:Code}:step P (lone (b.atR a (.inScope c::k)) cs w)=.next (lone (b.atR a k) cs w):=
 step_lone_go (by simp[stepG,stepG.exec,Frame.atR])
theorem Hy{c:Code}(h:c.wpIn F n P (Exit.noGoto Q) a w):(Code.scope c).wpIn F n P Q a w:=by
 intro b k cs hro hb hr;have h0:(lone (b.atR a (.code (.scope c)::k)) cs w).fenced P F:=fenced_calm hb hr rfl;obtain⟨e,a₁,w₁,hq,harr⟩:=h b (.inScope c::k) cs hro hb hr;cases e with
 |normal=>exact⟨.normal,a₁,w₁,hq,.head h0 CY (StepsIn.trans harr (.one (fenced_calm hb hr rfl) MT))⟩
 |exit id=>
  have hx:exitTo id (.inScope c::k)=exitTo id k:=by simp[exitTo]
  exact⟨.exit id,a₁,w₁,hq,fun k' hk=>.head h0 CY (harr.1 k' (by rw[hx];exact hk)),
   fun hr' hk=>let ⟨k₁,h1,h2⟩:=harr.2 hr' (by rw[hx];exact hk);⟨k₁,h1,.head h0 CY h2⟩⟩
 |goto l=>exact hq.elim
 |ret=>exact⟨_,a₁,w₁,hq,.of_steps (.one h0 CY) harr⟩
 |panic ch=>exact⟨_,a₁,w₁,hq,.of_steps (.one h0 CY) harr⟩
 |outgrown=>exact⟨_,a₁,w₁,hq,.of_steps (.one h0 CY) harr⟩
end
structure X where
 e:DX
 fr:Fr
 h:H
 ds:List Nat
def Ra(ro:Option Nat)(fr:Fr)(h:H)(ps:Array Tmp)(asg body:Code)(ds:List Nat):Option (Nat×H×List Nat):=
 match ro with
 |none=>some (h.nx+1,(h.push (.defd true)).push (.loop ⟨.ready,none,fr,ps,asg,body,h.nx⟩),h.nx::ds)
 |some b=>match h.get b with
  |some (.loop l)=>some (h.nx,h.push (.loop ⟨.ready,none,fr,ps,asg,body,l.db⟩),ds)
  |_=>none
def Bc(C:Ctx)(call:Cy)(ro:Option Nat)(ct:Bool):Nat→Code→Fr→H→List Nat→Option (List X)
 |0,_,_,_,_=>none
 |m+1,c,fr,h,ds=>
  match c with
  | .skip| .label _=>some [⟨.normal,fr,h,ds⟩]
  | .region _ ops dr=>bif dr then(match (bif ct then GG C call ops fr h else Pr C call ops fr h)with
    |some (fr',h')=>some [⟨.normal,fr',h',ds⟩]
    |none=>none)
   else(match Oi C call ops ops.toList fr h with
    |some l=>some (l.map fun x=>⟨.normal,x.1,x.2,ds⟩)
    |none=>none)
  | .seq a b=>match Bc C call ro ct m a fr h ds with
   |some l=>bl l fun x=>match x.e with
    | .normal=>Bc C call ro ct m b x.fr x.h x.ds
    |_=>some [x]
   |none=>none
  | .cond x a b=>match ev C fr x with
   |some (.bool true)=>Bc C call ro ct m a fr h ds
   |some (.bool false)=>Bc C call ro ct m b fr h ds
   |_=>none
  | .block id b=>match Bc C call ro ct m b fr h ds with
   |some l=>some (l.map fun x=>match x.e with
    | .exit i=>bif zh i id then { x with e:=.normal }else x
    |_=>x)
   |none=>none
  | .loop b=>match Bc C call ro ct m b fr h ds with
   |some l=>bl l fun x=>match x.e with
    | .normal=>Bc C call ro ct m (.loop b) x.fr x.h x.ds
    |_=>some [x]
   |none=>none
  | .exit i=>some [⟨.exit i,fr,h,ds⟩]
  | .ret=>some [⟨.ret,fr,h,ds⟩]
  | .scope b=>Bc C call ro ct m b fr h ds
  | .rangeFunc g ps asg body=>match Ra ro fr h ps asg body ds,ev C fr g with
   |some (b,h1,ds1),some g'=>match IZ C h1 g' [.yld b]with
    |some (.enter f args)=>match call (.fn f args) h1 with
     |some l=>bl l fun x=>match x.2.get b with
      |some (.loop ls)=>match ls.st,ls.pend with
       | .busy,_=>none
       |_,none=>some [⟨.normal,fr,x.2.put b (.loop { ls with st:=.exhausted }),ds1⟩]
       |_,some c=>Bc C call ro false m c fr (x.2.put b (.loop { ls with st:=.exhausted })) ds1
      |_=>none
     |none=>none
    |_=>none
   |_,_=>none
  |_=>none
def FQ(p:Pl):List Nat→List Deferred→Prop
 |[],l=>l=[]
 |b::bs,l=>∃r n l',p[b]?=some (r,n)∧l={ target:=.collected r,args:= #[] }::l'∧FQ p bs l'
theorem FT{p:Pl}(q:Pl){b:Nat}{x:Nat×Nat}(h:p[b]?=some x):(p++q)[b]?=some x:=by
 rw[zL (List.getElem?_eq_some_iff.1 h).1];exact h
theorem FQ.mono{p:Pl}(q:Pl):∀ {ds:List Nat} {l:List Deferred},FQ p ds l→FQ (p++q) ds l
 |[],_,h=>h
 |_b::_bs,_l,⟨r,n,l',h1,h2,h3⟩=>⟨r,n,l',FT q h1,h2,h3.mono q⟩
theorem FQ.ext{p p':Pl}{h h':H}{w w':World}(e:Ext p h w p' h' w'){ds:List Nat}{l:List Deferred}(hd:FQ p ds l):FQ p' ds l:=by
 obtain⟨q,rfl⟩:=e.pre;exact hd.mono q
def Nw(p:Pl):Option Nat→Option Nat→Prop
 |none,none=>True
 |some b,some r=>∃n,p[b]?=some (r,n)
 |_,_=>False
theorem Nw.ext{p p':Pl}{h h':H}{w w':World}(e:Ext p h w p' h' w'){ro k:Option Nat}(hd:Nw p ro k):Nw p' ro k:=by
 obtain⟨q,rfl⟩:=e.pre;cases ro with
 |none=>cases k with
  |none=>trivial
  |some r=>exact hd.elim
 |some b=>
  cases k with
  |none=>exact hd
  |some r=>obtain⟨n,hn⟩:=hd;exact⟨n,FT q hn⟩
theorem Ext.at{p p':Pl}{h h':H}{w w':World}(e:Ext p h w p' h' w'){b:Nat}{x:Nat×Nat}(hb:p[b]?=some x):p'[b]?=some x:=by
 obtain⟨q,rfl⟩:=e.pre;exact FT q hb
section
variable {C:Ctx}{P:Program}{call:Cy}{ops:Array Oper}{p:Pl}{h:H}{w:World}{fr:Fr}{a:Act}
theorem G5(hr:R p h w)(hf:BN p fr a){ro k:Option Nat}(hro:Nw p ro k){ps:Array Tmp}{asg body:Code}{ds ds1:List Nat}(hds:FQ p ds a.defers){b:Nat}{h1:H}
  (hd:Ra ro fr h ps asg body ds=some (b,h1,ds1)) (fn:FuncId):∃l mark w1 p1 n,(Instr.enterLoop fn a.tmps ps asg body k).run P w=.ok (l,mark) w1∧Ext p h w p1 h1 w1∧p1[b]?=some (l,n)∧FQ p1 ds1 (mark++a.defers):=by
 unfold Ra at hd;cases ro with
 |none=>
  cases k with
  |some k=>exact hro.elim
  |none=>
   simp only[ze,zl]at hd;obtain⟨rfl,rfl,rfl⟩:=hd;have e1:=Ext.push (n:=0) hr (o:=.defd true) (x:=.deferred (some [])) (by simp[EE]);have hp1:(p++[(w.heap.size,0)])[h.nx]?=some (w.heap.size,0):=by rw[←hr.len];simp
   have hf1:Dy (p++[(w.heap.size,0)]) fr a.tmps:=Dy.mono _ hf;have e2:=Ext.push (n:=0) e1.rel (o:=.loop ⟨.ready,none,fr,ps,asg,body,h.nx⟩) (x:=.loop { state:=.ready,pending:=none,fn,tmps:=a.tmps,params:=ps,assign:=asg,body,defers:=w.heap.size })
    ⟨fn,a.tmps,_,_,hf1,hp1,rfl⟩
   refine⟨_,_,_,_,0,run_enterLoop_outer fn a.tmps ps asg body,e1.trans e2,?_,?_⟩
   ·have:h.nx+1=(p++[(w.heap.size,0)]).length:=by simp[hr.len]
    rw[this,List.getElem?_append_right (zt _)];simp only[Nat.sub_self,List.getElem?_cons_zero,ze,zl,and_true];simp
   ·exact⟨w.heap.size,0,a.defers,FT _ hp1,rfl,FQ.mono _ (FQ.mono _ hds)⟩
 |some b0=>
  cases k with
  |none=>exact hro.elim
  |some k=>
   simp only at hd;split at hd
   case h_2=>cases hd
   rename_i l0 hb0;simp only[ze,zl]at hd;obtain⟨rfl,rfl,rfl⟩:=hd;obtain⟨n0,hn0⟩:=hro;obtain⟨r',n',x,h1,h2,f0,tmps,r,m,h3,h4,rfl⟩:=hr.obj _ _ hb0;rw[hn0]at h1;cases h1;have e2:=Ext.push (n:=0) hr (o:=.loop ⟨.ready,none,fr,ps,asg,body,l0.db⟩) (x:=.loop { state:=.ready,pending:=none,fn,tmps:=a.tmps,params:=ps,assign:=asg,body,defers:=r })
    ⟨fn,a.tmps,_,_,hf,h4,rfl⟩
   refine⟨w.heap.size,[],_,_,0,?_,e2,?_,?_⟩
   ·unfold Instr.enterLoop;simp only[zn,run_getLoop h2,run_newObj_alloc,zj,zH,World.alloc]
   ·rw[←hr.len];simp
   ·exact FQ.mono _ hds
theorem Result.RG{α β:Type}{r:Result α}{f:α→World→Result β}{b:β}{w':World}(h:r.andThen f=.ok b w'):∃a w1,r=.ok a w1∧f a w1=.ok b w':=by
 cases r with
 |ok a w1=>exact⟨a,w1,rfl,h⟩
 |halt x w1=>simp[Result.andThen]at h
theorem Ii(hC:C.Ok P)(hcall:call.Ok C P)(hm:P.follows .mixedOrders=true){ro k:Option Nat}{n:Nat}:∀(m:Nat) (ct:Bool) (c:Code) {fr:Fr} {h:H} {ds:List Nat} {L:List X},(ct=true→CD c=true)→Bc C call ro ct m c fr h ds=some L→
  ∀(p:Pl) (a:Act) (w:World) (Q:Exit→Act→World→Prop),R p h w→Gl C p→BN p fr a→FQ p ds a.defers→Nw p ro k→
   (∀x∈L,∀p' a' w',BN p' x.fr a'→Ext p h w p' x.h w'→FQ p' x.ds a'.defers→Q x.e.N3 a' w')→
   c.wpIn (FW k) n P Q a w∧∀b,c=.loop b→Code.roundsIn (FW k) n P b Q m a w
 |0,ct,c,fr,h,ds,L,hct,hd=>by cases hd
 |m+1,ct,c,fr,h,ds,L,hct,hd=>by
  intro p a w Q hr hg hf hds hro hQ;have ih:∀ {ct:Bool} (c:Code) {fr:Fr} {h:H} {ds:List Nat} {L:List X},(ct=true→CD c=true)→Bc C call ro ct m c fr h ds=some L→∀ {p:Pl} {a:Act} {w:World},R p h w→Gl C p→BN p fr a→FQ p ds a.defers→Nw p ro k→
    ∀ {Q:Exit→Act→World→Prop},(∀x∈L,∀p' a' w',BN p' x.fr a'→Ext p h w p' x.h w'→FQ p' x.ds a'.defers→Q x.e.N3 a' w')→
   c.wpIn (FW k) n P Q a w∧∀b,c=.loop b→Code.roundsIn (FW k) n P b Q m a w:=fun {ct} c {fr h ds L} hct hd {p a w} hr hg hf hds hro {Q} hQ=>Ii hC hcall hm m ct c hct hd p a w Q hr hg hf hds hro hQ
  cases c with
  |skip=>cases hd;exact⟨wpIn_skip (hQ _ (zf.2 rfl) p a w hf (zI hr) hds),fun b hb=>by cases hb⟩
  |label l=>cases hd;exact⟨wpIn_label (hQ _ (zf.2 rfl) p a w hf (zI hr) hds),fun b hb=>by cases hb⟩
  |region id ops dr=>
   refine⟨?_,fun b hb=>by cases hb⟩;simp only[Bc]at hd;cases dr with
   |true=>
    simp only[cond_true]at hd;split at hd
    case h_2=>cases hd
    rename_i fr1 h1 hs;cases hd;refine(show ∀ {Q':Exit→Act→World→Prop},(∀p' a' w',BN p' fr1 a'→Ext p h w p' h1 w'→a'.defers=a.defers→Q' .normal a' w')→(zS id ops true).wpIn (FW k) n P Q' a w from fun {Q'} hq=>?_) fun p1 a1 w1 hf1 he1 hd1=>hQ _ (zf.2 rfl) p1 a1 w1 hf1 he1 (hd1▸hds.ext he1)
    cases ct with
    |false=>exact Uv hC hcall hm hr hg hf hs hq
    |true=>exact Lp (by simpa [CD]using hct rfl) hC hcall hm hr hg hf hs hq
   |false=>
    simp only[cond_false]at hd;split at hd
    case h_2=>cases hd
    rename_i l hs;cases hd;exact Re hC hcall hr hg hf hs fun x hx p1 a1 w1 hf1 he1 hd1=>hQ _ (zY.2 ⟨x,hx,rfl⟩) p1 a1 w1 hf1 he1 (hd1▸hds.ext he1)
  |seq x y=>
   refine⟨wpIn_seq ?_,fun b hb=>by cases hb⟩;simp only[Bc]at hd;split at hd
   case h_2=>cases hd
   rename_i l hs;refine(ih x (fun e=>by have:=hct e;simp[CD]at this;exact this.1) hs hr hg hf hds hro fun z hz p1 a1 w1 hf1 he1 hd1=>?_).1;obtain⟨L1,g1,g2⟩:=F9 hd z hz;cases hze:z.e with
   |normal=>
    simp only[hze]at g1;exact(ih y (fun e=>by have:=hct e;simp[CD]at this;exact this.2) g1 he1.rel (hg.ext he1) hf1 hd1 (hro.ext he1) fun u hu p2 a2 w2 hf2 he2 hd2=>hQ u (g2 u hu) p2 a2 w2 hf2 (he1.trans he2) hd2).1
   |exit i=>
    simp only[hze,ze]at g1;subst g1;have:=hQ z (g2 z (zf.2 rfl)) p1 a1 w1 hf1 he1 hd1;rw[hze]at this;exact this
   |ret=>
    simp only[hze,ze]at g1;subst g1;have:=hQ z (g2 z (zf.2 rfl)) p1 a1 w1 hf1 he1 hd1;rw[hze]at this;exact this
  |cond x b1 b2=>
   refine⟨?_,fun b hb=>by cases hb⟩;simp only[Bc]at hd;split at hd
   case h_1=>
    rename_i hx;have hv:=AP hg hf hx;simp only[Aa]at hv;exact wpIn_cond_true hv (ih b1 (fun e=>by have:=hct e;simp[CD]at this;exact this.1) hd hr hg hf hds hro hQ).1
   case h_2=>
    rename_i hx;have hv:=AP hg hf hx;simp only[Aa]at hv;exact wpIn_cond_false hv (ih b2 (fun e=>by have:=hct e;simp[CD]at this;exact this.2) hd hr hg hf hds hro hQ).1
   case h_3=>cases hd
  |block id b=>
   refine⟨wpIn_block ?_,fun b hb=>by cases hb⟩;simp only[Bc]at hd;split at hd
   case h_2=>cases hd
   rename_i l hs;cases hd;refine(ih b (fun e=>by have:=hct e;simpa [CD]using this) hs hr hg hf hds hro fun z hz p1 a1 w1 hf1 he1 hd1=>?_).1;have hq:=hQ _ (zY.2 ⟨z,hz,rfl⟩) p1 a1 w1;cases hze:z.e with
   |normal=>
    simp only[hze]at hq;exact hq hf1 he1 hd1
   |ret=>
    simp only[hze]at hq;exact hq hf1 he1 hd1
   |exit i=>
    simp only[hze,A1]at hq;by_cases ei:i=id
    ·simp only[ei,decide_true,cond_true]at hq;simp only[DX.N3,Exit.inBlock,ei,if_true];exact hq hf1 he1 hd1
    ·simp only[ei,decide_false,cond_false,hze]at hq;simp only[DX.N3,Exit.inBlock,ei,if_false];exact hq hf1 he1 hd1
  |loop b=>
   have key:Code.roundsIn (FW k) n P b Q (m+1) a w:=by
    rw[roundsIn_succ];simp only[Bc]at hd;split at hd
    case h_2=>cases hd
    rename_i l hs;refine(ih b (fun e=>by have:=hct e;simpa [CD]using this) hs hr hg hf hds hro fun z hz p1 a1 w1 hf1 he1 hd1=>?_).1;obtain⟨L1,g1,g2⟩:=F9 hd z hz;cases hze:z.e with
    |normal=>
     simp only[hze]at g1;exact(ih (.loop b) hct g1 he1.rel (hg.ext he1) hf1 hd1 (hro.ext he1) fun u hu p2 a2 w2 hf2 he2 hd2=>hQ u (g2 u hu) p2 a2 w2 hf2 (he1.trans he2) hd2).2 b rfl
    |exit i=>
     simp only[hze,ze]at g1;subst g1;have:=hQ z (g2 z (zf.2 rfl)) p1 a1 w1 hf1 he1 hd1;rw[hze]at this;exact this
    |ret=>
     simp only[hze,ze]at g1;subst g1;have:=hQ z (g2 z (zf.2 rfl)) p1 a1 w1 hf1 he1 hd1;rw[hze]at this;exact this
   exact⟨wpIn_loop_rounds (m+1) key,fun b' hb=>by cases hb;exact key⟩
  |exit i=>cases hd;exact⟨wpIn_exit (hQ _ (zf.2 rfl) p a w hf (zI hr) hds),fun b hb=>by cases hb⟩
  |ret=>cases hd;exact⟨wpIn_ret (hQ _ (zf.2 rfl) p a w hf (zI hr) hds),fun b hb=>by cases hb⟩
  |scope b=>
   refine⟨Hy ?_,fun b hb=>by cases hb⟩;simp only[Bc]at hd;refine(ih b (fun e=>by have:=hct e;simpa [CD]using this) hd hr hg hf hds hro fun z hz p1 a1 w1 hf1 he1 hd1=>?_).1;have h1:=hQ z hz p1 a1 w1 hf1 he1 hd1;cases hze:z.e<;>rw[hze]at h1<;>exact h1
  |rangeFunc g ps asg body=>
   refine⟨wpIn_rangeFunc fun fn _=>?_,fun b hb=>by cases hb⟩;simp only[Bc]at hd;split at hd
   case h_2=>cases hd
   rename_i b h1 ds1 g' hen hgv;split at hd
   case h_2=>cases hd
   rename_i f args hdc;split at hd
   case h_2=>cases hd
   rename_i l hcl;obtain⟨r,mark,w1,p1,nb,q1,q2,q3,q4⟩:=G5 (P:=P) hr hf hro hds hen fn;have hyld:Al p1 [.yld b] (#[Value.func (.yield r) #[] #[]]).toList:=by
    simp only[AX,E0,and_true];simp only[Aa];exact⟨r,nb,q3,rfl⟩
   obtain⟨args',s1,s2⟩:=Jz hC q2.rel (hg.ext q2) (q2.WM (AP hg hf hgv)) hyld hdc;rw[zn]at s1;obtain⟨d,w1',s3,s4⟩:=Result.RG s1;refine⟨r,mark,w1,d,w1',f,args',w1,q1,?_,fun _ _=>trivial,s4,fun h=>(by simp[FW,zJ]at h),Rn.2 ((hcall.fn f args h1 l hcl p1 w1 args' q2.rel (hg.ext q2) s2).mono ?_)⟩
   ·unfold resolve;simpa [Act.eval]using s3
   ·rintro e w2 ⟨v,h2,v',p2,hmem,rfl,k1,k2⟩;obtain⟨L1,t1,t2⟩:=F9 hd (v,h2) hmem;simp only at t1;split at t1
    case h_2=>cases t1
    rename_i ls hls;obtain⟨r',n',x,u1,u2,f0,tmps,rd,md,u3,u4,rfl⟩:=k2.rel.obj _ _ hls;have hpb:=k2.at q3;rw[hpb]at u1;cases u1;have hbusy:ls.st≠ .busy:=by
     intro e;rw[e]at t1;simp at t1
    obtain⟨W,hW,hput⟩:∃W,(Instr.endLoop r).run P w2=.ok ls.pend W∧Ext p2 h2 w2 p2 (h2.put b (.loop { ls with st:=.exhausted })) W:=
     ⟨_,run_endLoop u2 hbusy,Ext.put k2.rel hls hpb (o':=.loop { ls with st:=.exhausted }) (x':=.loop { state:=.exhausted,pending:=ls.pend,fn:=f0,tmps,params:=ls.ps,assign:=ls.asg,body:=ls.body,defers:=rd }) ⟨f0,tmps,rd,md,u3,u4,rfl⟩ rfl rfl rfl rfl⟩
    have hex:=q2.trans (k2.trans hput);refine⟨ls.pend,W,hW,?_⟩;have hf2:BN p2 fr { a with defers:=mark++a.defers }:=BN.ext (a:={ a with defers:=mark++a.defers }) hf (q2.trans k2);have hd2:FQ p2 ds1 (mark++a.defers):=FQ.ext k2 q4;split at t1
    case h_1=>cases t1
    case h_2=>
     rename_i hpe _;cases t1;simp only[hpe];exact hQ _ (t2 _ (zf.2 rfl)) p2 _ _ hf2 hex hd2
    case h_3=>
     rename_i c hpe _;simp only[hpe];exact(ih c (fun e=>by cases e) t1 hput.rel (hg.ext hex) hf2 hd2 (hro.ext hex) fun u hu p3 a3 w3 hf3 he3 hd3=>hQ u (t2 u hu) p3 a3 w3 hf3 (hex.trans he3) hd3).1
  |goto l=>simp[Bc]at hd
  |refuse s=>simp[Bc]at hd
end
end
end Go.Det
end
section
namespace Go.Det
noncomputable section
section
variable {C:Ctx}{P:Program}{p:Pl}{h:H}{w:World}{fr:Fr}{a:Act}
def Sd(C:Ctx)(fr:Fr)(h:H):ResultVar→Option V
 | .tmp t=>some (fr.get t)
 | .cell a t=>DE C.T h t (fr.get a)
def K8(C:Ctx)(fr:Fr)(h:H):List ResultVar→Option (List V)
 |[]=>some []
 |r::rs=>match Sd C fr h r,K8 C fr h rs with
  |some v,some vs=>some (v::vs)
  |_,_=>none
def Lu(C:Ctx)(fr:Fr)(h:H)(rs:List ResultVar):Option V:=
 match K8 C fr h rs with
 |some [v]=>some v
 |some vs=>some (.tup vs)
 |none=>none
def XO(a:Act):ResultVar→Sem Value
 | .tmp t=>pure (a.tmps.getD t undef)
 | .cell x t=>do loadVar t (←asAddr (a.tmps.getD x undef))
theorem Rw(fn:Func)(a:Act):results fn a.tmps=(do let vs←fn.results.mapM (XO a);pure (if h:vs.size=1 then vs[0]else .tuple vs)):=by
 unfold results;congr 1
theorem UN(hT:C.T.Ok P)(hr:R p h w)(hf:BN p fr a){r:ResultVar}{v:V}(hd:Sd C fr h r=some v):
  ∃v',(XO a r).run P w=.ok v' w∧Aa p v v':=by
 cases r with
 |tmp t=>cases hd;exact⟨_,rfl,hf.2 t⟩
 |cell x t=>
  simp only[Sd]at hd;obtain⟨v',h1,h2⟩:=Py (P:=P) hT hr (hf.2 x) hd;refine⟨v',?_,h2⟩;have hp:∃b i,fr.get x=.ptr b i:=by
   unfold DE at hd;split at hd
   ·rename_i b off d i e1 e2 e3;exact⟨b,off,e1⟩
   ·cases hd
  obtain⟨b,i,e⟩:=hp;have hv:=hf.2 x;rw[e]at hv;simp only[Aa]at hv;obtain⟨r,n,_,hv⟩:=hv;rw[hv]at h1;simp only[XO,hv];exact h1
theorem PT(hT:C.T.Ok P)(hr:R p h w)(hf:BN p fr a):∀ {rs:List ResultVar} {vs:List V},K8 C fr h rs=some vs→
  ∃vs':List Value,(rs.mapM (XO a)).run P w=.ok vs' w∧Al p vs vs'
 |[],vs,hd=>by cases hd;exact⟨[],rfl,by simp⟩
 |r::rs,vs,hd=>by
  unfold K8 at hd;split at hd
  case h_2=>cases hd
  rename_i v vs1 h1 h2;cases hd;obtain⟨v',g1,g2⟩:=UN (P:=P) hT hr hf h1;obtain⟨vs',g3,g4⟩:=PT hT hr hf h2;refine⟨v'::vs',?_,(AX ..).2 ⟨g2,g4⟩⟩;rw[List.mapM_cons];simp only[zn];rw[g1];simp only[zj,g3,zH]
theorem XW(hT:C.T.Ok P)(hr:R p h w)(hf:BN p fr a){fn:Func}{v:V}(hd:Lu C fr h fn.results.toList=some v):∃v',(results fn a.tmps).run P w=.ok v' w∧Aa p v v':=by
 unfold Lu at hd;cases hs:K8 C fr h fn.results.toList with
 |none=>simp[hs]at hd
 |some vs=>
  obtain⟨vs',g1,g2⟩:=PT (P:=P) hT hr hf hs;have hl:=g2.length;have hrun:(results fn a.tmps).run P w=.ok (if h:vs'.toArray.size=1 then vs'.toArray[0]else .tuple vs'.toArray) w:=by
   rw[Rw];simp only[zn];rw[Array.mapM_eq_mapM_toList];simp only[Sem.run_map,g1,zj,zH]
  refine⟨_,hrun,?_⟩;simp only[hs]at hd;cases vs with
  |nil=>
   cases hd;have:vs'=[]:=List.length_eq_zero_iff.1 hl.symm;subst this;simp[Aa]
  |cons x xs=>
   cases xs with
   |nil=>
    cases hd;obtain⟨y,rfl,h1⟩:=g2.one;simpa using h1
   |cons x2 xs=>
    cases hd;rw[dif_neg (by simp at hl ⊢;omega)];simp only[Aa];exact⟨_,rfl,g2⟩
def Ph:List V→Nat→PM V→PM V
 |[],_,m=>m
 |v::vs,i,m=>Ph vs (i+1) (m.set i (some v))
def JQ(n:Nat)(args:List V):Fr:=⟨args.length+(n-args.length),Ph args 0 .leaf⟩
theorem Jv:∀(vs:List V) (i:Nat) (m:PM V) (t:Nat),(Ph vs i m).get t=if i≤t∧t<i+vs.length then vs[t-i]? else m.get t
 |[],i,m,t=>by simp[Ph];omega
 |v::vs,i,m,t=>by
  unfold Ph;rw[Jv vs (i+1) _ t];by_cases e:t=i
  ·subst e;rw[if_neg (by omega),if_pos (by simp)];simp
  ·by_cases e2:i+1≤t∧t<i+1+vs.length
   ·rw[if_pos e2,if_pos (by simp;omega)];have:t-i=(t-(i+1))+1:=by omega
    rw[this];simp
   ·rw[if_neg e2,if_neg (by simp;omega)];simp[e]
theorem Vf{args:List V}{args':Array Value}(ha:Al p args args'.toList)(n:Nat):BN p (JQ n args) { tmps:=args'++zR (n-args'.size) undef,defers:=[] }:=by
 have hl:=ha.length;simp at hl;refine⟨by simp[JQ,hl],fun t=>?_⟩;unfold JQ Fr.get;rw[Jv];by_cases ht:t<args.length
 ·rw[if_pos (by omega)];obtain⟨u,h1,h2⟩:=ha.get (i:=t) (d:=args[t]) (by simp[ht]);have h1':args'[t]?=some u:=by simpa using h1
  simp only[Nat.sub_zero,zO ht,zP];rw[zi,Array.getElem?_append_left (by omega),h1'];exact h2
 ·rw[if_neg (by omega)];simp only[PM.Cq,Option.getD_none];have:(args'++zR (n-args'.size) undef).getD t undef=undef:=by
   rw[zi,Array.getElem?_append_right (by omega)];rw[Array.getElem?_replicate];split<;>rfl
  rw[this];simp[Aa,undef]
def Ei:List Nat→H→Option H
 |[],h=>some h
 |b::bs,h=>match h.get b with
  |some (.defd true)=>Ei bs (h.put b (.defd false))
  |_=>none
theorem MZ{fn:Func}{tmps:Array Value}{n:Nat}:∀ {ds:List Nat} {l:List Deferred} {p:Pl} {h:H} {w:World} {h1:H},FQ p ds l→R p h w→Ei ds h=some h1→
  ∃w1,Ext p h w p h1 w1∧∀R':Ending→World→Prop,(∃v,(results fn tmps).run P w1=.ok v w1∧R' (.returned v) w1)→LeavesInM zJ n P fn tmps R' l .returning w
 |[],l,p,h,w,h1,hd,hr,hl=>by
  cases hl;cases (show l=[]from hd);exact⟨w,zI hr,fun R' hR=>hR⟩
 |b::bs,l,p,h,w,h1,hd,hr,hl=>by
  unfold Ei at hl;split at hl
  case h_2=>cases hl
  rename_i hb;obtain⟨r,m,l',hp,rfl,hd'⟩:=hd;obtain⟨r',m',x,k1,k2,k3⟩:=hr.obj _ _ hb;rw[hp]at k1;cases k1;simp only[EE,cond_true]at k3;subst k3;have hput:=Ext.put hr hb hp (o':=.defd false) (x':=.deferred none) (by simp[EE]) (w':=w.putObj r (.deferred none)) rfl rfl rfl rfl;obtain⟨w1,g1,g2⟩:=MZ (fn:=fn) (tmps:=tmps) (n:=n) hd' hput.rel hl;exact⟨w1,hput.trans g1,fun R' hR=>⟨by simp,.inl ⟨r,_,rfl,run_takeDeferred k2,g2 R' hR⟩⟩⟩
def Ot(C:Ctx)(m:Nat)(call:Cy)(b:Nat)(ls:LS)(fr:Fr)(h:H):Option (List (V×H)):=
 match Bc C call (some b) false m ls.asg fr h []with
 |some l=>bl l fun x=>match x.e,x.h.get b with
  | .normal,some (.loop l1)=>match l1.st with
   | .ready=>match Bc C call (some b) false m ls.body x.fr (x.h.put b (.loop { l1 with st:=.busy })) x.ds with
    |some l2=>bl l2 fun y=>match y.h.get b with
     |some (.loop l3)=>match y.e with
      | .normal=>some [(.bool true,y.h.put b (.loop { l3 with st:=.ready,pend:=none }))]
      | .ret=>some [(.bool false,y.h.put b (.loop { l3 with st:=.done,pend:=some .ret }))]
      | .exit i=>some [(.bool false,y.h.put b (.loop { l3 with st:=.done,pend:=some (.exit i) }))]
     |_=>none
    |none=>none
   |_=>none
  |_,_=>none
 |none=>none
mutual
def I0:V→List Nat
 | .ptr b _| .sl b _ _ _ _| .map b| .yld b=>[b]
 | .fn _ a b=>Gg a++Gg b
 | .iface _ v=>I0 v
 | .agg l| .tup l=>Gg l
 |_=>[]
def Gg:List V→List Nat
 |[]=>[]
 |v::vs=>I0 v++Gg vs
end
def XH:O→List Nat
 | .cells cs _ _=>Gg cs
 | .map es _=>es.flatMap fun e=>I0 e.1++I0 e.2.1
 |_=>[]
def reach(h:H)(n0:Nat):Nat→List Nat→List Nat→List Nat
 |0,_,acc=>acc
 |_+1,[],acc=>acc
 |f+1,b::bs,acc=>bif zq b n0||acc.any (zh b)then reach h n0 f bs acc
  else match h.get b with
   |some o=>reach h n0 f (XH o++bs) (b::acc)
   |none=>reach h n0 f bs acc
def Kt(LL:List Nat):Nat→Nat→H→H
 |0,_,h=>h
 |f+1,b,h=>Kt LL f (b+1) (bif LL.any (zh b)then h else h.kill b)
def U7:O→Bool
 | .loop l=>match l.st with| .exhausted=>true|_=>false
 |_=>false
def PH:Option O→Option O
 |some o=>bif U7 o then none else some o
 |none=>none
def N0:PM O→PM O
 | .leaf=>.leaf
 | .node l v r=>.node (N0 l) (PH v) (N0 r)
theorem IC:∀(q:ET) (m:PM O),q.get (N0 m)=PH (q.get m)
 |ET.here,PM.leaf=>rfl
 |ET.l _,PM.leaf=>rfl
 |ET.r _,PM.leaf=>rfl
 |ET.here,PM.node _ _ _=>rfl
 |ET.l q,PM.node l _ _=>IC q l
 |ET.r q,PM.node _ _ r=>IC q r
def H.VZ(h:H):H:=⟨N0 h.m,h.nx⟩
theorem PE{p:Pl}{h:H}{w:World}(hr:R p h w):Ext p h w p h.VZ w:=by
 have sub:∀b o,h.VZ.get b=some o→h.get b=some o:=by
  intro b o hb;have:h.VZ.get b=PH (h.get b):=IC _ _;rw[this]at hb;cases hg:h.get b with
  |none=>rw[hg]at hb;cases hb
  |some x=>
   rw[hg]at hb;unfold PH at hb;cases hi:U7 x with
   |true=>simp[hi]at hb
   |false=>simpa [hi]using hb
 refine⟨⟨[],by simp⟩,⟨hr.len,fun b o hb=>hr.obj b o (sub b o hb),fun b b' o o' r n n' hb hb'=>hr.inj b b' o o' r n n' (sub b o hb) (sub b' o' hb')⟩,zt _,fun _ _ _=>rfl,fun r hi=>?_,rfl,rfl,rfl,fun r hlt hl=>⟨rfl,?_⟩⟩
 ·obtain⟨b,o,n,h1,h2⟩:=hi;exact .inl ⟨b,o,n,sub b o h1,h2⟩
 ·obtain⟨b,n,cs,t,fz,h1,h2,h3⟩:=hl;refine .inl ⟨b,n,cs,t,fz,?_,h2,h3⟩;rw[show h.VZ.get b=PH (h.get b)from IC _ _,h1];rfl
def fQ(n0:Nat)(x:V×H):V×H:=(x.1,Kt (reach x.2 n0 1000 (I0 x.1) []) (x.2.nx-n0) n0 x.2.VZ)
def Ue:List (V×V×Nat)→List (V×V×Nat)→Bool
 |[],[]=>true
 |(a,b,c)::l,(a',b',c')::l'=>V.beq a a'&&V.beq b b'&&zh c c'&&Ue l l'
 |_,_=>false
def Mj:List Nat→List Nat→Bool
 |[],[]=>true
 |a::l,b::l'=>zh a b&&Mj l l'
 |_,_=>false
def aK:O→O→Bool
 | .cells cs t fz,.cells cs' t' fz'=>V.Iq cs cs'&&zh t t'&&zh fz.1 fz'.1&&zh fz.2 fz'.2
 | .map es c,.map es' c'=>Ue es es'&&zh c c'
 | .siter s n,.siter s' n'=>s==s'&&zh n n'
 | .miter none a l b,.miter none a' l' b'=>zh a a'&&Mj l l'&&zh b b'
 | .miter (some m) a l b,.miter (some m') a' l' b'=>zh m m'&&zh a a'&&Mj l l'&&zh b b'
 | .defd a,.defd b=>a==b
 |_,_=>false
def NM:Option O→Option O→Bool
 |none,none=>true
 |some a,some b=>aK a b
 |_,_=>false
def LP:PM O→PM O→Bool
 | .leaf,.leaf=>true
 | .node l v r,.node l' v' r'=>NM v v'&&LP l l'&&LP r r'
 |_,_=>false
def Ss(x y:V×H):Bool:=V.beq x.1 y.1&&zh x.2.nx y.2.nx&&LP x.2.m y.2.m
def dedup:List (V×H)→List (V×H)
 |[]=>[]
 |x::l=>let r:=dedup l;bif r.any (Ss x)then r else x::r
def Mp(n0:Nat):List (V×H)→List (V×H)
 |[]=>[]
 |[x]=>[x]
 |l=>dedup (l.map (fQ n0))
theorem So:∀ {a b:List (V×V×Nat)},Ue a b=true→a=b
 |[],[],_=>rfl
 |[],_::_,h=>by simp[Ue]at h
 |_::_,[],h=>by simp[Ue]at h
 |(a,b,c)::l,(a',b',c')::l',h=>by
  simp only[Ue,zd]at h;rw[V.beq_eq h.1.1.1,V.beq_eq h.1.1.2,zg h.1.2,So h.2]
theorem LM:∀ {a b:List Nat},Mj a b=true→a=b
 |[],[],_=>rfl
 |[],_::_,h=>by simp[Mj]at h
 |_::_,[],h=>by simp[Mj]at h
 |a::l,b::l',h=>by
  simp only[Mj,zd]at h;rw[zg h.1,LM h.2]
theorem Sn{a b:O}(h:aK a b=true):a=b:=by
 unfold aK at h;split at h
 ·rename_i fz _ _ fz';simp only[zd]at h;obtain⟨⟨⟨h1,h2⟩,h3⟩,h4⟩:=h;rw[V.Fv h1,zg h2,show fz=fz' from Prod.ext (zg h3) (zg h4)]
 ·simp only[zd]at h;rw[So h.1,zg h.2]
 ·simp only[zd,beq_iff_eq]at h;rw[h.1,zg h.2]
 ·simp only[zd]at h;rw[zg h.1.1,LM h.1.2,zg h.2]
 ·simp only[zd]at h;rw[zg h.1.1.1,zg h.1.1.2,LM h.1.2,zg h.2]
 ·simp only[beq_iff_eq]at h;rw[h]
 ·cases h
theorem LK:∀ {a b:PM O},LP a b=true→a=b
 | .leaf,.leaf,_=>rfl
 | .leaf,.node _ _ _,h=>by simp[LP]at h
 | .node _ _ _,.leaf,h=>by simp[LP]at h
 | .node l v r,.node l' v' r',h=>by
  simp only[LP,zd]at h;rw[LK h.1.2,LK h.2];congr 1;cases v<;>cases v'<;>first|rfl|exact congrArg some (Sn h.1.1)|(simp[NM]at h)
theorem WJ{x y:V×H}(h:Ss x y=true):x=y:=by
 simp only[Ss,zd]at h;obtain⟨v,m,n⟩:=x;obtain⟨v',m',n'⟩:=y;have h1:=V.beq_eq h.1.1;have h2:=zg h.1.2;have h3:=LK h.2;simp only at h1 h2 h3;rw[h1,h2,h3]
theorem Jw:∀ {l:List (V×H)} {x:V×H},x∈l→x∈dedup l
 |a::l,x,h=>by
  unfold dedup;simp only;cases hc:(dedup l).any (Ss a)with
  |true=>
   simp only[cond_true];rcases zU.1 h with rfl|h
   ·obtain⟨y,hy,he⟩:=zD.1 hc;rw[WJ he];exact hy
   ·exact Jw h
  |false=>
   simp only[cond_false];rcases zU.1 h with rfl|h
   ·exact List.mem_cons_self
   ·exact List.mem_cons_of_mem _ (Jw h)
theorem GP(LL:List Nat):∀(f b:Nat) {p:Pl} {h:H} {w:World},R p h w→Ext p h w p (Kt LL f b h) w
 |0,_,_,_,_,hr=>zI hr
 |f+1,b,p,h,w,hr=>by
  unfold Kt;cases LL.any (zh b)with
  |true=>simp only[cond_true];exact GP LL f (b+1) hr
  |false=>simp only[cond_false];exact(Ext.kill hr b).trans (GP LL f (b+1) (hr.kill b))
theorem EL.merge{l:List (V×H)}{n0:Nat}{e:Ending}{w':World}(hc:EL p h w l e w'):EL p h w (Mp n0 l) e w':=by
 obtain⟨v,h',v',p',hm,he,hv,hx⟩:=hc;unfold Mp;split
 ·cases hm
 ·exact⟨v,h',v',p',hm,he,hv,hx⟩
 ·exact⟨v,(fQ n0 (v,h')).2,v',p',Jw (zY.2 ⟨_,hm,rfl⟩),he,hv,hx.trans ((PE hx.rel).trans (GP _ _ _ (PE hx.rel).rel))⟩
def AY(C:Ctx):Nat→Cy
 |0=>fun _ _=>none
 |n+1=>fun c h=>
  match c with
  | .rnd b ls fr=>Ot C n (AY C n) b ls fr h
  | .fn f args=>
   match C.spec f with
   |some q=>match q args h with
    |some x=>some [x]
    |none=>none
   |none=>
    match C.fn f with
    |none=>none
    |some i=>
     match Bc C (AY C n) none i.cert n i.body (JQ i.ntmps args) h []with
     |none=>none
     |some l=>match (bl l fun x=>match x.e with
      | .exit _=>none
      |_=>match Ei x.ds x.h with
       |some h1=>match Lu C x.fr h1 i.results.toList with
        |some v=>some [(v,h1)]
        |none=>none
       |none=>none)with
      |some r=>some (bif C.mg then Mp h.nx r else r)
      |none=>none
theorem J9(hr:R p h w){b r n:Nat}{ls:LS}(hb:h.get b=some (.loop ls))(hp:p[b]?=some (r,n)):
  ∃rec:Loop,w.heap[r]?=some (.loop rec)∧rec.state=ls.st∧rec.pending=ls.pend∧∀(st:LoopState) (pe:Option Code),Ext p h w p (h.put b (.loop { ls with st:=st,pend:=pe })) (w.putObj r (.loop { rec with state:=st,pending:=pe })):=by
 obtain⟨r',n',x,u1,u2,f0,tmps,rd,md,u3,u4,rfl⟩:=hr.obj _ _ hb;rw[hp]at u1;cases u1;exact⟨_,u2,rfl,rfl,fun st pe=>Ext.put hr hb hp (o':=.loop { ls with st:=st,pend:=pe }) ⟨f0,tmps,rd,md,u3,u4,rfl⟩ rfl rfl rfl rfl⟩
theorem M6(hC:C.Ok P){call:Cy}(hcall:call.Ok C P)(hm:P.follows .mixedOrders=true){b:Nat}{ls:LS}{l:List (V×H)}{k m mm:Nat}(hd:Ot C mm call b ls fr h=some l){f:FuncId}{tmps:Array Value}
  (hr:R p h w) (hg:Gl C p) (hp:p[b]?=some (k,m)) (hf:Dy p fr tmps):RoundIn zJ 0 P k f tmps ls.asg ls.body w (EL p h w l):=by
 unfold Ot at hd;split at hd
 case h_2=>cases hd
 rename_i L hL;refine roundIn_of_wpIn trivial ?_;refine(Ii (k:=some k) (n:=0) hC hcall hm mm false ls.asg (fun e=>by cases e) hL p { tmps:=tmps,defers:=[] } w _ hr hg hf rfl ⟨m,hp⟩ fun x hx p1 a1 w1 hf1 he1 hd1=>?_).1;obtain⟨L1,g1,g2⟩:=F9 hd x hx;split at g1
 case h_2=>cases g1
 rename_i l1 hxe hl1;split at g1
 case h_2=>cases g1
 rename_i hst;split at g1
 case h_2=>cases g1
 rename_i L2 hL2;rw[hxe];obtain⟨rec,q1,q2,q3,q4⟩:=J9 he1.rel hl1 (he1.at hp);have e2:=q4 .busy l1.pend;refine⟨_,run_beginRound q1 (q2.trans hst),?_⟩;have e2':Ext p1 x.h w1 p1 (x.h.put b (.loop { l1 with st:=.busy })) (w1.putObj k (.loop { rec with state:=.busy })):=by
  have:({ rec with state:=.busy }:Loop)={ rec with state:=.busy,pending:=l1.pend }:=by rw[←q3]
  rw[this];exact e2
 have ex:=he1.trans e2';refine(Ii (k:=some k) (n:=0) hC hcall hm mm false ls.body (fun e=>by cases e) hL2 p1 a1 _ _ e2'.rel (hg.ext ex) hf1 hd1 ⟨m,he1.at hp⟩ fun y hy p2 a2 w2 hf2 he2 hd2=>?_).1;obtain⟨L3,t1,t2⟩:=F9 g1 y hy;split at t1
 case h_2=>cases t1
 rename_i l3 hl3;obtain⟨rec2,s1,s2,s3,s4⟩:=J9 he2.rel hl3 (he2.at (he1.at hp));cases hye:y.e with
 |normal=>
  simp only[hye,ze]at t1;subst t1;exact⟨_,_,run_endRound none s1,.bool true,_,.bool true,p2,g2 _ (t2 _ (zf.2 rfl)),rfl,by simp[Aa],ex.trans (he2.trans (s4 .ready none))⟩
 |ret=>
  simp only[hye,ze]at t1;subst t1;exact⟨_,_,run_endRound (some .ret) s1,.bool false,_,.bool false,p2,g2 _ (t2 _ (zf.2 rfl)),rfl,by simp[Aa],ex.trans (he2.trans (s4 .done (some .ret)))⟩
 |exit i=>
  simp only[hye,ze]at t1;subst t1;exact⟨_,_,run_endRound (some (.exit i)) s1,.bool false,_,.bool false,p2,g2 _ (t2 _ (zf.2 rfl)),rfl,by simp[Aa],ex.trans (he2.trans (s4 .done (some (.exit i))))⟩
def Ez(C:Ctx):Prop:=∀f i,C.fn f=some i→i.cert=true→CD i.body=true
theorem Ga(hC:C.Ok P)(hce:Ez C)(hm:P.follows .mixedOrders=true):∀n,(AY C n).Ok C P
 |0=>⟨fun f args h l hd=>(by cases hd),fun b ls fr h l hd=>(by cases hd)⟩
 |n+1=>by
  refine⟨fun f args h l hd p w args' hr hg ha=>?_,fun b ls fr h l hd p w k m f tmps hr hg hb hp hf=>M6 hC (Ga hC hce hm n) hm hd hr hg hp hf⟩;unfold AY at hd;simp only at hd;split at hd
  case h_1=>
   rename_i q hq;split at hd
   case h_2=>cases hd
   rename_i x hx;cases hd;refine(hC.spec f q hq p h w args args' x.1 x.2 hr hg ha hx).mono ?_;rintro e w' ⟨v',p',rfl,g1,g2⟩;exact⟨x.1,x.2,v',p',zf.2 rfl,rfl,g1,g2⟩
  case h_2=>
   split at hd
   case h_1=>cases hd
   rename_i i hi;split at hd
   case h_1=>cases hd
   rename_i L hL;split at hd
   case h_2=>cases hd
   rename_i lr hd';cases hd;refine Calls.mono ?_ (fun e w' hc=>(show EL p h w (bif C.mg then Mp h.nx lr else lr) e w' from by cases C.mg with|true=>exact EL.merge hc|false=>exact hc));have hd:=hd';generalize lr=l at hd;obtain⟨fn,h1,h2,h3,h4,h5⟩:=hC.fn f i hi;have h6:=hce f i hi;refine callsIn_wide.1 (callsIn_of_wp_marks (F:=zJ) (n:=0) h1 h3 trivial ?_);rw[h4];refine(Ii (k:=none) (n:=0) hC (Ga hC hce hm n) hm n i.cert i.body h6 hL p _ w _ hr hg (Vf ha i.ntmps) rfl trivial fun x hx p1 a1 w1 hf1 he1 hd1=>?_).1;obtain⟨L1,g1,g2⟩:=F9 hd x hx;have fin:∀ {h1:H} {v:V},Ei x.ds x.h=some h1→Lu C x.fr h1 i.results.toList=some v→L1=[(v,h1)]→LeavesInM zJ 0 P fn a1.tmps (EL p h w l) a1.defers .returning w1:=by
    intro h1 v hle hres hL1;subst hL1;obtain⟨w2,q1,q2⟩:=MZ (P:=P) (fn:=fn) (tmps:=a1.tmps) (n:=0) hd1 he1.rel hle;obtain⟨v',s1,s2⟩:=XW (P:=P) (fn:=fn) hC.T q1.rel (hf1.ext q1) (by rw[h5];exact hres);exact q2 _ ⟨v',s1,v,h1,v',p1,g2 _ (zf.2 rfl),rfl,s2,he1.trans q1⟩
   split at g1
   case h_1=>cases g1
   case h_2=>
    rename_i hne;split at g1
    case h_2=>cases g1
    rename_i h2 hle;split at g1
    case h_2=>cases g1
    rename_i v hres;cases g1;cases hxe:x.e with
    |normal=>exact fin hle hres rfl
    |ret=>exact fin hle hres rfl
    |exit j=>exact absurd hxe (hne j)
end
end
end Go.Det
end
section
namespace Go.Det
noncomputable section
def U3(P:Program)(t:TypeId):Option TI:=
 match P.info? t with
 |some i=>match i.zero with
  |some z=>match cv z with
   |some v=>some ⟨i.size,i.bytes,v⟩
   |none=>none
  |none=>none
 |none=>none
theorem V3{P:Program}{t:TypeId}{i:TI}(h:U3 P t=some i):∃j v,P.info? t=some j∧j.size=i.size∧j.bytes=i.bytes∧j.zero=some v∧∀p,Aa p i.zv v:=by
 unfold U3 at h;split at h
 case h_2=>cases h
 rename_i j hj;split at h
 case h_2=>cases h
 rename_i z hz;split at h
 case h_2=>cases h
 rename_i v hv;cases h;exact⟨j,z,hj,rfl,rfl,hz,fun p=>RP p hv⟩
def Xn(P:Program)(t:TypeId):Option FK:=
 match P.underlying t with
 |some (.int k)=>some (.int k)
 |some .string=>some .str
 |some .bool=>some .bool
 |_=>none
def Lv(P:Program):List Field→Nat→Option (List FK)
 |[],_=>some []
 | f :: fs, i => if f.name = "_" ∨ f.offset ≠ i then none else match Xn P f.type, Lv P fs (i + 1) with
  |some k,some ks=>some (k::ks)
  |_,_=>none
def Rl(P:Program)(t:TypeId):Option (List FK):=
 match P.underlying t with
 |some (.struct fs)=>if P.stoodInHeld t=true∨P.eqGuardType P.depth t=true then none else Lv P fs.toList 0
 |_=>none
def U6:TypeDesc→Bool
 | .pointer _=>false
 |_=>true
def Wl(P:Program)(t:TypeId)(name:String):Option FuncId:=
 match P.info? t,P.underlying t with
 |some j,some d=>match j.methods.find? (·.name==name)with
  |some m=>match m.path,m.func with
   |⟨[]⟩,some (f,false)=>bif U6 d then some f else none
   |_,_=>none
  |none=>none
 |_,_=>none
theorem WB{P:Program}{t:TypeId}{name:String}{f:FuncId}(h:Wl P t name=some f):∃j m d,P.info? t=some j∧j.methods.find? (·.name==name)=some m∧m.path= #[]∧m.func=some (f,false)∧P.underlying t=some d∧∀e,d≠ .pointer e:=by
 unfold Wl at h;split at h
 case h_2=>cases h
 rename_i j d h1 h2;split at h
 case h_2=>cases h
 rename_i m h3;split at h
 case h_2=>cases h
 rename_i f' h4 h5;cases hp:U6 d with
 |false=>rw[hp]at h;cases h
 |true=>
  rw[hp]at h;simp only[cond_true,ze]at h;subst h;exact⟨j,m,d,h1,h3,h4,h5,h2,fun e he=>by subst he;cases hp⟩
def Zo(P:Program):BA:=⟨P.underlying,U3 P,Rl P,Wl P⟩
section
variable {P:Program}{p:Pl}
theorem Ma{t:TypeId}{k:FK}(h:Xn P t=some k):∃d,P.underlying t=some d∧CS d=false∧(∀ms,d≠ .interface ms)∧match k with
  | .int k=>d=.int k
  | .str=>d=.string
  | .bool=>d=.bool:=by
 unfold Xn at h;split at h
 case h_1=>rename_i hu;cases h;exact⟨_,hu,rfl,fun _ e=>(by cases e),rfl⟩
 case h_2=>rename_i hu;cases h;exact⟨_,hu,rfl,fun _ e=>(by cases e),rfl⟩
 case h_3=>rename_i hu;cases h;exact⟨_,hu,rfl,fun _ e=>(by cases e),rfl⟩
 case h_4=>cases h
theorem K0{t:TypeId}{d:TypeDesc}(hu:P.underlying t=some d)(ha:CS d=false){cs:Array Value}{i:Nat}{v:Value}(hv:cs[i]?=some v)(w:World):(part t cs i).run P w=.ok v w:=by
 unfold part isAgg;have hund:(underlying t).run P w=.ok d w:=by unfold underlying;simp[hu]
 simp only[zn,hund,zj];cases d<;>first|(cases ha;done)|simp[hv]
theorem SK{t:TypeId}{k:FK}(h:Xn P t=some k){a b:V}{a' b':Value}(ha:k.ok a=true)(hb:k.ok b=true)(hra:Aa p a a')(hrb:Aa p b b'){r:Bool}(hs:CL a b=some r)(d:Nat)(w:World):
  (Op.equalIn (d+1) t a' b').run P w=.ok r w:=by
 obtain⟨D,hu,_,_,hk⟩:=Ma h;cases k with
 |int k=>
  simp only at hk;subst hk;cases a<;>simp only[FK.ok]at ha<;>try (cases ha;done)
  cases b<;>simp only[FK.ok]at hb<;>try (cases hb;done)
  simp only[Aa]at hra hrb;subst hra hrb;simp at ha hb;subst ha hb;simp[CL]at hs;rw[run_equalIn_int w d t _ _ _ _ hu,hs]
 |str=>
  simp only at hk;subst hk;cases a<;>simp only[FK.ok]at ha<;>try (cases ha;done)
  cases b<;>simp only[FK.ok]at hb<;>try (cases hb;done)
  simp only[Aa]at hra hrb;subst hra hrb;simp only[CL,ze]at hs;rw[run_equalIn_string w d t _ _ hu,Ea,Ea,hs]
 |bool=>
  simp only at hk;subst hk;cases a<;>simp only[FK.ok]at ha<;>try (cases ha;done)
  cases b<;>simp only[FK.ok]at hb<;>try (cases hb;done)
  simp only[Aa]at hra hrb;subst hra hrb;simp only[CL,ze]at hs;rw[run_equalIn_bool' w d t _ _ hu,hs]
theorem O9:∀ {ks:List FK} {x:List V},fit ks x=true→ks.length=x.length
 |[],[],_=>rfl
 |[],_::_,h=>by simp[fit]at h
 |_::_,[],h=>by simp[fit]at h
 |k::ks,v::vs,h=>by
  unfold fit at h;cases hk:k.ok v with
  |false=>simp[hk]at h
  |true=>simp only[hk,cond_true]at h;simp[O9 h]
theorem IA(d:Nat){w:World}{x' y':Array Value}:∀ {fs:List Field} {i:Nat} {ks:List FK},Lv P fs i=some ks→∀ {x y:List V} {u v:List Value},fit ks x=true→fit ks y=true→Al p x u→Al p y v→
  (∀j a,u[j]?=some a→x'[i+j]?=some a)→(∀j a,v[j]?=some a→y'[i+j]?=some a)→∀ {r:Bool},Bn x y=some r→(Op.eqFields (d+1) x' y' fs).run P w=.ok r w
 |[],i,ks,hk,x,y,u,v,hx,hy,_,_,_,_,r,hs=>by
  cases hk;cases x with
  |cons _ _=>simp[fit]at hx
  |nil=>cases y with
   |cons _ _=>simp[fit]at hy
   |nil=>simp[Bn]at hs;subst hs;simp[Op.eqFields]
 |f::fs,i,ks,hk,x,y,u,v,hx,hy,hu,hv,gx,gy,r,hs=>by
  unfold Lv at hk;split at hk
  case isTrue=>cases hk
  rename_i hno;have hno1 : f.name ≠ "_" := fun e => hno (.inl e)
  have hno2:f.offset=i:=zz fun e=>hno (.inr e)
  split at hk
  case h_2=>cases hk
  rename_i k ks' h1 h2;cases hk;cases x with
  |nil=>simp[fit]at hx
  |cons a x=>cases y with
   |nil=>simp[fit]at hy
   |cons b y=>
    simp only[Al]at hu hv;obtain⟨a',u',rfl,hu1,hu2⟩:=hu;obtain⟨b',v',rfl,hv1,hv2⟩:=hv;have ka:k.ok a=true:=by unfold fit at hx;cases hk:k.ok a with|false=>simp[hk]at hx|true=>rfl
    have kb:k.ok b=true:=by unfold fit at hy;cases hk:k.ok b with|false=>simp[hk]at hy|true=>rfl
    have fx:fit ks' x=true:=by unfold fit at hx;rw[ka]at hx;exact hx
    have fy:fit ks' y=true:=by unfold fit at hy;rw[kb]at hy;exact hy
    obtain⟨D,hund,hagg,_,_⟩:=Ma h1;have pa:=K0 hund hagg (gx 0 a' rfl) w;have pb:=K0 hund hagg (gy 0 b' rfl) w;simp only[zZ]at pa pb;simp only[Op.eqFields,hno1,ne_eq,not_false_eq_true,if_true,zn,hno2,pa,pb,zj];unfold Bn at hs;split at hs
    case h_1=>
     rename_i hc;rw[SK h1 ka kb hu1 hv1 hc];simp only[zj,Bool.not_true,zu,if_false];exact IA d h2 fx fy hu2 hv2 (fun j c hj=>by have:=gx (j+1) c (by simpa using hj);rwa [show i+1+j=i+(j+1)from by omega]) (fun j c hj=>by have:=gy (j+1) c (by simpa using hj);rwa [show i+1+j=i+(j+1)from by omega]) hs
    case h_2=>
     rename_i hc;rw[SK h1 ka kb hu1 hv1 hc];split at hs
     ·cases hs;simp
     ·cases hs
    case h_3=>cases hs
theorem HN{b:Bool}{w:World}{x':Array Value}:∀ {fs:List Field} {i:Nat} {ks:List FK},Lv P fs i=some ks→∀ {x:List V} {u:List Value},fit ks x=true→Al p x u→
  (∀j a,u[j]?=some a→x'[i+j]?=some a)→
  (forIn (m := Sem) fs PUnit.unit fun f _ => if f.name ≠ "_" then do
    zK b 9999 f.type (←part f.type x' f.offset)
    pure (ForInStep.yield zW)
   else do
    pure zW
    pure (ForInStep.yield zW)).run P w=.ok zW w
 |[],i,ks,hk,x,u,hx,_,_=>by simp
 |f::fs,i,ks,hk,x,u,hx,hu,gx=>by
  unfold Lv at hk;split at hk
  case isTrue=>cases hk
  rename_i hno;have hno1 : f.name ≠ "_" := fun e => hno (.inl e)
  have hno2:f.offset=i:=zz fun e=>hno (.inr e)
  split at hk
  case h_2=>cases hk
  rename_i k ks' h1 h2;cases hk;cases x with
  |nil=>simp[fit]at hx
  |cons a x=>
   simp only[Al]at hu;obtain⟨a',u',rfl,hu1,hu2⟩:=hu;have ka:k.ok a=true:=by unfold fit at hx;cases hk:k.ok a with|false=>simp[hk]at hx|true=>rfl
   have fx:fit ks' x=true:=by unfold fit at hx;rw[ka]at hx;exact hx
   obtain⟨D,hund,hagg,hni,_⟩:=Ma h1;have pa:=K0 hund hagg (gx 0 a' rfl) w;simp only[zZ]at pa;have hck:(zK b 9999 f.type a').run P w=.ok () w:=by
    unfold zK;have hund':(underlying f.type).run P w=.ok D w:=by unfold underlying;simp[hund]
    simp only[zn,hund',zj];cases D<;>first|rfl|(cases hagg;done)|exact absurd rfl (hni _)
   have ih:=HN (b:=b) (w:=w) (x':=x') h2 fx hu2 (fun j c hj=>by have:=gx (j+1) c (by simpa using hj);rwa [show i+1+j=i+(j+1)from by omega]);simp only[List.forIn_cons,hno1,ne_eq,not_false_eq_true,if_true,zn,hno2,pa,hck,zj,zH]at ih ⊢;exact ih
theorem Z5(P:Program):(Zo P).Ok P:=by
 have key:∀t ks,Rl P t=some ks→∃fs,P.underlying t=some (.struct fs)∧P.stoodInHeld t=false∧P.eqGuardType P.depth t=false∧Lv P fs.toList 0=some ks:=by
  intro t ks h;unfold Rl at h;split at h
  case h_2=>cases h
  rename_i fs hu;split at h
  case isTrue=>cases h
  rename_i hno;refine⟨fs,hu,?_,?_,h⟩
  ·cases hc:P.stoodInHeld t with
   |false=>rfl
   |true=>exact absurd (.inl hc) hno
  ·cases hc:P.eqGuardType P.depth t with
   |false=>rfl
   |true=>exact absurd (.inr hc) hno
 refine⟨fun t d h=>h,fun t i h=>V3 h,?_,?_,?_,?_,fun t name f h=>WB h⟩
 ·intro t ks h p x y x' y' r w fx fy hx hy hs;obtain⟨fs,hu,h1,h2,h3⟩:=key t ks h;have hfo:P.fieldsOf t=fs:=by unfold Program.fieldsOf;rw[hu]
  unfold Op.equal Op.maxDepth;rw[run_equalIn_struct w 9999 t x' y' (by rw[hfo];exact hu) h1,hfo];exact IA 9998 h3 fx fy hx hy (fun j a hj=>by simpa using hj) (fun j a hj=>by simpa using hj) hs
 ·intro t ks h;obtain⟨fs,hu,h1,h2,h3⟩:=key t ks h;exact h2
 ·intro t ks h p x x' b w fx hx;obtain⟨fs,hu,h1,h2,h3⟩:=key t ks h;unfold zK;have hund':(underlying t).run P w=.ok (.struct fs) w:=by unfold underlying;simp[hu]
  simp only[zn,hund',zj];rw[←Array.forIn_toList];have:=HN (b:=b) (w:=w) (x':=x') h3 fx hx (fun j a hj=>by simpa using hj);simp only[this,zj,zH]
 ·intro t ks h;obtain⟨fs,hu,_⟩:=key t ks h;exact⟨fs,hu⟩
end
def MU(P:Program)(ct:FuncId→Bool)(f:FuncId):Option Fn:=
 match P.funcs[f]? with
 |some fn=>match fn.body with
  | some b => if fn.name = "runtime.NumGoroutine" then none else some ⟨fn.ntmps, fn.results, b, ct f⟩
  |none=>none
 |none=>none
theorem XQ {P : Program} {ct : FuncId → Bool} {f : FuncId} {i : Fn} (h : MU P ct f = some i) : ∃ fn, P.funcs[f]? = some fn ∧ fn.name ≠ "runtime.NumGoroutine" ∧ fn.body = some i.body ∧ fn.ntmps = i.ntmps ∧ fn.results = i.results := by
 unfold MU at h;split at h
 case h_2=>cases h
 rename_i fn hfn;split at h
 case h_2=>cases h
 rename_i b hb;split at h
 case isTrue=>cases h
 rename_i hn;cases h;exact⟨fn,hfn,hn,hb,rfl,rfl⟩
end
end Go.Det
end
section
namespace Go.Det
noncomputable section
inductive PK where
 |indexByte
 |add64
 |sub64
 |count
def Ld:Array Value→Sem Value:=fun args=>do
 let (x, y, b) ← Extern.MathBitsCarry.three "Sub64" args
 pure (zA ((x+zp-y-b) % zp) (if x<y+b then 1 else 0))
def PK.entry:PK→Array Value→Sem Value
 | .indexByte=>Extern.BytealgIndexByte.indexByte
 | .add64=>add64Entry
 | .sub64=>Ld
 | .count=>Extern.BytealgCount.count
def Qf:Option Nat→V
 |some i=>i64 i
 |none=>.int .i64 (-1)
def UE:Nat:=18446744073709551616
def PK.run:PK→List V→H→Option (V×H)
 | .indexByte,[.str s,.int .u8 c],h=>some (Qf (s.findIdx? fun x=>x==c.toNat.toUInt8),h)
 | .add64,[.int .u64 (.ofNat x),.int .u64 (.ofNat y),.int .u64 (.ofNat c)],h=>
  bif Nat.ble c 1 then some (.tup [.int .u64 (.ofNat ((x+y+c) % UE)),.int .u64 (.ofNat ((x+y+c)/UE))],h)else none
 | .sub64,[.int .u64 (.ofNat x),.int .u64 (.ofNat y),.int .u64 (.ofNat c)],h=>
  bif Nat.ble c 1 then some (.tup [.int .u64 (.ofNat ((x+UE-y-c) % UE)),.int .u64 (.ofNat (bif zq x (y+c)then 1 else 0))],h)else none
 | .count,[.str s,.int .u8 c],h=>some (.int .i64 (s.foldl (fun n x=>bif x==c.toNat.toUInt8 then Nat.add n 1 else n) 0:Nat),h)
 |_,_,_=>none
theorem MX(s:List UInt8)(c:UInt8):((zo (bytesOf s).size).find? fun i=>(bytesOf s)[i]! ==c)=s.findIdx? fun x=>x==c:=by
 have key:∀(l pre:List UInt8),pre++l=s→((List.range' pre.length l.length).find? fun i=>(bytesOf s)[i]! ==c)=(l.findIdx? fun x=>x==c).map (· +pre.length):=by
  intro l;induction l with
  |nil=>intro pre _;simp
  |cons a l ih=>
   intro pre hp;have hget:(bytesOf s)[pre.length]! =a:=by
    subst hp;rw[getElem!_pos _ _ (by simp[Bh])];simp[bytesOf,ByteArray.getElem_eq_getElem_data]
   rw[zr,List.range'_succ,List.find?_cons,hget,List.findIdx?_cons];cases hac:a==c with
   |true=>simp
   |false=>
    have:=ih (pre++[a]) (by simpa using hp);simp only[List.length_append,List.length_singleton]at this;simp only[this,zu,if_false,Option.map_map];congr 1;funext k;simp;omega
 have:=key s [] rfl;simp only[List.length_nil,zZ]at this;rw[List.range_eq_range',Bh,this];simp
theorem Al.three{p:Pl}{a b c:V}{l:List Value}(h:Al p [a,b,c] l):∃x y z,l=[x,y,z]∧Aa p a x∧Aa p b y∧Aa p c z:=by
 simp only[Al]at h;obtain⟨x,l1,rfl,h1,y,l2,rfl,h2,z,l3,rfl,h3,rfl⟩:=h;exact⟨x,y,z,rfl,h1,h2,h3⟩
theorem PK.fW{P:Program}{k:PK}{p:Pl}{h:H}{w:World}{args:List V}{args':Array Value}{v:V}{h':H}(ha:Al p args args'.toList)(hd:k.run args h=some (v,h')):
  h'=h∧∃v',(k.entry args').run P w=.ok v' w∧Aa p v v':=by
 unfold PK.run at hd;split at hd
 case h_5=>cases hd
 case h_1=>
  rename_i s c;cases hd;obtain⟨x,y,hl,h1,h2⟩:=ha.two;have:args'= #[x,y]:=zE.1 hl;subst this;simp only[Aa]at h1 h2;subst h1 h2;refine⟨rfl,_,run_indexByte_string (bytesOf s) c w,?_⟩;unfold firstIdx;rw[MX];cases s.findIdx? fun x=>x==c.toNat.toUInt8<;>simp[Qf,i64,Aa]
 case h_2=>
  rename_i x y c;rw[show Nat.ble c 1=decide (c≤1)from by rw[Bool.eq_iff_iff];simp]at hd;by_cases hc:c≤1
  ·simp only[hc,decide_true,cond_true,ze,zl]at hd;obtain⟨rfl,rfl⟩:=hd;obtain⟨x',y',z',hl,h1,h2,h3⟩:=ha.three;have:args'= #[x',y',z']:=zE.1 hl;subst this;simp only[Aa]at h1 h2 h3;subst h1 h2 h3;refine⟨rfl,_,run_add64 x y c (by omega) (by omega) (by omega) (by omega) w,?_⟩;simp only[Aa];refine⟨_,rfl,?_⟩;simp only[AX,E0,and_true,Aa];exact⟨by simp[UE],by simp[UE]⟩
  ·simp[hc]at hd
 case h_3=>
  rename_i x y c;rw[show Nat.ble c 1=decide (c≤1)from by rw[Bool.eq_iff_iff];simp]at hd;by_cases hc:c≤1
  ·simp only[hc,decide_true,cond_true,ze,zl]at hd;obtain⟨rfl,rfl⟩:=hd;obtain⟨x',y',z',hl,h1,h2,h3⟩:=ha.three;have:args'= #[x',y',z']:=zE.1 hl;subst this;simp only[Aa]at h1 h2 h3;subst h1 h2 h3;have key:(Ld #[.int .u64 x,.int .u64 y,.int .u64 c]).run P w=
     .ok (zA ((x+zp-y-c) % zp) (if x<y+c then 1 else 0)) w:=by
    have:c=0∨c=1:=by omega
    rcases this with rfl|rfl<;>rfl
   refine⟨rfl,_,key,?_⟩;simp only[Aa,zA];refine⟨_,rfl,?_⟩;simp only[AX,E0,and_true,Aa];refine⟨rfl,?_⟩;rw[Fk];by_cases hlt:x<y+c<;>simp[hlt]
  ·simp[hc]at hd
 case h_4=>
  rename_i s c;cases hd;obtain⟨x,y,hl,h1,h2⟩:=ha.two;have:args'= #[x,y]:=zE.1 hl;subst this;simp only[Aa]at h1 h2;subst h1 h2;refine⟨rfl,_,Lib.run_countString (bytesOf s) c w,?_⟩;have key:∀(l:List UInt8) (n:Nat),l.foldl (fun n x=>bif x==c.toNat.toUInt8 then Nat.add n 1 else n) n=n+Lib.countByte l c.toNat.toUInt8:=by
   intro l;induction l with
   |nil=>intro n;simp[Lib.countByte]
   |cons x l ih=>
    intro n;rw[List.foldl_cons,ih];unfold Lib.countByte;rw[List.count_cons];cases hx:x==c.toNat.toUInt8 with
    |true=>simp only[cond_true,if_true];show n+1+_=_;omega
    |false=>simp
  simp only[Aa,key,Nat.zero_add];simp[bytesOf]
def OW(L:List (FuncId×PK))(f:FuncId):Option (List V→H→Option (V×H)):=
 match L with
 |[]=>none
 |(g,k)::L=>bif zh g f then some k.run else OW L f
structure HU(P:Program)(x:FuncId×PK):Prop where
 ok : ∃ fn, P.funcs[x.1]? = some fn ∧ (fn.name == "runtime.NumGoroutine") = false ∧ fn.body.isNone = true ∧ Extern.findNext fn = none ∧ Extern.find fn = some x.2.entry
theorem S6{P:Program}:∀ {L:List (FuncId×PK)},(∀x∈L,HU P x)→∀f q,OW L f=some q→∀(p:Pl) (h:H) (w:World) (args:List V) (args':Array Value) v h',R p h w→Al p args args'.toList→q args h=some (v,h')→
  ∃v' p' w',(callFunc f args').run P w=.ok (.value v') w'∧Aa p' v v'∧Ext p h w p' h' w'
 |[],_,f,q,hq,_,_,_,_,_,_,_,_,_,_=>by cases hq
 |(g,k)::L,hL,f,q,hq,p,h,w,args,args',v,h',hr,ha,hd=>by
  unfold OW at hq;rw[A1]at hq;by_cases e:g=f
  ·subst e;simp only[decide_true,cond_true,ze]at hq;subst hq;obtain⟨fn,h1,h2,h3,h4,h5⟩:=(hL (g,k) (by simp)).ok;obtain⟨rfl,v',g1,g2⟩:=PK.fW (P:=P) (w:=w) ha hd;refine⟨v',p,w,?_,g2,zI hr⟩;rw[run_callFunc_extern h1 h2 h3 h4 h5,g1];rfl
  ·simp only[e,decide_false,cond_false]at hq;exact S6 (fun x hx=>hL x (by simp[hx])) f q hq p h w args args' v h' hr ha hd
end
end Go.Det
end
section
namespace Go.Det
def dH:Option (List (V×H))→Option V
 |some [(v,_)]=>some v
 |_=>none
noncomputable section
def Td(C:Ctx)(n:Nat)(f:FuncId)(args:List V)(v:V):Bool:=match dH (AY C n (.fn f args) hG)with
 |some x=>V.beq x v
 |none=>false
theorem RM{C C':Ctx}{P:Program}(hC:C.Ok P)(hce:Ez C)(hm:P.follows .mixedOrders=true){n:Nat}{f:FuncId}{args:List V}{v:V}
  (hv:Td C n f args v=true) (ha:V.Gn args=true) (hvf:v.flat=true) {p:Pl} {h:H} {w:World} {args':Array Value} (hr:R p h w) (hg:Gl C' p) (hh:Gh h) (hargs:Al p args args'.toList):
  Calls P f args' w fun e w'=>∃v' p',e=.returned v'∧Aa p' v v'∧Ext p h w p' h w':=by
 unfold Td at hv;split at hv
 case h_2=>cases hv
 rename_i x hx;have hxv:x=v:=V.beq_eq hv;subst hxv;unfold dH at hx;split at hx
 case h_2=>cases hx
 rename_i l hl he;cases hx;have hg:Gp p:=hg;refine((Ga hC hce hm n).fn f args hG _ he _ w args' (ZP hr hg hh) hg.take (V.Hc ha hargs)).mono ?_;rintro e w' ⟨u,h',v',p',hmem,rfl,h1,h2⟩;cases zf.1 hmem;have hun:∀r,r<w.heap.size→w'.heap[r]?=w.heap[r]?:=fun r hr=>h2.EM hg.take r hr
 refine⟨v',p,rfl,V.Ca hvf h1,⟨⟨[],by simp⟩,⟨hr.len,fun b o hb=>?_,hr.inj⟩,h2.size,fun r hlt _=>hun r hlt,fun r hi=>.inl hi,h2.os,h2.out,h2.tape,fun r hlt hl=>⟨hun r hlt,.inl hl⟩⟩⟩;obtain⟨r,m,y,g1,g2,g3⟩:=hr.obj b o hb;exact⟨r,m,y,g1,by rw[hun r (zc.1 g2).1];exact g2,g3⟩
def Xl(h:H):List (Nat×O)→Bool
 |[]=>true
 |(i,o)::l=>NM (h.get i) (some o)&&Xl h l
theorem R8{h:H}:∀ {l:List (Nat×O)},Xl h l=true→∀x∈l,h.get x.1=some x.2
 |[],_,x,hx=>by cases hx
 |(i,o)::l,hb,x,hx=>by
  simp only[Xl,zd]at hb;rcases zU.1 hx with rfl|hx
  ·have:=hb.1;cases hq:h.get i with
   |none=>rw[hq]at this;simp[NM]at this
   |some q=>rw[hq]at this;rw[Sn (a:=q) (b:=o) (by simpa [NM]using this)]
  ·exact R8 hb.2 x hx
def dX:List (Nat×O)→Bool
 |[]=>true
 |(_,o)::l=>NM (some o) (some o)&&dX l
theorem Uu:dX EM=true:=by kernel_rfl
theorem Zt{h:H}(hh:Gh h):Xl h EM=true:=by
 have key:∀l:List (Nat×O),(∀x∈l,h.get x.1=some x.2)→dX l=true→Xl h l=true:=by
  intro l;induction l with
  |nil=>exact fun _ _=>rfl
  |cons x l ih=>
   intro h1 h2;simp only[dX,zd]at h2;simp only[Xl,zd];exact⟨by rw[h1 x List.mem_cons_self];exact h2.1,ih (fun y hy=>h1 y (List.mem_cons_of_mem _ hy)) h2.2⟩
 exact key EM hh Uu
abbrev Ff:=List (FuncId×List V×V)
def Gy:Ff→FuncId→List V→Option V
 |[],_,_=>none
 |(g,a,v)::l,f,args=>bif zh g f&&V.Iq a args then some v else Gy l f args
def Oy:Ff→FuncId→Bool
 |[],_=>false
 |(g,_,_)::l,f=>bif zh g f then true else Oy l f
def EO(L:Ff)(f:FuncId):Option (List V→H→Option (V×H)):=
 bif Oy L f then some (fun args h=>bif Xl h EM then(match Gy L f args with|some v=>some (v,h)|none=>none)else none)else none
def Bu(C:Ctx)(n:Nat):Ff→Bool
 |[]=>true
 |(f,a,v)::l=>Td C n f a v&&V.Gn a&&v.flat&&Bu C n l
theorem TW{L:Ff}{f:FuncId}{args:List V}{v:V}(h:Gy L f args=some v){C:Ctx}{n:Nat}(ha:Bu C n L=true):Td C n f args v=true∧V.Gn args=true∧v.flat=true:=by
 induction L with
 |nil=>cases h
 |cons x l ih=>
  obtain⟨g,a,u⟩:=x;simp only[Bu,zd]at ha;unfold Gy at h;cases hb:(zh g f&&V.Iq a args)with
  |false=>rw[hb]at h;exact ih h ha.2
  |true=>
   rw[hb]at h;cases h;simp only[zd]at hb;have e1:g=f:=zg hb.1;have e2:a=args:=V.Fv hb.2;subst e1;subst e2;exact⟨ha.1.1.1,ha.1.1.2,ha.1.2⟩
theorem Yg{C C':Ctx}{P:Program}(hC:C.Ok P)(hce:Ez C)(hm:P.follows .mixedOrders=true){n:Nat}{L:Ff}(ha:Bu C n L=true):
  ∀f q,EO L f=some q→∀(p:Pl) (h:H) (w:World) (args:List V) (args':Array Value) v h',R p h w→Gl C' p→Al p args args'.toList→q args h=some (v,h')→
  Calls P f args' w fun e w'=>∃v' p',e=.returned v'∧Aa p' v v'∧Ext p h w p' h' w':=by
 intro f q hq p h w args args' v h' hr hg hargs hqr;unfold EO at hq;cases hh:Oy L f with
 |false=>rw[hh]at hq;cases hq
 |true=>
  rw[hh]at hq;cases hq;simp only at hqr;cases hgb:Xl h EM with
  |false=>rw[hgb]at hqr;cases hqr
  |true=>
  rw[hgb]at hqr;simp only[cond_true]at hqr;split at hqr
  case h_2=>cases hqr
  rename_i u hu;cases hqr;obtain⟨g1,g2,g3⟩:=TW hu ha;exact RM (C':=C') hC hce hm g1 g2 g3 hr hg (R8 hgb) hargs
end
end Go.Det
end
section
namespace Go.Det
noncomputable section
def NA(P:Program):Nat→Nat→Bool
 |0,_=>true
 |n+1,a=>(match MU P (fun _=>true) a with|some i=>CD i.body|none=>true)&&NA P n (a+1)
variable {P:Program}
theorem Ng{ct:FuncId→Bool}{f:FuncId}{i:Fn}(hi:MU P ct f=some i):MU P (fun _=>true) f=some { i with cert:=true }∧i.cert=ct f:=by
 unfold MU at hi ⊢;cases hf:P.funcs[f]? with
 |none=>rw[hf]at hi;cases hi
 |some fn=>
  rw[hf]at hi;simp only at hi ⊢;cases hb:fn.body with
  |none=>rw[hb]at hi;cases hi
  |some b=>
   rw[hb]at hi;simp only at hi ⊢;split at hi
   ·cases hi
   ·rename_i hn;rw[if_neg hn];cases hi;exact⟨rfl,rfl⟩
theorem Ip{f:Nat}{i:Fn}{ct:FuncId→Bool}(hi:MU P ct f=some i):∀ {n a:Nat},NA P n a=true→a≤f→f<a+n→CD i.body=true
 |0,a,_,h1,h2=>by omega
 |n+1,a,h,h1,h2=>by
  simp only[NA,zd]at h;by_cases e:a=f
  ·subst e;rw[(Ng hi).1]at h;exact h.1
  ·exact Ip hi h.2 (by omega) (by omega)
def fH(P:Program)(N:Nat)(L:List (FuncId×PK)):Ctx:=⟨Zo P,0,MU P (fun f=>zq f N),OW L,fun _=>none,true⟩
theorem Ud{N:Nat}{L:List (FuncId×PK)}(h:∀f i,f<N→MU P (fun f=>zq f N) f=some i→CD i.body=true):Ez (fH P N L):=by
 intro f i hi hc;have hi:MU P (fun f=>zq f N) f=some i:=hi;rw[(Ng hi).2]at hc;exact h f i (Nat.le_of_ble_eq_true hc) hi
theorem aN{N:Nat}{L:List (FuncId×PK)}(hL:∀x∈L,HU P x):(fH P N L).Ok P where
 T:=Z5 P
 fn:=fun _ _ h=>XQ (P:=P) (ct:=fun f=>zq f N) h
 prim:=fun f q hq p h w args args' v h' hr _ ha hd=>S6 hL f q hq p h w args args' v h' hr ha hd
 spec:=fun f q hq=>by cases hq
end
end Go.Det
end
section
namespace Go.Pe
open Go.Det
inductive Sh where
 |int (k:IntKind)
 |bool
 |str
 |list (s:Sh)
 |pair (a b:Sh)
 |unit
 |nlist (s:Sh)
 |fnv
 deriving DecidableEq
@[reducible] def Sh.T:Sh→Type
 | .int _=>Int
 | .bool=>Bool
 | .str=>List UInt8
 | .list s=>List s.T
 | .pair a b=>a.T×b.T
 | .unit=>Unit
 | .nlist s=>List s.T
 | .fnv=>Option Fn
noncomputable section
def Sh.FC:(s:Sh)→s.T
 | .int _=>(0:Int)
 | .bool=>false
 | .str=>([]:List UInt8)
 | .list _=>[]
 | .pair a b=>(a.FC,b.FC)
 | .unit=>()
 | .nlist _=>[]
 | .fnv=>none
def Sh.sz:Sh→Nat
 | .pair a b=>Nat.add a.sz b.sz
 | .unit=>0
 |_=>1
inductive PV where
 |any
 |bl (b:Bool)
 |ub
 |dat (s:Sh) (x:s.T)
 |nil|nilp|nilm|nilf|nili
 |agg (l:List PV)
 |tup (l:List PV)
 |ptr (id off:Nat)
 |eptr (id sz i off:Nat)
 |dptr (s:Sh) (x:s.T) (off:Nat)
 |sl (id sz off len:Nat) (cap:Option Nat)
 |mp (id:Nat)
 |fn (f:Fn) (first captured:List PV)
 |yl (id:Nat)
inductive eL where
 |ready|busy|ret
 |exit (i:Nat)
inductive Obj where
 |arr (fz:Bool) (e:TypeId) (s:Sh) (l:List s.T)
 |box (cs:List PV)
 |map (ks vs:Sh) (l:List (ks.T×vs.T))
 |siter (s:List UInt8) (pos:Nat)
 |lp (f:FuncId) (r:Nat) (ps:Array Tmp) (asg body:Code) (s:eL) (n:Nat) (sl:List (Nat×PV))
abbrev Ob:=List (Nat×Obj)
def AF:Ob→Nat→Option Obj
 |[],_=>none
 |(i,o)::l,j=>bif zh i j then some o else AF l j
def CH:Ob→Nat→Obj→Ob
 |[],_,_=>[]
 |(i,o)::l,j,x=>bif zh i j then(i,x)::l else(i,o)::CH l j x
def Fc:Ob→Nat→Ob
 |[],_=>[]
 |(i,o)::l,j=>bif zh i j then Fc l j else(i,o)::Fc l j
structure AD where
 n:Nat
 fr:PM PV
 ob:Ob
 nx:Nat
def AD.get(st:AD)(t:Nat):PV:=(st.fr.get t).getD .any
def AD.obj(st:AD)(id:Nat):Option Obj:=AF st.ob id
def AD.set(st:AD)(t:Nat)(v:PV):AD:=⟨st.n,st.fr.set t (some v),st.ob,st.nx⟩
def AD.setObj(st:AD)(id:Nat)(o:Obj):AD:=⟨st.n,st.fr,CH st.ob id o,st.nx⟩
def AD.NX(st:AD)(id:Nat):AD:=⟨st.n,st.fr,Fc st.ob id,st.nx⟩
def AD.push(st:AD)(o:Obj):AD:=⟨st.n,st.fr,(st.nx,o)::st.ob,Nat.add st.nx 1⟩
def AD.put(st:AD)(d:Option Nat)(v:PV):Option AD:=
 match d with
 |none=>some st
 |some t=>bif zq t st.n then some (st.set t v)else none
def DW(vs:List (Nat×PV)):PM PV:=vs.foldl (fun m x=>m.set x.1 (some x.2)) .leaf
def flat:(s:Sh)→s.T→List PV
 | .pair a b,(x,y)=>flat a x++flat b y
 | .unit,_=>[]
 | .fnv,x=>[match (x:Option Fn)with|some f=>.fn f [] []|none=>.nilf]
 |s,x=>[.dat s x]
def DQ(s s':Sh)(x:s.T):Option s'.T:=if h:s=s' then some (h▸x)else none
def Zm(s:Sh)(v:PV):Option s.T:=
 match v with
 | .dat s' x=>DQ s' s x
 | .bl b=>DQ .bool s b
 | .fn f [] []=>DQ .fnv s (some f)
 | .nilf=>DQ .fnv s none
 | .nil=>match s with
  | .list _=>some []
  | .nlist _=>some []
  |_=>none
 |_=>none
def BW:(s:Sh)→List PV→Option (s.T×List PV)
 | .pair a b,l=>match BW a l with
  |some (x,l1)=>match BW b l1 with
   |some (y,l2)=>some ((x,y),l2)
   |none=>none
  |none=>none
 | .unit,l=>some ((),l)
 |s,v::l=>match Zm s v with
  |some x=>some (x,l)
  |none=>none
 |_,[]=>none
def Dc(s:Sh)(l:List PV):Option s.T:=
 match BW s l with
 |some (x,[])=>some x
 |_=>none
def PV.cells:PV→List PV
 | .agg cs=>cs
 |v=>[v]
def SD(ty:TypeId→Option Sh):List Field→Option Sh
 |[]=>none
 |[x]=>ty x.type
 |x::xs=>match ty x.type,SD ty xs with
  |some a,some b=>some (.pair a b)
  |_,_=>none
def gB:Option Sh→Option Sh
 |some (.list (.int .u64))=>some (.nlist (.int .u64))
 |s=>s
def lz:PV→PV
 | .dat (.nlist s) x=>.dat (.list s) x
 |v=>v
def Sh.leaves:Sh→List Sh
 | .pair a b=>a.leaves++b.leaves
 | .unit=>[]
 |s=>[s]
def Qu:Sh→PV→Bool×PV
 | .nlist s,.dat (.list s') x=>bif s==s' then(decide (0<x.length),.dat (.nlist s') x)else(true,.dat (.list s') x)
 | .list s,.dat (.nlist s') x=>bif s==s' then(true,.dat (.list s') x)else(true,.dat (.nlist s') x)
 |_,v=>(true,v)
def Jc:List Sh→List PV→Bool×List PV
 |s::l,v::vs=>((Qu s v).1&&(Jc l vs).1,(Qu s v).2::(Jc l vs).2)
 |_,vs=>(true,vs)
def Rj(T:BA):Nat→TypeId→Option Sh
 |0,_=>none
 |f+1,t=>match T.und t with
  |some (.int k)=>some (.int k)
  |some .bool=>some .bool
  |some .string=>some .str
  |some (.slice e)=>(Rj T f e).map .list
  |some (.func _ _ _)=>some .fnv
  |some (.struct fs)=>SD (fun x=>gB (Rj T f x)) fs.toList
  |_=>none
def Sh.YS:Sh→Bool
 | .pair a b=>a.YS||b.YS
 | .fnv=>true
 |_=>false
def Bz:(s:Sh)→s.T→PV
 | .pair a b,x=>.agg (flat (.pair a b) x)
 | .unit,_=>.agg []
 | .fnv,x=>match (x:Option Fn)with|some f=>.fn f [] []|none=>.nilf
 |s,x=>.dat s x
def Sh.MV:Sh→Bool
 | .pair _ _| .unit=>true
 |_=>false
def Nh:(s:Sh)→s.T→s.T→Bool
 | .int _,a,b=>(a:Int)==b
 | .bool,a,b=>(a:Bool)==b
 | .str,a,b=>(a:List UInt8)==b
 |_,_,_=>false
def Dz(s v:Sh)(k:s.T):List (s.T×v.T)→Option v.T
 |[]=>none
 |(a,b)::l=>bif Nh s k a then some b else Dz s v k l
def FE(s v:Sh)(k:s.T)(x:v.T):List (s.T×v.T)→List (s.T×v.T)
 |[]=>[(k,x)]
 |(a,b)::l=>bif Nh s k a then(k,x)::l else(a,b)::FE s v k x l
def Pb(s v:Sh)(k:s.T):List (s.T×v.T)→List (s.T×v.T)
 |[]=>[]
 |(a,b)::l=>bif Nh s k a then l else(a,b)::Pb s v k l
inductive Tr where
 |fail
 |leaf (v:PV) (ob:Ob)
 |ite (c:Bool) (a b:Tr)
 |both (a b:Tr)
 |cut (nd ro:Bool) (d:Nat) (f:FuncId) (base:Nat) (b:Code) (st:AD) (k:DX→AD→Tr)
 |alts (m:Nat) (f:Nat→Tr)
 |loop (nd ro:Bool) (d:Nat) (f:FuncId) (base:Nat) (b:Code) (st:AD) (k:DX→AD→Tr)
inductive PO where
 |bad
 |val (v:PV) (st:AD)
 |ite (c:Bool) (a b:PO)
def PO.G9(c:Bool)(v:PV)(st:AD):PO:=.ite c (.val v st) .bad
end
end Go.Pe
end
