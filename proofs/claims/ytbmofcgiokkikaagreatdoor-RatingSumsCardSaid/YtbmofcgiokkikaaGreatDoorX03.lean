import Derived.Test.YtbmofcgiokkikaaGreatDoorX02
import Derived.Laws.StructEq
import Derived.Lib.Bytealg
import Derived.Laws.Externs
/- A part of a proof; no law is stated here. -/
noncomputable section
open Array renaming getElem?_eq_some_iff -> zc, getD_eq_getD_getElem? -> zk, toList_inj -> zu, replicate -> yf
open Bool renaming and_eq_true -> zd, or_eq_true -> zl, false_eq_true -> zo, not_eq_true' -> zr
open Nat renaming beq -> ze, eq_of_beq_eq_true -> zg, blt -> zn, blt_eq -> yj, lt_or_ge -> ym, add_zero -> yo
open Option.some renaming injEq -> zf
open Go.Result renaming andThen_ok -> zh
open List renaming mem_singleton -> zi, all_eq_true -> zj, mem_zipIdx_iff_getElem? -> zq, range -> zt, getD_eq_getElem?_getD -> z8, any_eq_true -> yc, mem_range -> yh, mem_cons -> yi, mem_map -> yn
open Go.Extern.MathBitsCarry renaming m64 -> zm, pair -> zx
open Go.Sem renaming run_bind -> zp, run_pure -> ye
open Classical renaming byContradiction -> zw
open Go.Oper renaming semAt_eq -> zy, uponIn_value -> zz
open Go.Det.Ext renaming refl -> z6
open Go.Fence renaming wide -> z7
open Go.Instr renaming checkKey -> ya
open Prod.mk renaming injEq -> yb
open Go.Region renaming ready -> yd
open Go.Code renaming region -> yg
open PUnit renaming unit -> yk
namespace Go.Det
section
variable {C:Ctx}{P:Program}{call:DR}{ops:Array Oper}{anc:Nat->Nat->Bool}{ord pos:Nat->Nat}{sc:Nat->Option Nat}{fr0:Fr}{h0:H}{v:Nat->V}{Hh:Nat->H}{F:Nat->Fr}
 {p0:Pl} {w0:World} {df:List Deferred} {S:Nat->Prop} {m:Nat} {fl:Nat->Nat} {p:Pl} {a:Act} {w:World}
structure SB(anc:Nat->Nat->Bool)(S:Nat->Prop)(i:Nat):Prop where
 fresh:¬S i
 all:∀k,anc i k=true->S k
def Down(anc:Nat->Nat->Bool)(S:Nat->Prop):Prop:=∀i k,S i->anc i k=true->S k
theorem operands(st:Stat ops anc ord pos sc)(s:Canon C call ops anc ord pos fr0 h0 v Hh F)(u:Inv C ops pos sc fr0 v Hh F p0 h0 w0 df S m fl p a w)(K:Down anc S){i:Nat}{o:Oper}(G:ops[i]?=some o)(hr:SB anc S i)
  (z:∀(k:Nat) (ok:Oper) (t:Tmp),ops[k]?=some ok->(CL ok=true\/(sc k).isSome=true)->ok.dst=some t->t∈reads ops o->anc i k=true->pos k<m):FOn p (F<|pos i) a (reads ops o):=by
 have A:=(zc.1 G).1;have I:=(st.posp i A).1;refine⟨by rw[s.fn _ ae,u.sz],fun t E=>?_⟩;by_cases D:∃(k:Nat) (ok:Oper),k≠i/\ops[k]?=some ok/\ok.dst=some t
 ·obtain⟨k,ok,B,r,f⟩:=D;rcases(st.s6 k i ok o t r G B f).2 E with q|q
  ·have l:=hr.all k q;rw[Fw st s r f (pos i) ae<|st.apos i k q];exact u.slotw k ok t l r f fun J _=>z k ok t r J f E q
  ·have l:¬S k:=fun h=>hr.fresh<|K k i h q
   have d:∀(j:Nat) (oj:Oper),ops[j]?=some oj->oj.dst=some t->j=k:=by
    intro j oj g c;by_cases e:j=k
    ·exact e
    ·exact wh c (st.s6 k j ok oj t r g (fun h=>e h.symm) f).1
   rw[Fz st s (pos i) ae fun j oj g c x=>by
    have:=d j oj g c;subst this;have:=st.apos _ _ q;omega]
   refine u.slot t fun j oj y g c=>?_
   have:=d j oj g c;subst this;exact l y
 ·have d:∀(j:Nat) (oj:Oper),ops[j]?=some oj->oj.dst=some t->j=i:=by
   intro j oj g c;by_cases e:j=i
   ·exact e
   ·exact wh ⟨j,oj,e,g,c⟩ D
  rw[Fz st s (pos i) ae fun j oj g c x=>by
   have:=d j oj g c;subst this;omega]
  refine u.slot t fun j oj y g c=>?_
  have:=d j oj g c;subst this;exact hr.fresh y
def Rest(ops:Array Oper)(pos:Nat->Nat)(S:Nat->Prop)(m:Nat):Prop:=m=0\/∃(k:Nat) (o:Oper),ops[k]?=some o/\Da o=true/\S k/\m=pos k+1
theorem PI(st:Stat ops anc ord pos sc)(u:Down anc S)(y:Inv C ops pos sc fr0 v Hh F p0 h0 w0 df S m fl p a w)(c:Rest ops pos S m){k:Nat}{o:Oper}(r:ops[k]?=some o)(hr:¬S k):
  m<=pos k\/∃(i:Nat) (oi:Oper),ops[i]?=some oi/\Da oi=true/\S i/\m=pos i+1/\pos k<pos i/\anc i k=false:=by
 by_cases d:m<=pos k
 ·exact .inl d
 ·right;rcases c with rfl|⟨i,oi,q,x,f,s⟩
  ·omega
  ·refine⟨i,oi,q,x,f,s,?_,?_⟩
   ·have l:k≠i:=fun e=>hr<|e▸f
    have j:=(zc.1 r).1;have g:=(zc.1 q).1;have:pos k≠pos i:=fun e=>l (by rw[<-(st.posp k j).2,e,(st.posp i g).2])
    omega
   ·cases t:anc i k with
    |false=>rfl
    |true=>exact wh (u i k f t) hr
theorem QQ(st:Stat ops anc ord pos sc)(r:Inv C ops pos sc fr0 v Hh F p0 h0 w0 df S m fl p a w){i:Nat}{o:Oper}(q:ops[i]?=some o)(hr:SB anc S i)(f:CL o=false){k:Nat}{ok:Oper}(g:ops[k]?=some ok)
  (j:Da ok=true) (s:m<=pos k) (t:pos k<pos i):False:=by
 have d:¬S k:=fun h=>by have:=(r.mh k ok g j).1 h;omega
 have l:k≠i:=fun e=>by subst e;omega
 rcases kinds o with h|h|h
 ·rcases st.s2 k i ok o g q j h with c|c
  ·exact d<|hr.all k c
  ·omega
 ·rw[f]at h;cases h
 ·rcases st.s1 k i ok o g q j h l with c|c
  ·have:=st.apos _ _ c;omega
  ·exact d<|hr.all k c
theorem Y9(st:Stat ops anc ord pos sc)(z:Canon C call ops anc ord pos fr0 h0 v Hh F)(G:Down anc S)(t:Inv C ops pos sc fr0 v Hh F p0 h0 w0 df S m fl p a w)(g:Rest ops pos S m){i:Nat}{o:Oper}(l:ops[i]?=some o)
  (hr:SB anc S i) (q:EM o=true) (x:Bf (F<|pos i) ops o=true) (c:G3 C (F<|pos i) (Hh<|pos i) o=some (.val (v i)<|Hh<|pos i)):G3 C (F<|pos i) (Hh m) o=some (.val (v i)<|Hh m):=by
 have e:=Kl q;cases f:R4 o with
 |false=>exact sD q f c _
 |true=>
  rcases PI st G t g l hr.fresh with N|⟨k,ok,A,T,W,J,I,L⟩
  ·have s:=(zc.1 l).1;have K:=(st.posp i s).1;have key:∀d,m+d<=pos i->Hh (m+d)=Hh m:=by
    intro d;induction d with
    |zero=>intro _;rfl
    |succ d R=>
     intro y;have E:=R ae;obtain⟨M,j⟩:=st.ordp (m+d) ae;obtain⟨r,hq⟩:∃r,ops[ord<|m+d]?=some r:=⟨ops[ord<|m+d],by simp[M]⟩;rw[<-E,show m+(d+1)=m+d+1 from by omega];rcases z.step _ r hq with⟨_,_,u⟩|⟨_,⟨_,_,u⟩|⟨u1,_⟩|⟨u1,_⟩⟩
     ·rwa [j]at u
     ·rwa [j]at u
     ·obtain⟨k,ok,U,D,O,B⟩:=st.s5 i _ o r l hq q f u1 (by rw[j];omega);rw[j]at O;exact(QQ st t l hr e U D ae B).elim
     ·exact(QQ st t l hr e hq u1 (by rw[j];omega)<|by rw[j];omega).elim
   have:=key (pos i-m) ae;rw[show m+(pos i-m)=pos i from by omega]at this;rw[this]at c;exact c
  ·rw[J];exact z.stable k i ok o A l T q f x I L
theorem Ec{a:Act}{d:Option Tmp}{x:Value}{t:Tmp}(h:d≠some t):(a.put d x).tmps.getD t undef=a.tmps.getD t undef:=by
 cases d with
 |none=>rfl
 |some s=>
  have:s≠t:=fun e=>h (by rw[e])
  simp only[Act.put,zk];rw[Array.getElem?_setIfInBounds_ne this]
theorem Ga{a:Act}{x:Value}{t:Tmp}(h:t<a.tmps.size):(a.put (some t) x).tmps.getD t undef=x:=by
 simp[Act.put,h]
theorem QK{a:Act}{d:Option Tmp}{x:Value}:(a.put d x).tmps.size=a.tmps.size:=by cases d<;>simp[Act.put]
theorem Rt{a:Act}{d:Option Tmp}{x:Value}:(a.put d x).defers=a.defers:=by cases d<;>rfl
theorem NJ.put(st:Stat ops anc ord pos sc){S:Nat->Prop}{m r:Nat}{a:Act}(O:NJ ops pos sc S m a){i:Nat}{o:Oper}(l:ops[i]?=some o)(c:¬S i)(hr:SB anc S i){x:Value}(T:m<=r)
  (N:∀(k:Nat) (ok:Oper) (t tk:Tmp),sc i=some k->ops[k]?=some ok->o.dst=some t->ok.dst=some tk->r<=pos i->(a.put o.dst x).tmps.getD t undef=a.tmps.getD tk undef):
  NJ ops pos sc (fun k=>S k\/k=i) r (a.put o.dst x):=by
 refine⟨fun j k oj ok t tk M g y d q f K=>?_⟩;obtain⟨o1,X,t2,q1,A,R,W,U,B,L⟩:=st.q1 j k y;rw[d]at A;cases A;rw[f]at B;cases B;by_cases e:j=i
 ·subst e;rw[l]at g;cases g;have z:S k:=hr.all k L;refine⟨?_,.inl z⟩;rw[N k ok t tk y d q f K];have s:k≠j:=fun e=>c<|e▸z
  have:o.dst≠some tk:=(st.s6 k j ok o tk d l s f).1;rw[Ec this]
 ·have J:=M.resolve_right e;obtain⟨E,D⟩:=O.eq j k oj ok t tk J g y d q f ae;have u:k≠i:=fun h=>c<|h▸D
  have I:o.dst≠some t:=(st.s6 j i oj o t g l e q).1;have G:o.dst≠some tk:=(st.s6 k i ok o tk d l u f).1;rw[Ec I,Ec G];exact⟨E,.inl D⟩
theorem Inv.quiet(st:Stat ops anc ord pos sc)(cn:Canon C call ops anc ord pos fr0 h0 v Hh F)(d:Inv C ops pos sc fr0 v Hh F p0 h0 w0 df S m fl p a w){i:Nat}{o:Oper}(q:ops[i]?=some o)(I:¬S i)(D:Da o=false)
  (u:CL o=true->Bf (F<|pos i) ops o=false) {x:Value} (X:((sc i).isSome=true->Bf (F<|pos i) ops o=true->pos i<m)->Ad p (v i) x):Inv C ops pos sc fr0 v Hh F p0 h0 w0 df (fun k=>S k\/k=i) m fl p (a.put o.dst x) w:=by
 have l:∀(k:Nat) (ok:Oper) (t:Tmp),k≠i->ops[k]?=some ok->ok.dst=some t->o.dst≠some t:=fun k ok t L c g=>(st.s6 k i ok o t c q L g).1
 refine⟨d.ext,d.gl,d.mn,fun k ok c K=>?_,fun k ok c R O=>.inl<|d.ma k ok c R O,by rw[QK,d.sz],by rw[Rt,d.df],fun t g=>?_,fun k ok t s c g T=>?_,fun k ok s c G r z=>?_,
  fun k j ok oj s M c N G B r A z E he=>?_⟩
 ·rw[<-d.mh k ok c K];refine⟨fun h=>h.elim id fun e=>?_,.inl⟩;subst e;rw[q]at c;cases c;rw[D]at K;cases K
 ·have J:o.dst≠some t:=g i o (.inr rfl) q;rw[Ec J];exact d.slot t fun k ok s c=>g k ok (.inl s) c
 ·by_cases e:k=i
  ·subst e;rw[q]at c;cases c;rw[g,Ga<|by rw[d.sz];exact cn.dst k o t q g];exact X fun J h2=>T (.inr J) h2
  ·rw[Ec<|l k ok t e c g];exact d.slotw k ok t (s.resolve_right e) c g T
 ·have e:k≠i:=by
   rintro rfl;rw[q]at c;cases c;rw[u G]at r;cases r
  obtain⟨n,y,ob,f,v',k1,W,k3,U,Z,k6,k7⟩:=d.flt k ok (s.resolve_right e) c G r z;exact⟨n,y,ob,f,v',k1,W,k3,U,Z,k6,fun t g=>by rw[Ec<|l k ok t e c g];exact k7 t g⟩
 ·have e:k≠i:=by
   rintro rfl;rw[q]at c;cases c;rw[u G]at r;cases r
  have Y:j≠i:=by
   rintro rfl;rw[q]at N;cases N;rw[u B]at A;cases A
  exact d.inj k j ok oj (s.resolve_right e) (M.resolve_right Y) c N G B r A z E he
theorem Inv.made(st:Stat ops anc ord pos sc)(d:Inv C ops pos sc fr0 v Hh F p0 h0 w0 df S m fl p a w){i:Nat}{o:Oper}(E:ops[i]?=some o)(s:CL o=true)(X:Bf (F<|pos i) ops o=true)(l:m<=pos i)
  (cn:Canon C call ops anc ord pos fr0 h0 v Hh F) {ob:O} {f:Nat->V} (J:iC C (F<|pos i) o=some (ob,f)) {x:Obj} {n:Nat} {v':Value} (hx:Mp p n ob x) (G:∀(q:Pl) b,q[b]?=some (w.heap.size,n)->Ad q (f b) v'):
  Inv C ops pos sc fr0 v Hh F p0 h0 w0 df (fun k=>S k\/k=i) m (fun k=>if k=i then w.heap.size else fl k) p (a.put o.dst v') { w with heap:=w.heap.push x }:=by
 have z:∀(k:Nat) (ok:Oper) (t:Tmp),k≠i->ops[k]?=some ok->ok.dst=some t->o.dst≠some t:=fun k ok t W c g=>(st.s6 k i ok o t c E W g).1
 have L:Da o=false:=by simp[Da,s]
 refine⟨d.ext.aside x,d.gl,d.mn,fun k ok c G=>?_,fun k ok c s r=>.inl<|d.ma k ok c s r,by rw[QK,d.sz],by rw[Rt,d.df],fun t g=>?_,fun k ok t u c g hc=>?_,fun k ok u c T N l=>?_,
  fun k j ok oj u K c hj T I N M l A R=>?_⟩
 ·rw[<-d.mh k ok c G];refine⟨fun h=>h.elim id fun e=>?_,.inl⟩;subst e;rw[E]at c;cases c;rw[L]at G;cases G
 ·have h1:o.dst≠some t:=g i o (.inr rfl) E;rw[Ec h1];exact d.slot t fun k ok u c=>g k ok (.inl u) c
 ·by_cases e:k=i
  ·subst e;rw[E]at c;cases c;have:=hc (.inl s) X;omega
  ·rw[Ec<|z k ok t e c g];exact d.slotw k ok t (u.resolve_right e) c g hc
 ·by_cases e:k=i
  ·subst e;rw[E]at c;cases c;refine⟨n,x,ob,f,v',J,by simp,by simpa using d.ext.size,fun Z=>?_,hx,by simpa using G,fun t g=>?_⟩
   ·have:=d.ext.rel.aF Z;simp at this
   ·rw[g,Ga<|by rw[d.sz];exact cn.dst k o t E g]
  ·obtain⟨n',y,U,f',Y,k1,B,k3,k4,k5,k6,k7⟩:=d.flt k ok (u.resolve_right e) c T N l;have r:=(zc.1 B).1;refine⟨n',y,U,f',Y,k1,?_,by simpa [e]using k3,by simpa [e]using k4,k5,by simpa [e]using k6,fun t g=>by rw[Ec<|z k ok t e c g];exact k7 t g⟩;simp only[e,vf,Array.getElem?_push];rw[wc ae];exact B
 ·by_cases e:k=i<;>by_cases D:j=i
  ·rw[e,D]
  ·obtain⟨_,_,_,_,_,_,B,_⟩:=d.flt j oj (K.resolve_right D) hj I M A;have r:=(zc.1 B).1;simp only[e,wk,D,vf]at R;omega
  ·obtain⟨_,_,_,_,_,_,B,_⟩:=d.flt k ok (u.resolve_right e) c T N l;have r:=(zc.1 B).1;simp only[e,vf,D,wk]at R;omega
  ·simp only[e,vf,D]at R;exact d.inj k j ok oj (u.resolve_right e) (K.resolve_right D) c hj T I N M l A R
theorem Inv.wrote(st:Stat ops anc ord pos sc)(cn:Canon C call ops anc ord pos fr0 h0 v Hh F){i:Nat}{o:Oper}(d:Inv C ops pos sc fr0 v Hh F p0 h0 w0 df S (pos i) fl p a w)(z:ops[i]?=some o)(_:Da o=true)(u:¬S i)
  {p':Pl} {w':World} {x:Value} (g:Ext p (Hh<|pos i) w p' (Hh<|pos i+1) w') (Y:Ad p' (v i) x):
  Inv C ops pos sc fr0 v Hh F p0 h0 w0 df (fun k=>S k\/k=i) (pos i+1) fl p' (a.put o.dst x) w':=by
 have U:∀(k:Nat) (ok:Oper) (t:Tmp),k≠i->ops[k]?=some ok->ok.dst=some t->o.dst≠some t:=fun k ok t E c l=>(st.s6 k i ok o t c z E l).1
 have r:=(zc.1 z).1;have Z:∀ {k:Nat} {ok:Oper},ops[k]?=some ok->pos k=pos i->k=i:=fun {k ok} c e=>by
  have I:=(zc.1 c).1;rw[<-(st.posp k I).2,e,(st.posp i r).2]
 refine⟨d.ext.trans g,d.gl.ext g,(st.posp i r).1,fun k ok c O=>?_,fun k ok c G s=>?_,by rw[QK,d.sz],by rw[Rt,d.df],fun t l=>?_,fun k ok t R c l hc=>?_,fun k ok R c J B K=>?_,
  fun k j ok oj R hS' c hj J D B L K W A=>?_⟩
 ·constructor
  ·rintro(h|rfl)
   ·have:=(d.mh k ok c O).1 h;omega
   ·omega
  ·intro h;by_cases e:pos k=pos i
   ·grind
   ·exact .inl ((d.mh k ok c O).2 ae)
 ·by_cases e:pos k=pos i
  ·grind
  ·exact .inl (d.ma k ok c G ae)
 ·have N:o.dst≠some t:=ah;rw[Ec N];exact g.kH (d.slot t ah)
 ·by_cases e:k=i
  ·subst e;rw[z]at c;cases c;rw[l,Ga<|by rw[d.sz];exact cn.dst k o t z l];exact Y
  ·rw[Ec ah];refine g.kH (d.slotw k ok t ah c l fun N h2=>?_);grind
 ·obtain⟨n,y,ob,f,v',k1,T,k3,X,k5,k6,k7⟩:=d.flt k ok ah c J B ae;have s:=(zc.1 T).1;obtain⟨q,rfl⟩:=g.pre;refine⟨n,y,ob,f,v',k1,by rw[g.same _ s X];exact T,k3,fun M=>?_,k5.mono _,k6,(by grind [Ec])⟩;rcases g.im _ M with h|h
  ·grind
  ·omega
 ·exact d.inj k j ok oj ah ah c hj J D B L ae ae A
theorem Inv.along(c:Inv C ops pos sc fr0 v Hh F p0 h0 w0 df S m fl p a w){p':Pl}{w':World}(d:Ext p (Hh m) w p' (Hh m) w'):Inv C ops pos sc fr0 v Hh F p0 h0 w0 df S m fl p' a w':=by
 refine⟨c.ext.trans d,c.gl.ext d,c.mn,c.mh,c.ma,c.sz,c.df,fun t E=>d.kH<|c.slot t E,fun i o t r L u A=>d.kH<|c.slotw i o t r L u A,fun k ok B s G z j=>?_,c.inj⟩;obtain⟨n,y,ob,f,v',M,l,J,D,K,x,I⟩:=c.flt k ok B s G z j;have e:=(zc.1 l).1;obtain⟨q,rfl⟩:=d.pre;refine⟨n,y,ob,f,v',M,by rw[d.same _ e D];exact l,J,fun g=>?_,K.mono _,x,I⟩;rcases d.im _ g with h|h
 ·grind
 ·omega
theorem qE{o:Oper}(h:CL o=true):∀c,o.op≠ .defer c:=by
 grind [CL]
theorem up(hC:C.Ok P)(T:call.Ok C P)(st:Stat ops anc ord pos sc)(B:Canon C call ops anc ord pos fr0 h0 v Hh F)(G:Inv C ops pos sc fr0 v Hh F p0 h0 w0 df S m fl p a w)(L:NJ ops pos sc S m a)(hd:Down anc S)(I:Rest ops pos S m)
  {i:Nat} {o:Oper} (d:ops[i]?=some o) (hr:SB anc S i) {Q:Exit->Act->World->Prop} {K:Act->World->Prop}
  (N:∀m' fl' p' a' w',Inv C ops pos sc fr0 v Hh F p0 h0 w0 df (fun k=>S k\/k=i) m' fl' p' a' w'->NJ ops pos sc (fun k=>S k\/k=i) m' a'->Rest ops pos (fun k=>S k\/k=i) m'->K a' w') {ro:Option Nat} {nn:Nat}:wpOpIn (FW ro) nn P ops Q i K a w:=by
 have hin:=(zc.1 d).1;have E:∀cs b,o.op≠ .select cs b:=fun cs b=>Region.noSelect_spec st.sel i o cs b d
 have l:Rest ops pos (fun k=>S k\/k=i) m:=by
  grind [Rest]
 unfold wpOpIn;simp only[d];cases r:Da o with
 |false=>
  by_cases hcp:(sc i).isSome=true/\m<=pos i
  ·
   obtain⟨k,X⟩:=Option.isSome_iff_exists.1 hcp.1;obtain⟨o2,ok,t,q1,q2,q3,q4,q5,q6,q7⟩:=st.q1 i k X;rw[d]at q1;cases q1;have hw:Region.wanted o (yielded ops a.tmps)=true:=by grind [Region.wanted]
   simp only[hw,wk];refine⟨fun _ _=>trivial,?_⟩;have hrun:(execOp a.eval o).run P w=.ok (.value<|a.tmps.getD t undef) w:=by
    unfold execOp;rcases q3 with q3|q3<;>simp[q3,Act.eval]
   rw[zy _ _ _ ah,hrun,zz];have hnal:CL o=false:=by grind [CL]
   refine N m fl p _ w (G.quiet st B d hr.fresh r ah<|by grind [Bf]) (L.put st d hr.fresh hr ae fun k' ok' t' tk Y h2 W h4 _=>?_) l;rw[X]at Y;cases Y;rw[q2]at h2;cases h2;rw[q6]at h4;cases h4;rw[W,Ga<|by rw[G.sz];exact B.dst i o t' d W]
  have hcp':∀k,sc i=some k->pos i<m:=ah;have hfl:∀(k:Nat) (ok:Oper) (t:Tmp),ops[k]?=some ok->(CL ok=true\/(sc k).isSome=true)->ok.dst=some t->t∈reads ops o->anc i k=true->pos k<m:=by
   intro k ok t X M hkt ht D;rcases st.s3 k i ok o t X d M r hkt ht D with h|⟨j,oj,j1,j2,j3,j4⟩
   ·have:=hcp' k h;have:=st.apos _ _ D;omega
   ·have:=(G.mh j oj j1 j2).1<|hr.all j j4;have:=st.apos _ _ j3;omega
  have y:∀x,NJ ops pos sc (fun k=>S k\/k=i) m (a.put o.dst x):=fun x=>L.put st d hr.fresh hr ae ah
  have A:=operands st B G hd d hr hfl;rw[SF A];rcases B.step i o d with⟨u1,u2,s⟩|⟨u1,u⟩
  ·simp only[u1,zo,vf];refine⟨fun _ _=>trivial,?_⟩;exact N m fl p _ w (G.quiet st B d hr.fresh r (fun _=>u1)<|by simp_all [Ad,undef]) (y _) l
  ·simp only[u1,wk];refine⟨fun _ _=>trivial,?_⟩;rcases u with⟨u2,s,Z⟩|⟨u2,ob,f,s,Z,u5⟩|⟨u2,s⟩
   ·have O:=Y9 st B hd G I d hr u2 u1 s;obtain⟨v',p',w',J,R,U⟩:=Kq hC G.ext.rel G.gl A E O;rw[zy _ _ _<|Ht O,J,zz];have hi2:=G.along U;exact N m fl p' _ w' (hi2.quiet st B d hr.fresh r (by grind [Kl]) fun _=>R) (y _) l
   ·have hle:m<=pos i:=by
     rcases PI st hd G I d hr.fresh with h|⟨k,ok,Y,h2,W,h4,h5,h6⟩
     ·exact h
     ·rcases st.s4 k i ok o Y d h2 u2 with h7|h7
      ·grind
      ·omega
    obtain⟨x,n,v',J,R,U⟩:=AcY (P:=P) hC G.gl A s;rw[zy _ _ _<|qE u2,J,zz];exact N m _ p _ _ (G.made st d u2 u1 hle B s R U) (y _) l
   grind
 |true=>
  obtain⟨hnr,hnal⟩:=Tz r;have hle:m<=pos i:=by
   rcases ym (pos i) m with h|h
   ·exact wh ((G.mh i o d r).2 h) hr.fresh
   omega
  have hpn:=(st.posp i hin).1;obtain⟨p1,c⟩:=Inv.adv st B (pos i-m) m G L ae (fun q Y h2 oq hq=>by
   obtain⟨J,R⟩:=st.ordp q ae;refine⟨?_,fun M=>?_⟩
   ·grind [QQ]
   ·rcases st.s4 i (ord q) o oq d hq r M with W|W
    ·exact hr.all _ W
    omega)
  rw[show m+(pos i-m)=pos i from by omega]at c;have A:=operands st B c hd d hr fun k ok t X M _ _ D=>st.apos _ _ D
  have y:∀x,NJ ops pos sc (fun k=>S k\/k=i) (pos i+1) (a.put o.dst x):=fun x=>L.put st d hr.fresh hr ae ae
  rw[SF A];have g:Rest ops pos (fun k=>S k\/k=i) (pos i+1):=.inr ah;rcases B.step i o d with⟨u1,u2,s⟩|⟨u1,u⟩
  ·simp only[u1,zo,vf];refine⟨fun _ _=>trivial,?_⟩;have he:Ext p1 (Hh<|pos i) w p1 (Hh<|pos i+1) w:=by rw[s];exact z6 c.ext.rel
   exact N _ _ _ _ _ (c.wrote st B d r hr.fresh he<|by simp_all [Ad,undef]) (y _) g
  ·simp only[u1,wk];refine⟨fun _ _=>trivial,?_⟩;rcases u with⟨u2,s,Z⟩|⟨u2,ob,f,s,Z,u5⟩|⟨u2,s⟩
   ·grind
   ·grind
   ·unfold Eu at s;split at s
    case h_4=>cases s
    case h_1=>
     rename_i vv hh z;obtain⟨rfl,rfl⟩:=s;obtain⟨v',p',w',J,R,U⟩:=Kq hC c.ext.rel c.gl A E z;rw[zy _ _ _<|Ht z,J,zz];exact N _ _ _ _ _ (c.wrote st B d r hr.fresh U R) (y _) g
    case h_2=>
     rename_i hh z;simp only[zf,yb]at s;obtain⟨Z,rfl⟩:=s;obtain⟨p',w',J,U⟩:=Kq hC c.ext.rel c.gl A E z;rw[zy _ _ _<|Ht z,J,Oper.uponIn_skip];exact N _ _ _ _ _ (c.wrote st B d r hr.fresh U<|by rw[<-Z];simp[Ad,undef]) (y _) g
    case h_3=>
     rename_i f args z;obtain⟨args',J,R⟩:=Kq hC c.ext.rel c.gl A E z;rw[zy _ _ _<|Ht z,J,Oper.uponIn_enter];split at s
     case h_2=>cases s
     rename_i x1 x2 hcl;cases s;refine⟨(by grind [FW,z7]),XN.2<|(T.fn f args _ _ hcl p1 w args' c.ext.rel c.gl R).mono ?_⟩;rintro e w' ⟨v',h',x',p',hm,rfl,k1,k2⟩;rw[zi]at hm;cases hm;exact N _ _ _ _ _ (c.wrote st B d r hr.fresh k2 k1) (y _) g
theorem Inv.congr{c:Nat->Prop}(h:∀k,S k↔c k)(d:Inv C ops pos sc fr0 v Hh F p0 h0 w0 df S m fl p a w):Inv C ops pos sc fr0 v Hh F p0 h0 w0 df c m fl p a w:=by
 have e:S=c:=ah;grind
theorem NJ.congr{c:Nat->Prop}(h:∀k,S k↔c k)(d:NJ ops pos sc S m a):NJ ops pos sc c m a:=by
 have e:S=c:=ah;grind
theorem Rest.congr{c:Nat->Prop}(h:∀k,S k↔c k)(d:Rest ops pos S m):Rest ops pos c m:=by
 have e:S=c:=ah;grind
def Ls(l:Array Bool)(k:Nat):Prop:=l.getD k false=true
theorem V9{l:Array Bool}(n:Nat)(g:l.size=n){i:Nat}(f:i<n)(c:l.getD i true=false):
  ((zt n).filter fun k=> !(l.setIfInBounds i true).getD k true).length<((zt n).filter fun k=> !l.getD k true).length:=by
 have sub:∀k,(!(l.setIfInBounds i true).getD k true)=true->(!l.getD k true)=true:=by
  intro k d;by_cases e:i=k
  ·grind
  simp_all
 have key:∀(L:List Nat),(L.filter fun k=> !(l.setIfInBounds i true).getD k true).length<=(L.filter fun k=> !l.getD k true).length/\(i∈L->(L.filter fun k=> !(l.setIfInBounds i true).getD k true).length<(L.filter fun k=> !l.getD k true).length):=by
  intro L;induction L with
  |nil=>simp
  |cons x L j=>
   simp only[List.filter_cons];constructor
   ·grind
   ·by_cases e:i=x
    ·subst e;rw[wc (by simp),wd<|by simp[c]];grind
    grind
 grind
theorem rZ(hC:C.Ok P)(x:call.Ok C P)(st:Stat ops anc ord pos sc)(E:Canon C call ops anc ord pos fr0 h0 v Hh F){Q:Exit->Act->World->Prop}
  (hQ:∀p' K w',CO p' (F ops.size) K->Ext p0 h0 w0 p' (Hh ops.size) w'->K.defers=df->Q .normal K w') {ro:Option Nat} {nn:Nat}:
  ∀(c:Nat) (l:Array Bool),l.size=ops.size->((zt ops.size).filter fun k=> !l.getD k true).length<=c->∀ {m:Nat} {fl:Nat->Nat} {p:Pl} {a:Act} {w:World},
   Inv C ops pos sc fr0 v Hh F p0 h0 w0 df (Ls l) m fl p a w->NJ ops pos sc (Ls l) m a->Down anc (Ls l)->Rest ops pos (Ls l) m->wpAnyIn (FW ro) nn P .any ops Q c l a w:=by
 have fin:∀(l:Array Bool),l.size=ops.size->yd .any ops l=[]->∀ {m:Nat} {fl:Nat->Nat} {p:Pl} {a:Act} {w:World},
   Inv C ops pos sc fr0 v Hh F p0 h0 w0 df (Ls l) m fl p a w->NJ ops pos sc (Ls l) m a->Q .normal a w:=by
  intro l U I m fl p a w z s;have all:∀q,q<=ops.size->∀k,k<ops.size->pos k<q->Ls l k:=by
   intro q;induction q with
   |zero=>omega
   |succ q O=>
    intro hq k f hlt;by_cases e:pos k=q
    ·apply zw;intro hns;have W:k∈yd .any ops l:=by
      rw[mem_ready];refine⟨?_,ops[k],by simp[f],fun X N hb=>?_⟩
      ·grind [Ls]
      ·obtain⟨M,B⟩:=st.dir k _ X (by simp[f]) N hb;have h3:=st.apos _ _ M;exact O ae X.on B ae
     grind
    grind
  have u:∀k,k<ops.size->Ls l k:=fun k f=>all ops.size ae k f (st.posp k f).1
  obtain⟨p',d⟩:=Inv.adv st E (ops.size-m) m z s (by have:=z.mn;omega) (fun q M B o ho=>by
   obtain⟨Y,g2⟩:=st.ordp q ae;refine⟨?_,ah⟩;cases hv:Da o with
   |false=>rfl
   |true=>have:=(z.mh _ o ho hv).1<|u _ Y;omega)
  rw[show m+(ops.size-m)=ops.size from by have:=z.mn;omega]at d;refine hQ p' a w ⟨by rw[E.fn _ ae,d.sz],fun t=>?_⟩ d.ext d.df;by_cases hw:∃(k:Nat) (ok:Oper),ops[k]?=some ok/\ok.dst=some t
  ·obtain⟨k,ok,f,A⟩:=hw;have y:=(zc.1 f).1;rw[Fw st E f A _ ae (st.posp k y).1];exact d.slotw k ok t (u k y) f A fun _ _=>(st.posp k y).1
  ·rw[Fz st E _ ae ah];exact d.slot t ah
 intro c;induction c with
 |zero=>
  intro l U D m fl p a w z s T r;have I:yd .any ops l=[]:=by
   simp_all [yd,zt]
  exact⟨I,ah⟩
 |succ c O=>
  intro l U D m fl p a w z s T r;refine⟨ah,fun i hm=>?_⟩;obtain⟨M,o,B,h3⟩:=mem_ready.1 hm;have Z:=(zc.1 B).1;have g:SB anc (Ls l) i:=by
   refine⟨fun hs=>?_,fun k f=>?_⟩
   ·grind [Ls]
   ·obtain⟨o',e,Y,g2,g3,g4⟩:=st.edge i k f;grind [Ls,Down]
  refine up hC x st E z s T r B g fun m' fl' p' K w' d G L=>?_
  have R:∀k,(Ls l k\/k=i)↔Ls (l.setIfInBounds i true) k:=by
   intro k;unfold Ls;by_cases e:k=i
   ·simp_all
   ·rw[getD_set_ne false ae];simp[e]
  refine O (l.setIfInBounds i true) ah ?_ (d.congr R) (G.congr R) ?_ (by simp_all)
  ·grind [V9]
  ·intro j k J f;rw[<-R]at J ⊢;rcases J with J|rfl
   ·exact .inl<|T j k J f
   ·exact .inl<|g.all k f
theorem pZ(r:C.Ok P)(c:call.Ok C P)(o:P.follows .mixedOrders=true)(st:Stat ops anc ord pos sc)(g:Canon C call ops anc ord pos fr0 h0 v Hh F){Q:Exit->Act->World->Prop}(hr:R p h0 w)(j:Gl C p)(f:CO p fr0 a)
  {id:Nat} (q:∀p' d w',CO p' (F ops.size) d->Ext p h0 w p' (Hh ops.size) w'->d.defers=a.defers->Q .normal d w') {ro:Option Nat} {u:Nat}:(yg id ops true).wpIn (FW ro) u P Q a w:=by
 refine wpIn_region_any o ?_;have s:=Ext.drew hr<|w.drawn+1;have l:∀k,¬Ls (yf ops.size false) k:=by
  intro k e;unfold Ls at e;rw[zk]at e;grind
 refine rZ (p0:=p) (h0:=h0) (w0:=w) (df:=a.defers) r c st g q ops.size _ (by simp) ah (m:=0) (fl:=fun _=>0) (p:=p)
  ⟨by rw[g.h0];exact s,j,Nat.zero_le _,ah,ae,f.1.symm,rfl,fun t _=>f.2 t,ah,ah,ah⟩
  ⟨ah⟩ (fun i k h=>ah) (.inl rfl)
end
structure OB where
 anc:List Nat
 ord:List Nat
 pos:List Nat
 sc:List (Option Nat)
def AeW(acc:List Nat)(o:Oper):Nat:=
 o.after.toList.foldl (fun s e=>bif Region.binds .any e then s|||(2^e.on|||acc.getD e.on 0)else s) 0
def Aa3:List Oper->List Nat->List Nat
 |[],c=>c
 |o::os,c=>Aa3 os<|c++[AeW c o]
def tb(m i:Nat):Bool:=m.testBit i
def sub(a d:Nat):Bool:=ze (a&&&d) a
def JU(f:Nat->Oper->Bool):Nat->List Oper->Option Nat
 |_,[]=>none
 |i,o::os=>bif f i o then some i else JU f (i+1) os
def lZ(f:Nat->Oper->Bool):Nat->List Oper->List Nat
 |_,[]=>[]
 |i,o::os=>bif f i o then i::lZ f (i+1) os else lZ f (i+1) os
def V6(ops:List Oper)(anc:List Nat):Nat->Nat->List Nat->List Nat
 |0,_,out=>out.reverse
 |fuel+1,d,out=>
  match JU (fun i o=>EM o&& !tb d i&&sub (anc.getD i 0) d) 0 ops with
  |some i=>V6 ops anc fuel (d|||2^i) (i::out)
  |none=>
   match JU (fun i o=>Da o&& !tb d i) 0 ops with
   |some k=>
    let c:=lZ (fun i o=>CL o&& !tb d i&&tb (anc.getD k 0) i) 0 ops
    bif c.isEmpty then V6 ops anc fuel (d|||2^k) (k::out)
    else V6 ops anc fuel (c.foldl (fun s i=>s|||2^i) d)<|c.reverse++out
   |none=>
    match JU (fun i o=>CL o&& !tb d i) 0 ops with
    |some i=>V6 ops anc fuel (d|||2^i) (i::out)
    |none=>out.reverse
def idx(l:List Nat)(i:Nat):Nat:=l.getD i 0
def Age(ord:List Nat)(n:Nat):List Nat:=(zt n).map fun i=>ord.idxOf i
def TG(o:Oper):Option Tmp:=
 match o.guard,o.op with
 |none,.assign (.tmp t)=>some t
 |none,.move (.tmp t)=>some t
 |_,_=>none
def Ahb(ops:List Oper)(anc:List Nat)(i:Nat)(o:Oper):Option Nat:=
 match TG o with
 |some t=>
  match JU (fun k x=>CL x&&(x.dst==some t)&&tb (anc.getD i 0) k) 0 ops with
  |some k=>match JU (fun h x=>Da x&&tb (anc.getD h 0) k&&tb (anc.getD i 0) h) 0 ops with
   |none=>some k
   |some _=>none
  |none=>none
 |none=>none
def Ff(ops:Array Oper):OB:=
 let anc:=Aa3 ops.toList []
 let ord:=V6 ops.toList anc (3*ops.size+3) 0 []
 ⟨anc,ord,Age ord ops.size,ops.toList.zipIdx.map fun(o,i)=>Ahb ops.toList anc i o⟩
def OB.s(pl:OB)(i:Nat):Option Nat:=pl.sc.getD i none
def OB.a(pl:OB)(j i:Nat):Bool:=(idx pl.anc j).testBit i
def Zx(ops:Array Oper)(f:Nat->Oper->Nat->Oper->Bool):Bool:=
 ops.toList.zipIdx.all fun(o,i)=>ops.toList.zipIdx.all fun(o',j)=>f i o j o'
def IE(ops:Array Oper)(pl:OB):Bool:=
 let n:=ops.size
 let A:=pl.a
 let pos:=idx pl.pos
 let ord:=idx pl.ord
 Region.noSelect ops&&
 ((zt n).all fun q=>zn (ord q) n&&ze (pos<|ord q) q)&&
 ((zt n).all fun i=>zn (pos i) n&&ze (ord<|pos i) i)&&
 (pl.anc.length==n)&&(pl.ord.length==n)&&
 (pl.sc.zipIdx.all fun(s,i)=>match s with
  |none=>true
  |some k=>match ops[i]?,ops[k]? with
   |some o,some ok=>match TG o with
    |some t=>CL ok&&(ok.dst==some t)&&A i k
    |none=>false
   |_,_=>false)&&
 (ops.toList.zipIdx.all fun(o,j)=>zn (idx pl.anc j) (2^n)&&
  ((zt n).all fun i=> !A j i||((o.after.toList.any fun e=>Region.binds .any e&&(ze e.on i||A e.on i))&&zn (pos i) (pos j)))&&
  (o.after.toList.all fun e=> !Region.binds .any e||(A j e.on&&zn e.on n)))&&
 (Zx ops fun i o j o'=>
  (!(Da o&&Da o')||ze i j||A i j||A j i)&&
  (!(Da o&&EM o')||A j i||zn (pos j) (pos i))&&
  (!((CL o||(pl.s i).isSome)&& !Da o')|| !A j i||(match o.dst with|some t=> !((reads ops o').contains t)|none=>true)||(pl.s j==some i)||(ops.toList.zipIdx.any fun(x,k)=>Da x&&A k i&&A j k))&&
  (!(Da o&&CL o')||A i j||zn (pos i) (pos j))&&
  (!(EM o&&R4 o&&CL o')|| !zn (pos j) (pos i)||(ops.toList.zipIdx.any fun(x,k)=>Da x&&zn (pos j) (pos k)&&zn (pos k) (pos i)))&&
  (ze i j||(match o.dst with
   |none=>true
   |some t=> !(o'.dst==some t)&&(!((reads ops o').contains t)||A j i||A i j))))
theorem Kd{ops:Array Oper}{i:Nat}{o:Oper}(h:ops[i]?=some o):(o,i)∈ops.toList.zipIdx:=by
 have:=(zc.1 h);obtain⟨c,d⟩:=this;rw[zq];simpa using h
theorem kL{ops:Array Oper}{i:Nat}{o:Oper}(h:(o,i)∈ops.toList.zipIdx):ops[i]?=some o:=by
 rw[zq]at h;simpa using h
theorem Wo{o:Oper}{t:Tmp}(h:TG o=some t):(o.op=.assign (.tmp t)\/o.op=.move (.tmp t))/\o.guard=none:=by
 unfold TG at h;split at h
 ·cases h;rename_i c d;exact⟨.inl d,c⟩
 ·cases h;rename_i c d;exact⟨.inr d,c⟩
 ·cases h
theorem bI{ops:Array Oper}{pl:OB}(N:IE ops pl=true):Stat ops pl.a (idx pl.ord) (idx pl.pos) pl.s:=by
 unfold IE at N;simp only[zd]at N;obtain⟨⟨⟨⟨⟨⟨⟨h0,O⟩,R⟩,h3⟩,_⟩,I⟩,A⟩,Y⟩:=N;simp only[zj,yh,zd,yj,BA,w5]at O R;simp only[zj]at A;have u:∀(i j:Nat) (o o':Oper),ops[i]?=some o->ops[j]?=some o'->_:=fun i j o o' g f=>zj.1 (zj.1 Y (o,i)<|Kd g) (o',j)<|Kd f
 simp only[zd,zl,zr,BA,w5,HE,w9,Bool.and_eq_false_imp]at u;have l:∀(j i:Nat),pl.a j i=true->j<ops.size/\i<ops.size:=by
  intro j i h;have f:j<ops.size:=by
   rcases ym j ops.size with c|c
   ·exact c
   ·have hl:pl.anc.length=ops.size:=by simpa using h3
    unfold OB.a idx at h;rw[z8,List.getElem?_eq_none ae]at h;simp at h
  refine⟨f,?_⟩;have c:=A (ops[j],j) (Kd<|by simp[f]);simp only[zd,yj]at c;rcases ym i ops.size with d|d
  ·exact d
  ·have D:=c.1.1;have h9:idx pl.anc j<2^i:=Nat.lt_of_lt_of_le D (Nat.pow_le_pow_right ae d);unfold OB.a at h;rw[Nat.testBit_lt_two_pow h9]at h;cases h
 refine⟨h0,fun q I=>O q I,fun i g=>R i g,fun j i h=>?_,fun j o e f M X=>?_,fun j i h=>?_,fun i j o o' g f E W z=>?_,fun i j o o' g f E hr=>?_,fun i k h=>?_,fun j k o o' t f T G E B r h=>?_,fun i j o o' g f E G=>?_,
  fun i j o o' g f hr K G Z=>?_,fun i j o o' t g f z B=>?_⟩
 ·obtain⟨f,g⟩:=l j i h;have c:=A (ops[j],j) (Kd<|by simp[f]);simp only[zd,zj,yh,zl,zr]at c;rcases c.1.2 i g with d|d
  ·rw[h]at d;cases d
  ·obtain⟨e,M,D⟩:=yc.1 d.1;simp only[zd,zl,BA,w5]at D;exact⟨ops[j],e,by simp[f],by simpa using M,D.1,D.2⟩
 ·have c:=A (o,j)<|Kd f;simp only[zd,zj,zl,zr,yj]at c;rcases c.2 e (by simpa using M)with d|d
  ·rw[X]at d;cases d
  ·exact d
 ·obtain⟨f,g⟩:=l j i h;have c:=A (ops[j],j) (Kd<|by simp[f]);simp only[zd,zj,yh,zl,zr,yj]at c;rcases c.1.2 i g with d|d
  ·rw[h]at d;cases d
  ·exact d.2
 ·have:=(u i j o o' g f).1.1.1.1.1;simp_all
 ·have:=(u i j o o' g f).1.1.1.1.2;simp_all
 ·have r:(pl.s i,i)∈pl.sc.zipIdx:=by
   rw[zq];unfold OB.s at h ⊢;rw[z8]at h ⊢;cases U:pl.sc[i]? with
   |none=>rw[U]at h;cases h
   |some x=>rfl
  have c:=zj.1 I _ r;simp only[h]at c;split at c
  case h_2=>cases c
  rename_i o ok ho L;split at c
  case h_2=>cases c
  rename_i t B;simp only[zd,wj]at c;obtain⟨g1,g2⟩:=Wo B;exact⟨o,ok,t,ho,L,g1,g2,c.1.1,c.1.2,c.2⟩
 ·have c:=(u j k o o' f T).1.1.1.2;have y:(CL o||(pl.s j).isSome)=true:=by simpa using G
  rw[E,h,B]at c;have hc:(reads ops o').contains t=true:=by simpa using r
  simp only[zl]at y;simp only[hc,Bool.not_false,Bool.not_true,zo,or_false,Bool.true_eq_false]at c;rcases c with(c|c)|c
  ·exact wh y (fun d=>by simpa using c d)
  ·exact .inl (by simpa using c)
  ·obtain⟨⟨x,i⟩,J,d⟩:=yc.1 c;simp only[zd]at d;exact .inr ⟨i,x,kL J,d.1.1,d.1.2,d.2⟩
 ·have:=(u i j o o' g f).1.1.2;simp_all
 ·have c:=(u i j o o' g f).1.2;rw[hr,K,G]at c;simp only[and_self,forall_const,Bool.true_eq_false,false_or]at c;rcases c with c|c
  ·omega
  ·obtain⟨⟨x,k⟩,r,d⟩:=yc.1 c;simp only[zd,w5]at d;exact⟨k,x,kL r,d.1.1,d.1.2,d.2⟩
 ·have c:=(u i j o o' g f).2;rcases c with c|c
  ·exact wh c z
  ·rw[B]at c;simp only[zd,zr,zl,vc]at c;refine⟨c.1,fun r=>?_⟩;rcases c.2 with(d|d)|d
   ·have:(reads ops o').contains t=true:=by simpa using r
    rw[this]at d;cases d
   ·exact .inl d
   ·exact .inr d
theorem yQ{ops:Array Oper}{pl:OB}(c:IE ops pl=true):pl.ord.length=ops.size:=by
 unfold IE at c;simp only[zd]at c;obtain⟨⟨⟨⟨⟨⟨⟨h0,e⟩,l⟩,f⟩,d⟩,g⟩,j⟩,i⟩:=c;simpa using d
mutual
def V.beq:V->V->Bool
 | .bool a,.bool b=>a==b
 | .int k a,.int l b=>k==l&&a==b
 | .str a,.str b=>a==b
 | .nilp,.nilp=>true
 | .ptr a i,.ptr b j=>ze a b&&ze i j
 | .nils,.nils=>true
 | .sl a b c d e,.sl q b' r o s=>ze a q&&ze b b'&&ze c r&&ze d o&&ze e s
 | .esl,.esl=>true
 | .es0,.es0=>true
 | .junk,.junk=>true
 | .nilm,.nilm=>true
 | .map a,.map b=>ze a b
 | .yld a,.yld b=>ze a b
 | .nilf,.nilf=>true
 | .nili,.nili=>true
 | .fn f a b,.fn g c d=>f==g&&V.LK a c&&V.LK b d
 | .iface t x,.iface u y=>ze t u&&V.beq x y
 | .agg a,.agg b=>V.LK a b
 | .tup a,.tup b=>V.LK a b
 |_,_=>false
def V.LK:List V->List V->Bool
 |[],[]=>true
 |a::c,b::d=>V.beq a b&&V.LK c d
 |_,_=>false
end
mutual
theorem V.beq_eq:∀ {a b:V},V.beq a b=true->a=b:=by
 intro a b h;cases a<;>cases b<;>simp only[V.beq]at h<;>first
  |(cases h;done)
  |rfl
  |(simp only[zd,wj,BA,w5]at h;first|(rfl)|(rfl)|(obtain⟨⟨⟨⟨rfl,rfl⟩,rfl⟩,rfl⟩,rfl⟩:=h;rfl))
  |skip
 case fn.fn f a b g c d=>
  simp only[zd,wj]at h;rw[h.1.1,V.IB h.1.2,V.IB h.2]
 case iface.iface t x u y=>
  simp only[zd,BA,w5]at h;rw[h.1,V.beq_eq h.2]
 case agg.agg a b=>rw[V.IB h]
 case tup.tup a b=>rw[V.IB h]
theorem V.IB:∀ {a b:List V},V.LK a b=true->a=b
 |[],[],_=>rfl
 |[],_::_,h=>by simp[V.LK]at h
 |_::_,[],h=>by simp[V.LK]at h
 |a::c,b::d,h=>by
  simp only[V.LK,zd]at h;rw[V.beq_eq h.1,V.IB h.2]
end
structure Rc where
 i:Nat
 o:Oper
 f:Fr
 v:V
structure St where
 f:Fr
 h:H
 r:List Rc
def still(C:Ctx)(anc:Nat->Nat->Bool)(i:Nat)(h:H)(r:Rc):Bool:=
 anc i r.i||(match G3 C r.f h r.o with
  |some (.val x _)=>V.beq x r.v
  |_=>false)
def IC(C:Ctx)(call:DR)(ops:Array Oper)(anc:Nat->Nat->Bool)(i:Nat)(s:St):Option (V×St):=
 match ops[i]? with
 |none=>none
 |some o=>
  bif Bf s.f ops o then
   bif EM o then
    match G3 C s.f s.h o with
    |some (.val v _)=>match s.f.put o.dst v with
     |some c=>some (v,⟨c,s.h,bif R4 o then⟨i,o,s.f,v⟩::s.r else s.r⟩)
     |none=>none
    |_=>none
   else bif CL o then
    match iC C s.f o with
    |some (ob,f)=>match s.f.put o.dst (f s.h.nx)with
     |some c=>some (f s.h.nx,⟨c,s.h.push ob,s.r⟩)
     |none=>none
    |none=>none
   else
    match Eu C call s.f s.h o with
    |some (v,h')=>match s.f.put o.dst v with
     |some c=>bif s.r.all (still C anc i h')then some (v,⟨c,h',s.r⟩)else none
     |none=>none
    |none=>none
  else
   match s.f.put o.dst (.tup [])with
   |some c=>bif Da o then(bif s.r.all (still C anc i s.h)then some (.tup [],⟨c,s.h,s.r⟩)else none)else some (.tup [],⟨c,s.h,s.r⟩)
   |none=>none
def Wq(C:Ctx)(call:DR)(ops:Array Oper)(anc:Nat->Nat->Bool):List Nat->St->Option St
 |[],s=>some s
 |i::c,s=>match IC C call ops anc i s with
  |some (_,d)=>Wq C call ops anc c d
  |none=>none
def I8(C:Ctx)(call:DR)(ops:Array Oper)(fr:Fr)(h:H):Option (Fr×H):=
 match Wq C call ops (Ff ops).a (Ff ops).ord ⟨fr,h,[]⟩with
 |some s=>some (s.f,s.h)
 |none=>none
def Ww(C:Ctx)(call:DR)(ops:Array Oper)(fr:Fr)(h:H):Option (Fr×H):=
 bif IE ops (Ff ops)then I8 C call ops fr h else none
def D0:Code->Bool
 | .region _ ops dr=>bif dr then IE ops (Ff ops)else true
 | .seq a b=>D0 a&&D0 b
 | .cond _ a b=>D0 a&&D0 b
 | .block _ b=>D0 b
 | .loop b=>D0 b
 | .scope b=>D0 b
 |_=>true
section
variable {C:Ctx}{P:Program}{call:DR}{ops:Array Oper}{p:Pl}{h:H}{w:World}{fr:Fr}{a:Act}
theorem Lz{f c:Fr}{d:Option Nat}{v:V}(h:f.put d v=some c):c.n=f.n/\(∀t,c.get t=if d=some t then v else f.get t)/\∀t,d=some t->t<f.n:=by
 unfold Fr.put at h;cases d with
 |none=>grind
 |some s=>
  simp only[HE]at h;by_cases e:s<f.n
  ·grind [Fr.get,PM.Dz]
  grind
theorem Ef{anc:Nat->Nat->Bool}{i:Nat}{s d:St}{v:V}(c:IC C call ops anc i s=some (v,d)):∃o,ops[i]?=some o/\d.f.n=s.f.n/\(∀t,d.f.get t=if o.dst=some t then v else s.f.get t)/\(∀t,o.dst=some t->t<s.f.n)/\
  ((Bf s.f ops o=false/\v=.tup []/\d.h=s.h)\/
   (Bf s.f ops o=true/\
   ((EM o=true/\G3 C s.f s.h o=some (.val v s.h)/\d.h=s.h)\/
    (CL o=true/\∃ob f,iC C s.f o=some (ob,f)/\v=f s.h.nx/\d.h=s.h.push ob)\/
    (Da o=true/\Eu C call s.f s.h o=some (v,d.h)))))/\
  (∀r∈s.r,r∈d.r)/\(EM o=true->R4 o=true->Bf s.f ops o=true->⟨i,o,s.f,v⟩∈d.r)/\
  (Da o=true->∀r∈s.r,still C anc i d.h r=true):=by
 unfold IC at c;split at c
 case h_1=>cases c
 rename_i o D;refine⟨o,D,?_⟩;cases z:Bf s.f ops o with
 |false=>
  simp only[z,wg]at c;split at c
  case h_2=>cases c
  rename_i x hp;obtain⟨q,j,l⟩:=Lz hp;grind
 |true=>
  simp only[z,we]at c;cases e:EM o with
  |true=>
   simp only[e,we]at c;split at c
   case h_2=>cases c
   rename_i v1 y u;split at c
   case h_2=>cases c
   rename_i x hp;obtain⟨rfl,rfl⟩:=c;obtain⟨q,j,l⟩:=Lz hp;obtain⟨v2,hv2⟩:=rd_val e u;refine⟨q,j,l,ah,fun r hr=>?_,fun _ E _=>?_,(by grind [Tz])⟩
   ·grind
   grind
  |false=>
   simp only[e,wg]at c;cases g:CL o with
   |true=>
    simp only[g,we]at c;split at c
    case h_2=>cases c
    split at c
    case h_2=>cases c
    rename_i x hp;obtain⟨rfl,rfl⟩:=c;obtain⟨q,j,l⟩:=Lz hp;exact⟨q,j,l,ah,fun r hr=>hr,(by simp),(by grind [Tz])⟩
   |false=>
    simp only[g,wg]at c;split at c
    case h_2=>cases c
    rename_i v1 y B;split at c
    case h_2=>cases c
    rename_i x hp;obtain⟨q,j,l⟩:=Lz hp;cases A:s.r.all (still C anc i y)with
    |false=>grind
    |true=>
     simp only[A,we,zf,yb]at c;obtain⟨rfl,rfl⟩:=c;simp_all [Da]
theorem Oh{anc:Nat->Nat->Bool}:∀(L:List Nat) (s d:St),Wq C call ops anc L s=some d->
  ∃(c:Nat->St) (e:Nat->V),c 0=s/\c L.length=d/\∀(q i:Nat),L[q]?=some i->IC C call ops anc i (c q)=some (e q,c<|q+1)
 |[],s,d,h=>by
  cases h;exact⟨fun _=>s,fun _=>.nilp,rfl,rfl,(by simp)⟩
 |i::L,s,d,h=>by
  unfold Wq at h;split at h
  case h_2=>cases h
  rename_i v s1 f;obtain⟨c,e,h0,l,g⟩:=Oh L s1 d h;refine⟨fun q=>match q with|0=>s|q+1=>c q,fun q=>match q with|0=>v|q+1=>e q,rfl,by omega,fun q j o=>?_⟩;grind
theorem tG{pl:OB}(W:IE ops pl=true){L:St}(hd:Wq C call ops pl.a pl.ord ⟨fr,h,[]⟩=some L):
  ∃(v:Nat->V) (Hh:Nat->H) (F:Nat->Fr),Canon C call ops pl.a (idx pl.ord) (idx pl.pos) fr h v Hh F/\Hh ops.size=L.h/\F ops.size=L.f:=by
 have st:=bI W;have hl:=yQ W;obtain⟨A,T,h0,hn,hq⟩:=Oh pl.ord _ _ hd;have Eu:∀q,q<ops.size->IC C call ops pl.a (idx pl.ord q) (A q)=some (T q,A<|q+1):=by
  grind [idx]
 have M:∀q,q<=ops.size->(A q).f.n=fr.n:=by
  intro q;induction q with
  |zero=>grind
  |succ q X=>
   intro d;obtain⟨o,_,g1,_⟩:=Ef (Eu q ae);omega
 have z:∀q s,q<=s->s<=ops.size->∀r∈(A q).r,r∈(A s).r:=by
  intro q s hle;induction s with
  |zero=>
   grind
  |succ s X=>
   intro d r hr;by_cases e:q=s+1
   ·grind
   ·obtain⟨o,_,_,_,_,_,g,_⟩:=Ef (Eu s ae);exact g r (X ae ae r hr)
 refine⟨fun i=>T<|idx pl.pos i,fun q=>(A q).h,fun q=>(A q).f,⟨by simp[h0],by simp[h0],M,fun q d o B t=>?_,fun i o t B ht=>?_,fun i o B=>?_,fun i j o oj B U R J O Y hlt G=>?_⟩,by grind,by grind⟩
 ·obtain⟨o',l,_,g1,_⟩:=Ef<|Eu q d;simp only[(st.ordp q d).2];grind
 ·have c:=(zc.1 B).1;have hp:=st.posp i c;obtain⟨o',l,_,_,g2,_⟩:=Ef<|Eu _ hp.1;grind
 ·have c:=(zc.1 B).1;have hp:=st.posp i c;obtain⟨o',l,_,_,_,g3,_⟩:=Ef<|Eu _ hp.1;simp_all
 ·have c:=(zc.1 B).1;have N:=(zc.1 U).1;have u:=st.posp i c;have D:=st.posp j N;obtain⟨o',l,_,_,_,_,_,Z,_⟩:=Ef<|Eu _ D.1;rw[D.2,U]at l;cases l;have E:=z _ (idx pl.pos i) ae ae _<|Z J O Y;obtain⟨o'',l,_,_,_,_,_,_,g5⟩:=Ef<|Eu _ u.1;rw[u.2,B]at l;cases l;have I:=g5 R _ E;unfold still at I;rw[D.2]at I;rw[u.2,G]at I;split at I
  case h_2=>cases I
  rename_i x hx K;obtain⟨y,hy⟩:=rd_val J K;grind [V.beq_eq]
theorem Qm(g:IE ops (Ff ops)=true)(q:C.Ok P)(c:call.Ok C P)(j:P.follows .mixedOrders=true)(hr:R p h w)(i:Gl C p)(l:CO p fr a){fr':Fr}{h':H}(f:I8 C call ops fr h=some (fr',h')){id:Nat}{ro:Option Nat}{t:Nat}{Q:Exit->Act->World->Prop}
  (o:∀p' e w',CO p' fr' e->Ext p h w p' h' w'->e.defers=a.defers->Q .normal e w'):(yg id ops true).wpIn (FW ro) t P Q a w:=by
 unfold I8 at f;split at f
 case h_2=>cases f
 rename_i s d;obtain⟨v,Hh,F,r,x,A⟩:=tG g d;refine pZ q c j (bI g) r hr i l fun p' e w' z y u=>o p' e w' ?_ ?_ u
 ·grind
 grind
theorem dG(q:C.Ok P)(c:call.Ok C P)(j:P.follows .mixedOrders=true)(hr:R p h w)(g:Gl C p)(l:CO p fr a){fr':Fr}{h':H}(e:Ww C call ops fr h=some (fr',h')){id:Nat}{ro:Option Nat}{f:Nat}{Q:Exit->Act->World->Prop}
  (o:∀p' d w',CO p' fr' d->Ext p h w p' h' w'->d.defers=a.defers->Q .normal d w'):(yg id ops true).wpIn (FW ro) f P Q a w:=by
 unfold Ww at e;cases i:IE ops (Ff ops)with
 |false=>grind
 |true=>
  grind [Qm]
end
section
variable {P:Program}{F:Fence}{n:Nat}{b:Frame}{a:Act}{k:List Item}{cs:List Frame}{w:World}{Q:Exit->Act->World->Prop}
theorem Es{c:Code}:step P (lone (b.atR a (.code (.scope c)::k)) cs w)=.next (lone (b.atR a (.code c:: .inScope c::k)) cs w):=
 (by rfl)
theorem RU{c:Code}:step P (lone (b.atR a (.inScope c::k)) cs w)=.next (lone (b.atR a k) cs w):=
 (by rfl)
theorem Ku{c:Code}(h:c.wpIn F n P (Exit.noGoto Q) a w):(Code.scope c).wpIn F n P Q a w:=by
 intro b k cs j o hr;have h0:(lone (b.atR a (.code (.scope c)::k)) cs w).fenced P F:=fenced_calm o hr rfl;obtain⟨e,f,g,i,d⟩:=h b (.inScope c::k) cs j o hr;cases e with
 |normal=>exact⟨.normal,f,g,i,.head h0 Es<|StepsIn.trans d<|.one (fenced_calm o hr rfl) RU⟩
 |exit id=>
  have t:exitTo id (.inScope c::k)=exitTo id k:=by rfl
  exact⟨.exit id,f,g,i,fun r s=>.head h0 Es (d.1 r ah),
   fun q s=>let ⟨k₁,h1,h2⟩:=d.2 q ah;⟨k₁,h1,.head h0 Es h2⟩⟩
 |goto l=>exact i.elim
 |ret=>exact⟨_,f,g,i,.of_steps (.one h0 Es) d⟩
 |panic u=>exact⟨_,f,g,i,.of_steps (.one h0 Es) d⟩
 |outgrown=>exact⟨_,f,g,i,.of_steps (.one h0 Es) d⟩
end
structure X where
 e:DX
 fr:Fr
 h:H
 ds:List Nat
def Up(ro:Option Nat)(fr:Fr)(h:H)(ps:Array Tmp)(asg body:Code)(ds:List Nat):Option (Nat×H×List Nat):=
 match ro with
 |none=>some (h.nx+1,(h.push<|.defd true).push<|.loop ⟨.ready,none,fr,ps,asg,body,h.nx⟩,h.nx::ds)
 |some b=>match h.get b with
  |some (.loop l)=>some (h.nx,h.push<|.loop ⟨.ready,none,fr,ps,asg,body,l.db⟩,ds)
  |_=>none
def BP(C:Ctx)(call:DR)(ro:Option Nat)(ct:Bool):Nat->Code->Fr->H->List Nat->Option (List X)
 |0,_,_,_,_=>none
 |m+1,c,fr,h,ds=>
  match c with
  | .skip| .label _=>some [⟨.normal,fr,h,ds⟩]
  | .region _ ops dr=>bif dr then(match (bif ct then I8 C call ops fr h else Ww C call ops fr h)with
    |some (fr',h')=>some [⟨.normal,fr',h',ds⟩]
    |none=>none)
   else(match TV C call ops ops.toList fr h with
    |some l=>some<|l.map fun x=>⟨.normal,x.1,x.2,ds⟩
    |none=>none)
  | .seq a b=>match BP C call ro ct m a fr h ds with
   |some l=>bl l fun x=>match x.e with
    | .normal=>BP C call ro ct m b x.fr x.h x.ds
    |_=>some [x]
   |none=>none
  | .cond x a b=>match ev C fr x with
   |some (.bool true)=>BP C call ro ct m a fr h ds
   |some (.bool false)=>BP C call ro ct m b fr h ds
   |_=>none
  | .block id b=>match BP C call ro ct m b fr h ds with
   |some l=>some<|l.map fun x=>match x.e with
    | .exit i=>bif ze i id then { x with e:=.normal }else x
    |_=>x
   |none=>none
  | .loop b=>match BP C call ro ct m b fr h ds with
   |some l=>bl l fun x=>match x.e with
    | .normal=>BP C call ro ct m (.loop b) x.fr x.h x.ds
    |_=>some [x]
   |none=>none
  | .exit i=>some [⟨.exit i,fr,h,ds⟩]
  | .ret=>some [⟨.ret,fr,h,ds⟩]
  | .scope b=>BP C call ro ct m b fr h ds
  | .rangeFunc g ps asg body=>match Up ro fr h ps asg body ds,ev C fr g with
   |some (b,j,d),some o=>match IG C j o [.yld b]with
    |some (.enter f args)=>match call (.fn f args) j with
     |some l=>bl l fun x=>match x.2.get b with
      |some (.loop ls)=>match ls.st,ls.pend with
       | .busy,_=>none
       |_,none=>some [⟨.normal,fr,x.2.put b<|.loop { ls with st:=.exhausted },d⟩]
       |_,some c=>BP C call ro false m c fr (x.2.put b<|.loop { ls with st:=.exhausted }) d
      |_=>none
     |none=>none
    |_=>none
   |_,_=>none
  |_=>none
def Il(p:Pl):List Nat->List Deferred->Prop
 |[],l=>l=[]
 |b::c,l=>∃r n l',p[b]?=some (r,n)/\l={ target:=.collected r,args:= #[] }::l'/\Il p c l'
theorem Il.mono{p:Pl}(q:Pl):∀ {ds:List Nat} {l:List Deferred},Il p ds l->Il (p++q) ds l
 |[],_,h=>h
 |_b::_bs,_l,⟨r,n,l',e,d,c⟩=>⟨r,n,l',ah,d,c.mono q⟩
theorem Il.ext{p p':Pl}{h h':H}{w w':World}(e:Ext p h w p' h' w'){ds:List Nat}{l:List Deferred}(c:Il p ds l):Il p' ds l:=by
 obtain⟨q,rfl⟩:=e.pre;exact c.mono q
def Rm(p:Pl):Option Nat->Option Nat->Prop
 |none,none=>True
 |some b,some r=>∃n,p[b]?=some (r,n)
 |_,_=>False
theorem Rm.ext{p p':Pl}{h h':H}{w w':World}(e:Ext p h w p' h' w'){ro k:Option Nat}(c:Rm p ro k):Rm p' ro k:=by
 obtain⟨q,rfl⟩:=e.pre;cases ro with
 |none=>grind [Rm]
 |some b=>
  cases k with
  |none=>exact c
  |some r=>obtain⟨n,d⟩:=c;exact⟨n,ah⟩
theorem Ext.at{p p':Pl}{h h':H}{w w':World}(e:Ext p h w p' h' w'){b:Nat}{x:Nat×Nat}(c:p[b]?=some x):p'[b]?=some x:=by
 obtain⟨q,rfl⟩:=e.pre;grind
section
variable {C:Ctx}{P:Program}{call:DR}{ops:Array Oper}{p:Pl}{h:H}{w:World}{fr:Fr}{a:Act}
theorem Ke(hr:R p h w)(z:CO p fr a){ro k:Option Nat}(c:Rm p ro k){ps:Array Tmp}{asg body:Code}{ds f:List Nat}(g:Il p ds a.defers){b:Nat}{e:H}
  (d:Up ro fr h ps asg body ds=some (b,e,f)) (fn:FuncId):∃l mark u j n,(Instr.enterLoop fn a.tmps ps asg body k).run P w=.ok (l,mark) u/\Ext p h w j e u/\j[b]?=some (l,n)/\Il j f (mark++a.defers):=by
 unfold Up at d;cases ro with
 |none=>
  cases k with
  |some k=>exact c.elim
  |none=>
   obtain⟨rfl,rfl,rfl⟩:=d;have y:=Ext.push (n:=0) hr (o:=.defd true) (x:=.deferred<|some []) (by rfl);have i:(p++[(w.heap.size,0)])[h.nx]?=some (w.heap.size,0):=by rw[<-hr.len];simp
   have q:EZ (p++[(w.heap.size,0)]) fr a.tmps:=EZ.mono _ z;have t:=Ext.push (n:=0) y.rel (o:=.loop ⟨.ready,none,fr,ps,asg,body,h.nx⟩) (x:=.loop { state:=.ready,pending:=none,fn,tmps:=a.tmps,params:=ps,assign:=asg,body,defers:=w.heap.size })
    ⟨fn,a.tmps,_,_,q,i,rfl⟩
   refine⟨_,_,_,_,0,run_enterLoop_outer fn a.tmps ps asg body,y.trans t,?_,?_⟩
   ·have:h.nx+1=(p++[(w.heap.size,0)]).length:=by simp[hr.len]
    grind
   ·exact⟨w.heap.size,0,a.defers,ah,rfl,Il.mono _<|Il.mono _ g⟩
 |some A=>
  cases k with
  |none=>exact c.elim
  |some k=>
   simp only at d;split at d
   case h_2=>cases d
   rename_i l0 s;obtain⟨rfl,rfl,rfl⟩:=d;obtain⟨n0,hn0⟩:=c;obtain⟨r',n',x,e,h2,f0,tmps,r,m,h3,h4,rfl⟩:=hr.obj _ _ s;rw[hn0]at e;cases e;have t:=Ext.push (n:=0) hr (o:=.loop ⟨.ready,none,fr,ps,asg,body,l0.db⟩) (x:=.loop { state:=.ready,pending:=none,fn,tmps:=a.tmps,params:=ps,assign:=asg,body,defers:=r })
    ⟨fn,a.tmps,_,_,z,h4,rfl⟩
   refine⟨w.heap.size,[],_,_,0,?_,t,?_,?_⟩
   ·unfold Instr.enterLoop;simp only[zp,run_getLoop h2,run_newObj_alloc,zh,ye,World.alloc]
   ·rw[<-hr.len];simp
   ·exact Il.mono _ g
theorem Result.XH{α d:Type}{r:Result α}{f:α->World->Result d}{b:d}{w':World}(h:r.andThen f=.ok b w'):∃a c,r=.ok a c/\f a c=.ok b w':=by
 cases r with
 |ok a c=>exact⟨a,c,rfl,h⟩
 |halt x c=>simp_all
theorem MP(hC:C.Ok P)(E:call.Ok C P)(hm:P.follows .mixedOrders=true){ro k:Option Nat}{n:Nat}:∀(m:Nat) (ct:Bool) (c:Code) {fr:Fr} {h:H} {ds:List Nat} {L:List X},(ct=true->D0 c=true)->BP C call ro ct m c fr h ds=some L->
  ∀(p:Pl) (a:Act) (w:World) (Q:Exit->Act->World->Prop),R p h w->Gl C p->CO p fr a->Il p ds a.defers->Rm p ro k->
   (∀x∈L,∀p' Y w',CO p' x.fr Y->Ext p h w p' x.h w'->Il p' x.ds Y.defers->Q x.e.UX Y w')->
   c.wpIn (FW k) n P Q a w/\∀b,c=.loop b->Code.roundsIn (FW k) n P b Q m a w
 |0,ct,c,fr,h,ds,L,J,o=>by cases o
 |m+1,ct,c,fr,h,ds,L,J,o=>by
  intro p a w Q hr M K B D G;have ih:∀ {ct:Bool} (c:Code) {fr:Fr} {h:H} {ds:List Nat} {L:List X},(ct=true->D0 c=true)->BP C call ro ct m c fr h ds=some L->∀ {p:Pl} {a:Act} {w:World},R p h w->Gl C p->CO p fr a->Il p ds a.defers->Rm p ro k->
    ∀ {Q:Exit->Act->World->Prop},(∀x∈L,∀p' Y w',CO p' x.fr Y->Ext p h w p' x.h w'->Il p' x.ds Y.defers->Q x.e.UX Y w')->
   c.wpIn (FW k) n P Q a w/\∀b,c=.loop b->Code.roundsIn (FW k) n P b Q m a w:=fun {ct} c {fr h ds L} J o {p a w} hr M K B D {Q} G=>MP hC E hm m ct c J o p a w Q hr M K B D G
  cases c with
  |skip=>cases o;exact⟨wpIn_skip<|G _ (zi.2 rfl) p a w K (z6 hr) B,(by simp)⟩
  |label l=>cases o;exact⟨wpIn_label<|G _ (zi.2 rfl) p a w K (z6 hr) B,(by simp)⟩
  |region id ops dr=>
   refine⟨?_,(by simp)⟩;simp only[BP]at o;cases dr with
   |true=>
    simp only[we]at o;split at o
    case h_2=>cases o
    rename_i fr1 h1 hs;cases o;refine(show ∀ {Q':Exit->Act->World->Prop},(∀p' Y w',CO p' fr1 Y->Ext p h w p' h1 w'->Y.defers=a.defers->Q' .normal Y w')->(yg id ops true).wpIn (FW k) n P Q' a w from fun {Q'} Z=>?_) fun N a1 I A j q=>G _ (zi.2 rfl) N a1 I A j<|q▸B.ext j
    cases ct with
    |false=>grind [dG]
    |true=>exact Qm (by simpa [D0]using J rfl) hC E hm hr M K hs Z
   |false=>
    simp only[wg]at o;split at o
    case h_2=>cases o
    rename_i l hs;cases o;exact Zb hC E hr M K hs fun x hx N a1 I A j q=>G _ (yn.2 ⟨x,hx,rfl⟩) N a1 I A j<|q▸B.ext j
  |seq x y=>
   refine⟨wpIn_seq ?_,(by simp)⟩;simp only[BP]at o;split at o
   case h_2=>cases o
   rename_i l hs;refine(ih x (by grind [D0]) hs hr M K B D fun z hz N a1 I A j q=>?_).1;obtain⟨L1,U,g2⟩:=I0 o z hz;cases t:z.e with
   |normal=>
    simp only[t]at U;exact(ih y (by grind [D0]) U j.rel (M.ext j) A q (D.ext j) fun u hu p2 a2 w2 T he2 O=>G u (g2 u hu) p2 a2 w2 T (j.trans he2) O).1
   |exit i=>
    simp only[t,zf]at U;subst U;have:=G z ah N a1 I A j q;rw[t]at this;exact this
   |ret=>
    simp only[t,zf]at U;subst U;have:=G z ah N a1 I A j q;rw[t]at this;exact this
  |cond x b1 b2=>
   refine⟨?_,(by simp)⟩;simp only[BP]at o;split at o
   case h_1=>
    rename_i hx;have hv:=A9 M K hx;grind [Ad,wpIn_cond_true,D0]
   case h_2=>
    rename_i hx;have hv:=A9 M K hx;grind [Ad,wpIn_cond_false,D0]
   grind
  |block id b=>
   refine⟨wpIn_block ?_,(by simp)⟩;simp only[BP]at o;split at o
   case h_2=>cases o
   rename_i l hs;cases o;refine(ih b (fun e=>by have:=J e;simpa [D0]using this) hs hr M K B D fun z hz N a1 I A j q=>?_).1;have Z:=G _ (yn.2 ⟨z,hz,rfl⟩) N a1 I;cases t:z.e with
   |normal=>
    simp only[t]at Z;exact Z A j q
   |ret=>
    simp only[t]at Z;exact Z A j q
   |exit i=>
    simp only[t,BA]at Z;by_cases ei:i=id
    ·simp only[ei,decide_true,we]at Z;simp only[DX.UX,Exit.inBlock,ei,wk];exact Z A j q
    ·simp only[ei,decide_false,wg,t]at Z;simp only[DX.UX,Exit.inBlock,ei,vf];exact Z A j q
  |loop b=>
   have key:Code.roundsIn (FW k) n P b Q (m+1) a w:=by
    rw[roundsIn_succ];simp only[BP]at o;split at o
    case h_2=>cases o
    rename_i l hs;refine(ih b (fun e=>by have:=J e;simpa [D0]using this) hs hr M K B D fun z hz N a1 I A j q=>?_).1;obtain⟨L1,U,g2⟩:=I0 o z hz;cases t:z.e with
    |normal=>
     simp only[t]at U;exact(ih (.loop b) J U j.rel (M.ext j) A q (D.ext j) fun u hu p2 a2 w2 T he2 O=>G u (g2 u hu) p2 a2 w2 T (j.trans he2) O).2 b rfl
    |exit i=>
     simp only[t,zf]at U;subst U;have:=G z ah N a1 I A j q;rw[t]at this;exact this
    |ret=>
     simp only[t,zf]at U;subst U;have:=G z ah N a1 I A j q;rw[t]at this;exact this
   grind [wpIn_loop_rounds]
  |exit i=>cases o;exact⟨wpIn_exit<|G _ (zi.2 rfl) p a w K (z6 hr) B,(by simp)⟩
  |ret=>cases o;exact⟨wpIn_ret<|G _ (zi.2 rfl) p a w K (z6 hr) B,(by simp)⟩
  |scope b=>
   refine⟨Ku ?_,(by simp)⟩;simp only[BP]at o;refine(ih b (fun e=>by have:=J e;simpa [D0]using this) o hr M K B D fun z hz N a1 I A j q=>?_).1;have h1:=G z hz N a1 I A j q;cases t:z.e<;>rw[t]at h1<;>exact h1
  |rangeFunc g ps asg body=>
   refine⟨wpIn_rangeFunc fun fn _=>?_,(by simp)⟩;simp only[BP]at o;split at o
   case h_2=>cases o
   rename_i b h1 ds1 g' hen hgv;split at o
   case h_2=>cases o
   rename_i f args hdc;split at o
   case h_2=>cases o
   rename_i l hcl;obtain⟨r,mark,I,N,nb,q1,q2,q3,q4⟩:=Ke (P:=P) hr K D B hen fn;have hyld:Ax N [.yld b] (#[Value.func (.yield r) #[] #[]]).toList:=by
    simp only[Bu,Hx,ve];simp only[Ad];grind
   obtain⟨args',s1,s2⟩:=MZ hC q2.rel (M.ext q2) (q2.kH<|A9 M K hgv) hyld hdc;rw[zp]at s1;obtain⟨d,w1',s3,s4⟩:=Result.XH s1;refine⟨r,mark,I,d,w1',f,args',I,q1,?_,fun _ _=>trivial,s4,(by grind [FW,z7]),XN.2<|(E.fn f args h1 l hcl N I args' q2.rel (M.ext q2) s2).mono ?_⟩
   ·grind [resolve,Act.eval]
   ·rintro e w2 ⟨v,h2,v',p2,hmem,rfl,k1,k2⟩;obtain⟨L1,t1,t2⟩:=I0 o (v,h2) hmem;split at t1
    case h_2=>cases t1
    rename_i ls hls;obtain⟨r',n',x,u1,u2,f0,tmps,rd,md,u3,u4,rfl⟩:=k2.rel.obj _ _ hls;have hpb:=k2.at q3;rw[hpb]at u1;cases u1;have hbusy:ls.st≠ .busy:=by
     grind
    obtain⟨W,hW,hput⟩:∃W,(Instr.endLoop r).run P w2=.ok ls.pend W/\Ext p2 h2 w2 p2 (h2.put b<|.loop { ls with st:=.exhausted }) W:=
     ⟨_,run_endLoop u2 hbusy,Ext.put k2.rel hls hpb (o':=.loop { ls with st:=.exhausted }) (x':=.loop { state:=.exhausted,pending:=ls.pend,fn:=f0,tmps,params:=ls.ps,assign:=ls.asg,body:=ls.body,defers:=rd }) ⟨f0,tmps,rd,md,u3,u4,rfl⟩ rfl rfl rfl rfl⟩
    have hex:=q2.trans<|k2.trans hput;refine⟨ls.pend,W,hW,?_⟩;have T:CO p2 fr { a with defers:=mark++a.defers }:=CO.ext (a:={ a with defers:=mark++a.defers }) K<|q2.trans k2;have O:Il p2 ds1 (mark++a.defers):=Il.ext k2 q4;split at t1
    case h_1=>cases t1
    case h_2=>
     rename_i hpe _;cases t1;simp only[hpe];exact G _ (t2 _<|zi.2 rfl) p2 _ _ T hex O
    case h_3=>
     rename_i c hpe _;simp only[hpe];exact(ih c (by simp) t1 hput.rel (M.ext hex) T O (D.ext hex) fun u hu p3 a3 w3 hf3 he3 hd3=>G u (t2 u hu) p3 a3 w3 hf3 (hex.trans he3) hd3).1
  |goto l=>simp[BP]at o
  |refuse s=>simp[BP]at o
end
section
variable {C:Ctx}{P:Program}{p:Pl}{h:H}{w:World}{fr:Fr}{a:Act}
def aR(C:Ctx)(fr:Fr)(h:H):ResultVar->Option V
 | .tmp t=>some<|fr.get t
 | .cell a t=>FC C.T h t<|fr.get a
def Rv(C:Ctx)(fr:Fr)(h:H):List ResultVar->Option (List V)
 |[]=>some []
 |r::c=>match aR C fr h r,Rv C fr h c with
  |some v,some vs=>some (v::vs)
  |_,_=>none
def RJ(C:Ctx)(fr:Fr)(h:H)(c:List ResultVar):Option V:=
 match Rv C fr h c with
 |some [v]=>some v
 |some vs=>some<|.tup vs
 |none=>none
def Aaz(a:Act):ResultVar->Sem Value
 | .tmp t=>pure<|a.tmps.getD t undef
 | .cell x t=>do loadVar t (<-asAddr (a.tmps.getD x undef))
theorem Y6(fn:Func)(a:Act):results fn a.tmps=(do let vs<-fn.results.mapM (Aaz a);pure (if h:vs.size=1 then vs[0]else .tuple vs)):=by
 rfl
theorem pE(l:C.T.Ok P)(hr:R p h w)(f:CO p fr a){r:ResultVar}{v:V}(d:aR C fr h r=some v):
  ∃v',(Aaz a r).run P w=.ok v' w/\Ad p v v':=by
 cases r with
 |tmp t=>cases d;exact⟨_,rfl,f.2 t⟩
 |cell x t=>
  simp only[aR]at d;obtain⟨v',g,j⟩:=VY (P:=P) l hr (f.2 x) d;refine⟨v',?_,j⟩;have hp:∃b i,fr.get x=.ptr b i:=by
   unfold FC at d;grind
  obtain⟨b,i,e⟩:=hp;have c:=f.2 x;rw[e]at c;obtain⟨r,n,_,c⟩:=c;rw[c]at g;simp only[Aaz,c];exact g
theorem W8(g:C.T.Ok P)(hr:R p h w)(f:CO p fr a):∀ {e:List ResultVar} {vs:List V},Rv C fr h e=some vs->
  ∃c:List Value,(e.mapM<|Aaz a).run P w=.ok c w/\Ax p vs c
 |[],vs,d=>by cases d;simp
 |r::e,vs,d=>by
  unfold Rv at d;split at d
  case h_2=>cases d
  rename_i v j i l;cases d;obtain⟨v',q,o⟩:=pE (P:=P) g hr f i;obtain⟨c,g3,g4⟩:=W8 g hr f l;simp_all
theorem yJ(j:C.T.Ok P)(hr:R p h w)(i:CO p fr a){fn:Func}{v:V}(e:RJ C fr h fn.results.toList=some v):∃v',(results fn a.tmps).run P w=.ok v' w/\Ad p v v':=by
 unfold RJ at e;cases g:Rv C fr h fn.results.toList with
 |none=>grind
 |some vs=>
  obtain⟨c,q,f⟩:=W8 (P:=P) j hr i g;have o:=f.length;have d:(results fn a.tmps).run P w=.ok (if h:c.toArray.size=1 then c.toArray[0]else .tuple c.toArray) w:=by
   grind [Y6,zp,Array.mapM_eq_mapM_toList,Sem.run_map,zh,ye]
  refine⟨_,d,?_⟩;simp only[g]at e;cases vs with
  |nil=>
   grind [Ad]
  |cons x xs=>
   cases xs with
   |nil=>
    obtain⟨y,rfl,l⟩:=f.one;grind
   |cons r xs=>
    cases e;rw[dif_neg ah];simp_all [Ad]
def V0:List V->Nat->PM V->PM V
 |[],_,m=>m
 |v::vs,i,m=>V0 vs (i+1)<|m.set i<|some v
def Ol(n:Nat)(args:List V):Fr:=⟨args.length+(n-args.length),V0 args 0 .leaf⟩
theorem M8:∀(vs:List V) (i:Nat) (m:PM V) (t:Nat),(V0 vs i m).get t=if i<=t/\t<i+vs.length then vs[t-i]? else m.get t
 |[],i,m,t=>by simp[V0];omega
 |v::vs,i,m,t=>by
  unfold V0;rw[M8 vs (i+1) _ t];by_cases e:t=i
  ·subst e;rw[wc ae,wd<|by simp];simp
  ·by_cases c:i+1<=t/\t<i+1+vs.length
   ·grind
   ·rw[wc c,wc ah];simp[e]
theorem nB{args:List V}{args':Array Value}(g:Ax p args args'.toList)(n:Nat):CO p (Ol n args) { tmps:=args'++yf (n-args'.size) undef,defers:=[] }:=by
 have e:=g.length;simp at e;refine⟨by simp[Ol,e],fun t=>?_⟩;unfold Ol Fr.get;rw[M8];by_cases f:t<args.length
 ·rw[wd ae];obtain⟨u,l,j⟩:=g.get (i:=t) (d:=args[t]) (by simp[f]);have c:args'[t]?=some u:=ah
  simp only[Nat.sub_zero,List.getElem?_eq_getElem f,Option.getD_some];rw[zk,Array.getElem?_append_left ae,c];exact j
 ·have:(args'++yf (n-args'.size) undef).getD t undef=undef:=by
   rw[zk,Array.getElem?_append_right ae];grind
  simp_all [Ad,undef]
def Hs:List Nat->H->Option H
 |[],h=>some h
 |b::c,h=>match h.get b with
  |some (.defd true)=>Hs c<|h.put b<|.defd false
  |_=>none
theorem SV{fn:Func}{tmps:Array Value}{n:Nat}:∀ {ds:List Nat} {l:List Deferred} {p:Pl} {h:H} {w:World} {g:H},Il p ds l->R p h w->Hs ds h=some g->
  ∃e,Ext p h w p g e/\∀f:Ending->World->Prop,(∃v,(results fn tmps).run P e=.ok v e/\f (.returned v) e)->LeavesInM z7 n P fn tmps f l .returning w
 |[],l,p,h,w,g,j,hr,d=>by
  cases d;cases (show l=[]from j);exact⟨w,z6 hr,fun f hR=>hR⟩
 |b::q,l,p,h,w,g,j,hr,d=>by
  unfold Hs at d;split at d
  case h_2=>cases d
  rename_i o;obtain⟨r,m,l',hp,rfl,i⟩:=j;obtain⟨r',m',x,k1,k2,k3⟩:=hr.obj _ _ o;rw[hp]at k1;cases k1;subst k3;have c:=Ext.put hr o hp (o':=.defd false) (x':=.deferred none) (by rfl) (w':=w.putObj r<|.deferred none) rfl rfl rfl rfl;obtain⟨e,g1,g2⟩:=SV (fn:=fn) (tmps:=tmps) (n:=n) i c.rel d;exact⟨e,c.trans g1,fun f hR=>⟨by simp,.inl ⟨r,_,rfl,run_takeDeferred k2,g2 f hR⟩⟩⟩
def T5(C:Ctx)(m:Nat)(call:DR)(b:Nat)(ls:LS)(fr:Fr)(h:H):Option (List<|V×H):=
 match BP C call (some b) false m ls.asg fr h []with
 |some l=>bl l fun x=>match x.e,x.h.get b with
  | .normal,some (.loop l1)=>match l1.st with
   | .ready=>match BP C call (some b) false m ls.body x.fr (x.h.put b<|.loop { l1 with st:=.busy }) x.ds with
    |some d=>bl d fun y=>match y.h.get b with
     |some (.loop c)=>match y.e with
      | .normal=>some [(.bool true,y.h.put b<|.loop { c with st:=.ready,pend:=none })]
      | .ret=>some [(.bool false,y.h.put b<|.loop { c with st:=.done,pend:=some .ret })]
      | .exit i=>some [(.bool false,y.h.put b<|.loop { c with st:=.done,pend:=some (.exit i) })]
     |_=>none
    |none=>none
   |_=>none
  |_,_=>none
 |none=>none
mutual
def MC:V->List Nat
 | .ptr b _| .sl b _ _ _ _| .map b| .yld b=>[b]
 | .fn _ a b=>JK a++JK b
 | .iface _ v=>MC v
 | .agg l| .tup l=>JK l
 |_=>[]
def JK:List V->List Nat
 |[]=>[]
 |v::vs=>MC v++JK vs
end
def Aao:O->List Nat
 | .cells cs _ _=>JK cs
 | .map es _=>es.flatMap fun e=>MC e.1++MC e.2.1
 |_=>[]
def reach(h:H)(n0:Nat):Nat->List Nat->List Nat->List Nat
 |0,_,acc=>acc
 |_+1,[],acc=>acc
 |f+1,b::c,acc=>bif zn b n0||acc.any (ze b)then reach h n0 f c acc
  else match h.get b with
   |some o=>reach h n0 f (Aao o++c) (b::acc)
   |none=>reach h n0 f c acc
def OM(Q3:List Nat):Nat->Nat->H->H
 |0,_,h=>h
 |f+1,b,h=>OM Q3 f (b+1)<|bif Q3.any (ze b)then h else h.kill b
def AbU:O->Bool
 | .loop l=>match l.st with| .exhausted=>true|_=>false
 |_=>false
def Vy:Option O->Option O
 |some o=>bif AbU o then none else some o
 |none=>none
def S7:PM O->PM O
 | .leaf=>.leaf
 | .node l v r=>.node (S7 l) (Vy v)<|S7 r
theorem Mh:∀(q:HL) (m:PM O),q.get (S7 m)=Vy (q.get m)
 |HL.here,PM.leaf=>rfl
 |HL.l _,PM.leaf=>rfl
 |HL.r _,PM.leaf=>rfl
 |HL.here,PM.node _ _ _=>rfl
 |HL.l q,PM.node l _ _=>Mh q l
 |HL.r q,PM.node _ _ r=>Mh q r
def H.sP(h:H):H:=⟨S7 h.m,h.nx⟩
theorem Xl{p:Pl}{h:H}{w:World}(hr:R p h w):Ext p h w p h.sP w:=by
 have sub:∀b o,h.sP.get b=some o->h.get b=some o:=by
  intro b o c;have:h.sP.get b=Vy (h.get b):=Mh _ _;rw[this]at c;cases g:h.get b with
  |none=>rw[g]at c;cases c
  |some x=>
   grind [Vy]
 refine⟨(by simp),⟨hr.len,fun b o c=>hr.obj b o<|sub b o c,fun b b' o o' r n n' c j=>hr.inj b b' o o' r n n' (sub b o c) ah⟩,Nat.le_refl _,(by simp),fun r q=>?_,rfl,rfl,rfl,fun r d i=>⟨rfl,?_⟩⟩
 ·grind [Im]
 ·obtain⟨b,n,cs,t,fz,e,l,f⟩:=i;refine .inl ⟨b,n,cs,t,fz,?_,l,f⟩;rw[show h.sP.get b=Vy (h.get b)from Mh _ _,e];rfl
def gcO(n0:Nat)(x:V×H):V×H:=(x.1,OM (reach x.2 n0 1000 (MC x.1) []) (x.2.nx-n0) n0 x.2.sP)
def fZ:List (V×V×Nat)->List (V×V×Nat)->Bool
 |[],[]=>true
 |(a,b,c)::l,(e,b',d)::l'=>V.beq a e&&V.beq b b'&&ze c d&&fZ l l'
 |_,_=>false
def QU:List Nat->List Nat->Bool
 |[],[]=>true
 |a::l,b::l'=>ze a b&&QU l l'
 |_,_=>false
def AcK:O->O->Bool
 | .cells cs t fz,.cells cs' g fz'=>V.LK cs cs'&&ze t g&&ze fz.1 fz'.1&&ze fz.2 fz'.2
 | .map es c,.map d j=>fZ es d&&ze c j
 | .siter s n,.siter i n'=>s==i&&ze n n'
 | .miter none a l b,.miter none e l' b'=>ze a e&&QU l l'&&ze b b'
 | .miter (some m) a l b,.miter (some f) e l' b'=>ze m f&&ze a e&&QU l l'&&ze b b'
 | .defd a,.defd b=>a==b
 |_,_=>false
def Sc:Option O->Option O->Bool
 |none,none=>true
 |some a,some b=>AcK a b
 |_,_=>false
def Qb:PM O->PM O->Bool
 | .leaf,.leaf=>true
 | .node l v r,.node l' v' c=>Sc v v'&&Qb l l'&&Qb r c
 |_,_=>false
def bE(x y:V×H):Bool:=V.beq x.1 y.1&&ze x.2.nx y.2.nx&&Qb x.2.m y.2.m
def dedup:List (V×H)->List (V×H)
 |[]=>[]
 |x::l=>let r:=dedup l;bif r.any (bE x)then r else x::r
def Qp(n0:Nat):List (V×H)->List (V×H)
 |[]=>[]
 |[x]=>[x]
 |l=>dedup<|l.map<|gcO n0
theorem bN:∀ {a b:List (V×V×Nat)},fZ a b=true->a=b
 |[],[],_=>rfl
 |[],_::_,h=>by simp[fZ]at h
 |_::_,[],h=>by simp[fZ]at h
 |(a,b,c)::l,(e,b',d)::l',h=>by
  simp only[fZ,zd]at h;rw[V.beq_eq h.1.1.1,V.beq_eq h.1.1.2,zg h.1.2,bN h.2]
theorem Qk:∀ {a b:List Nat},QU a b=true->a=b
 |[],[],_=>rfl
 |[],_::_,h=>by simp[QU]at h
 |_::_,[],h=>by simp[QU]at h
 |a::l,b::l',h=>by
  simp only[QU,zd]at h;rw[zg h.1,Qk h.2]
theorem Zo{a b:O}(h:AcK a b=true):a=b:=by
 unfold AcK at h;split at h
 ·grind [V.IB,zg]
 ·grind [bN,zg]
 ·simp_all
 ·grind [zg,Qk]
 ·grind [zg,Qk]
 ·grind
 grind
theorem Q8:∀ {a b:PM O},Qb a b=true->a=b
 | .leaf,.leaf,_=>rfl
 | .leaf,.node _ _ _,h=>by simp[Qb]at h
 | .node _ _ _,.leaf,h=>by simp[Qb]at h
 | .node l v r,.node l' v' c,h=>by
  simp only[Qb,zd]at h;rw[Q8 h.1.2,Q8 h.2];congr 1;cases v<;>cases v'<;>first|rfl|exact wi some (Zo h.1.1)|(simp[Sc]at h)
theorem nX{x y:V×H}(h:bE x y=true):x=y:=by
 simp only[bE,zd]at h;obtain⟨v,m,n⟩:=x;obtain⟨v',m',n'⟩:=y;grind [V.beq_eq,zg,Q8]
theorem M7:∀ {l:List (V×H)} {x:V×H},x∈l->x∈dedup l
 |a::l,x,h=>by
  unfold dedup;simp only;cases c:(dedup l).any (bE a)with
  |true=>
   rcases yi.1 h with rfl|h
   ·grind [nX]
   ·exact M7 h
  |false=>
   rcases yi.1 h with rfl|h
   ·simp
   ·exact List.mem_cons_of_mem _<|M7 h
theorem Ji(Q3:List Nat):∀(f b:Nat) {p:Pl} {h:H} {w:World},R p h w->Ext p h w p (OM Q3 f b h) w
 |0,_,_,_,_,hr=>z6 hr
 |f+1,b,p,h,w,hr=>by
  unfold OM;cases Q3.any (ze b)with
  |true=>exact Ji Q3 f (b+1) hr
  |false=>exact(Ext.kill hr b).trans<|Ji Q3 f (b+1)<|hr.kill b
theorem Hn.merge{l:List (V×H)}{n0:Nat}{e:Ending}{w':World}(i:Hn p h w l e w'):Hn p h w (Qp n0 l) e w':=by
 obtain⟨v,h',v',p',d,f,g,c⟩:=i;unfold Qp;split
 ·cases d
 ·exact⟨v,h',v',p',d,f,g,c⟩
 ·exact⟨v,(gcO n0 (v,h')).2,v',p',M7<|yn.2 ⟨_,d,rfl⟩,f,g,c.trans<|(Xl c.rel).trans<|Ji _ _ _ (Xl c.rel).rel⟩
def Bi(C:Ctx):Nat->DR
 |0=>fun _ _=>none
 |n+1=>fun c h=>
  match c with
  | .rnd b ls fr=>T5 C n (Bi C n) b ls fr h
  | .fn f args=>
   match C.spec f with
   |some q=>match q args h with
    |some x=>some [x]
    |none=>none
   |none=>
    match C.fn f with
    |none=>none
    |some i=>
     match BP C (Bi C n) none i.cert n i.body (Ol i.ntmps args) h []with
     |none=>none
     |some l=>match (bl l fun x=>match x.e with
      | .exit _=>none
      |_=>match Hs x.ds x.h with
       |some d=>match RJ C x.fr d i.results.toList with
        |some v=>some [(v,d)]
        |none=>none
       |none=>none)with
      |some r=>some<|bif C.mg then Qp h.nx r else r
      |none=>none
theorem Oa(hr:R p h w){b r n:Nat}{ls:LS}(d:h.get b=some (.loop ls))(hp:p[b]?=some (r,n)):
  ∃rec:Loop,w.heap[r]?=some (.loop rec)/\rec.state=ls.st/\rec.pending=ls.pend/\∀(st:LoopState) (c:Option Code),Ext p h w p (h.put b<|.loop { ls with st:=st,pend:=c }) (w.putObj r<|.loop { rec with state:=st,pending:=c }):=by
 obtain⟨i,n',x,u1,u2,f0,tmps,rd,f,e,g,rfl⟩:=hr.obj _ _ d;rw[hp]at u1;cases u1;exact⟨_,u2,rfl,rfl,fun st c=>Ext.put hr d hp (o':=.loop { ls with st:=st,pend:=c }) ⟨f0,tmps,rd,f,e,g,rfl⟩ rfl rfl rfl rfl⟩
theorem NN(M:C.Ok P){call:DR}(d:call.Ok C P)(K:P.follows .mixedOrders=true){b:Nat}{ls:LS}{l:List (V×H)}{k m r:Nat}(q:T5 C r call b ls fr h=some l){f:FuncId}{tmps:Array Value}
  (hr:R p h w) (I:Gl C p) (hp:p[b]?=some (k,m)) (X:EZ p fr tmps):RoundIn z7 0 P k f tmps ls.asg ls.body w (Hn p h w l):=by
 unfold T5 at q;split at q
 case h_2=>cases q
 rename_i L Z;refine roundIn_of_wpIn trivial ?_;refine(MP (k:=some k) (n:=0) M d K r false ls.asg (by simp) Z p { tmps:=tmps,defers:=[] } w _ hr I X rfl ⟨m,hp⟩ fun x U G a1 J B g z=>?_).1;obtain⟨L1,j,g2⟩:=I0 q x U;split at j
 case h_2=>cases j
 rename_i l1 t s;split at j
 case h_2=>cases j
 rename_i u;split at j
 case h_2=>cases j
 rename_i L2 A;rw[t];obtain⟨rec,q1,T,q3,q4⟩:=Oa g.rel s<|g.at hp;refine⟨_,run_beginRound q1<|T.trans u,?_⟩;have o:Ext G x.h J G (x.h.put b<|.loop { l1 with st:=.busy }) (J.putObj k<|.loop { rec with state:=.busy }):=by
  grind
 have ex:=g.trans o;refine(MP (k:=some k) (n:=0) M d K r false ls.body (by simp) A G a1 _ _ o.rel (I.ext ex) B z ⟨m,g.at hp⟩ fun y hy E a2 w2 W c Y=>?_).1;obtain⟨L3,t1,t2⟩:=I0 j y hy;split at t1
 case h_2=>cases t1
 rename_i l3 D;obtain⟨N,s1,s2,s3,s4⟩:=Oa c.rel D<|c.at (g.at hp);cases O:y.e with
 |normal=>
  exact⟨_,_,run_endRound none s1,.bool true,_,.bool true,E,ah,rfl,by rfl,ex.trans<|c.trans<|s4 .ready none⟩
 |ret=>
  exact⟨_,_,run_endRound (some .ret) s1,.bool false,_,.bool false,E,ah,rfl,by rfl,ex.trans<|c.trans<|s4 .done<|some .ret⟩
 |exit i=>
  exact⟨_,_,(by grind [run_endRound]),.bool false,_,.bool false,E,ah,rfl,by rfl,ex.trans<|c.trans<|s4 .done<|some<|.exit i⟩
def G5(C:Ctx):Prop:=∀f i,C.fn f=some i->i.cert=true->D0 i.body=true
theorem JP(t:C.Ok P)(s:G5 C)(z:P.follows .mixedOrders=true):∀n,(Bi C n).Ok C P
 |0=>⟨fun f args h l c=>(by cases c),fun b ls fr h l c=>(by cases c)⟩
 |n+1=>by
  refine⟨fun f args h l c p w args' hr y J=>?_,fun b ls fr h l c p w k m f tmps hr y hb hp U=>NN t (JP t s z n) z c hr y hp U⟩;unfold Bi at c;simp only at c;split at c
  case h_1=>
   rename_i q N;split at c
   case h_2=>cases c
   rename_i x B;cases c;refine(t.spec f q N p h w args args' x.1 x.2 hr y J B).mono ?_;rintro e w' ⟨v',p',rfl,g,I⟩;exact⟨x.1,x.2,v',p',(by simp),rfl,g,I⟩
  case h_2=>
   split at c
   case h_1=>cases c
   rename_i i G;split at c
   case h_1=>cases c
   rename_i L hL;split at c
   case h_2=>cases c
   rename_i lr A;cases c;refine Calls.mono ?_ (fun e w' K=>(show Hn p h w (bif C.mg then Qp h.nx lr else lr) e w' from by cases C.mg with|true=>exact Hn.merge K|false=>exact K));have c:=A;generalize lr=l at c;obtain⟨fn,r,h2,X,Y,W⟩:=t.fn f i G;have Z:=s f i G;refine callsIn_wide.1<|callsIn_of_wp_marks (F:=z7) (n:=0) r X trivial ?_;rw[Y];refine(MP (k:=none) (n:=0) t (JP t s z n) z n i.cert i.body Z hL p _ w _ hr y (nB J i.ntmps) rfl trivial fun x B p1 a1 O E u D=>?_).1;obtain⟨L1,g,I⟩:=I0 c x B;have fin:∀ {r:H} {v:V},Hs x.ds x.h=some r->RJ C x.fr r i.results.toList=some v->L1=[(v,r)]->LeavesInM z7 0 P fn a1.tmps (Hn p h w l) a1.defers .returning O:=by
    intro r v o d hL1;obtain⟨w2,q1,M⟩:=SV (P:=P) (fn:=fn) (tmps:=a1.tmps) (n:=0) D u.rel o;obtain⟨v',s1,s2⟩:=yJ (P:=P) (fn:=fn) t.T q1.rel (E.ext q1) (by rw[W];exact d);exact M _ ⟨v',s1,v,r,v',p1,ah,rfl,s2,u.trans q1⟩
   split at g
   case h_1=>cases g
   case h_2=>
    split at g
    case h_2=>cases g
    rename_i h2 o;split at g
    case h_2=>cases g
    rename_i v d;cases g;cases R:x.e with
    |normal=>exact fin o d rfl
    |ret=>exact fin o d rfl
    |exit j=>grind
end
def qC(P:Program)(t:TypeId):Option TI:=
 match P.info? t with
 |some i=>match i.zero with
  |some z=>match cv z with
   |some v=>some ⟨i.size,i.bytes,v⟩
   |none=>none
  |none=>none
 |none=>none
theorem jB{P:Program}{t:TypeId}{i:TI}(h:qC P t=some i):∃j v,P.info? t=some j/\j.size=i.size/\j.bytes=i.bytes/\j.zero=some v/\∀p,Ad p i.zv v:=by
 unfold qC at h;split at h
 case h_2=>cases h
 rename_i j e;split at h
 case h_2=>cases h
 rename_i z d;split at h
 case h_2=>cases h
 rename_i v c;cases h;exact⟨j,z,e,rfl,rfl,d,fun p=>Yr p c⟩
def AaN(P:Program)(t:TypeId):Option FK:=
 match P.underlying t with
 |some (.int k)=>some<|.int k
 |some .string=>some .str
 |some .bool=>some .bool
 |_=>none
def RE(P:Program):List Field->Nat->Option (List FK)
 |[],_=>some []
 | f :: fs, i => if f.name = "_" \/ f.offset ≠ i then none else match AaN P f.type, RE P fs (i + 1) with
  |some k,some ks=>some (k::ks)
  |_,_=>none
def XY(P:Program)(t:TypeId):Option (List FK):=
 match P.underlying t with
 |some (.struct fs)=>if P.stoodInHeld t=true\/P.eqGuardType P.depth t=true then none else RE P fs.toList 0
 |_=>none
def sB:TypeDesc->Bool
 | .pointer _=>false
 |_=>true
def pF(P:Program)(t:TypeId)(name:String):Option FuncId:=
 match P.info? t,P.underlying t with
 |some j,some d=>match j.methods.find? (·.name==name)with
  |some m=>match m.path,m.func with
   |⟨[]⟩,some (f,false)=>bif sB d then some f else none
   |_,_=>none
  |none=>none
 |_,_=>none
theorem qJ{P:Program}{t:TypeId}{name:String}{f:FuncId}(h:pF P t name=some f):∃j m d,P.info? t=some j/\j.methods.find? (·.name==name)=some m/\m.path= #[]/\m.func=some (f,false)/\P.underlying t=some d/\∀e,d≠ .pointer e:=by
 unfold pF at h;split at h
 case h_2=>cases h
 rename_i j d c q;split at h
 case h_2=>cases h
 rename_i m g;split at h
 case h_2=>cases h
 rename_i r l o;cases hp:sB d with
 |false=>rw[hp]at h;cases h
 |true=>
  rw[hp]at h;simp only[we,zf]at h;subst h;exact⟨j,m,d,c,g,l,o,q,fun e i=>by subst i;cases hp⟩
def Abc(P:Program):Cg:=⟨P.underlying,qC P,XY P,pF P⟩
section
variable {P:Program}{p:Pl}
theorem PT{t:TypeId}{k:FK}(h:AaN P t=some k):∃d,P.underlying t=some d/\EV d=false/\(∀f,d≠ .interface f)/\match k with
  | .int k=>d=.int k
  | .str=>d=.string
  | .bool=>d=.bool:=by
 unfold AaN at h;split at h
 case h_1=>rename_i c;cases h;exact⟨_,c,rfl,fun _ e=>(by cases e),rfl⟩
 case h_2=>rename_i c;cases h;exact⟨_,c,rfl,fun _ e=>(by cases e),rfl⟩
 case h_3=>rename_i c;cases h;exact⟨_,c,rfl,fun _ e=>(by cases e),rfl⟩
 case h_4=>cases h
theorem QT{t:TypeId}{d:TypeDesc}(e:P.underlying t=some d)(g:EV d=false){cs:Array Value}{i:Nat}{v:Value}(f:cs[i]?=some v)(w:World):(part t cs i).run P w=.ok v w:=by
 unfold part isAgg;have c:(underlying t).run P w=.ok d w:=by unfold underlying;simp[e]
 simp only[zp,c,zh];cases d<;>first|(cases g;done)|simp[f]
theorem aQ{t:TypeId}{k:FK}(h:AaN P t=some k){a b:V}{o b':Value}(f:k.ok a=true)(g:k.ok b=true)(c:Ad p a o)(e:Ad p b b'){r:Bool}(j:EU a b=some r)(d:Nat)(w:World):
  (Op.equalIn (d+1) t o b').run P w=.ok r w:=by
 obtain⟨D,l,_,_,i⟩:=PT h;cases k with
 |int k=>
  simp only at i;subst i;cases a<;>simp only[FK.ok]at f<;>try (cases f;done)
  cases b<;>simp only[FK.ok]at g<;>try (cases g;done)
  simp only[Ad]at c e;subst c e;simp at f g;subst f g;simp[EU]at j;rw[run_equalIn_int w d t _ _ _ _ l,j]
 |str=>
  simp only at i;subst i;cases a<;>simp only[FK.ok]at f<;>try (cases f;done)
  cases b<;>simp only[FK.ok]at g<;>try (cases g;done)
  simp only[Ad]at c e;subst c e;simp only[EU,zf]at j;rw[run_equalIn_string w d t _ _ l,GI,GI,j]
 |bool=>
  simp only at i;subst i;cases a<;>simp only[FK.ok]at f<;>try (cases f;done)
  cases b<;>simp only[FK.ok]at g<;>try (cases g;done)
  simp only[Ad]at c e;subst c e;simp only[EU,zf]at j;rw[run_equalIn_bool' w d t _ _ l,j]
theorem Ub:∀ {ks:List FK} {x:List V},fit ks x=true->ks.length=x.length
 |[],[],_=>rfl
 |[],_::_,h=>by simp[fit]at h
 |_::_,[],h=>by simp[fit]at h
 |k::ks,v::vs,h=>by
  unfold fit at h;cases c:k.ok v with
  |false=>simp[c]at h
  |true=>simp only[c,we]at h;simp[Ub h]
theorem LZ(d:Nat){w:World}{x' y':Array Value}:∀ {fs:List Field} {i:Nat} {ks:List FK},RE P fs i=some ks->∀ {x y:List V} {u v:List Value},fit ks x=true->fit ks y=true->Ax p x u->Ax p y v->
  (∀j a,u[j]?=some a->x'[i+j]?=some a)->(∀j a,v[j]?=some a->y'[i+j]?=some a)->∀ {r:Bool},B8 x y=some r->(Op.eqFields (d+1) x' y' fs).run P w=.ok r w
 |[],i,ks,g,x,y,u,v,o,t,_,_,_,_,r,l=>by
  cases g;cases x with
  |cons _ _=>simp[fit]at o
  |nil=>cases y with
   |cons _ _=>simp[fit]at t
   |nil=>simp[B8]at l;subst l;simp[Op.eqFields]
 |f::fs,i,ks,g,x,y,u,v,o,t,W,T,O,R,r,l=>by
  unfold RE at g;split at g
  case isTrue=>cases g
  rename_i z;have G : f.name ≠ "_" := fun e => z (.inl e)
  have B:f.offset=i:=zw fun e=>z (.inr e)
  split at g
  case h_2=>cases g
  rename_i k E I Z;cases g;cases x with
  |nil=>simp[fit]at o
  |cons a x=>cases y with
   |nil=>simp[fit]at t
   |cons b y=>
    simp only[Ax]at W T;obtain⟨Y,u',rfl,A,N⟩:=W;obtain⟨b',v',rfl,hv1,hv2⟩:=T;have K:k.ok a=true:=by unfold fit at o;cases g:k.ok a with|false=>simp[g]at o|true=>rfl
    have L:k.ok b=true:=by unfold fit at t;cases g:k.ok b with|false=>simp[g]at t|true=>rfl
    have fx:fit E x=true:=by unfold fit at o;rw[K]at o;exact o
    have X:fit E y=true:=by unfold fit at t;rw[L]at t;exact t
    obtain⟨D,q,s,_,_⟩:=PT I;have U:=QT q s (O 0 Y rfl) w;have pb:=QT q s (R 0 b' rfl) w;simp only[yo]at U pb;simp only[Op.eqFields,G,wm,not_false_eq_true,wk,zp,B,U,pb,zh];unfold B8 at l;split at l
    case h_1=>
     rename_i M;rw[aQ I K L A hv1 M];simp only[zh,Bool.not_true,zo,vf];exact LZ d Z fx X N hv2 (fun j c J=>by have:=O (j+1) c (by simpa using J);rwa [show i+1+j=i+(j+1)from by omega]) (fun j c J=>by have:=R (j+1) c (by simpa using J);rwa [show i+1+j=i+(j+1)from by omega]) l
    case h_2=>
     rename_i M;rw[aQ I K L A hv1 M];split at l
     ·cases l;simp
     ·cases l
    case h_3=>cases l
theorem KU{b:Bool}{w:World}{x':Array Value}:∀ {fs:List Field} {i:Nat} {ks:List FK},RE P fs i=some ks->∀ {x:List V} {u:List Value},fit ks x=true->Ax p x u->
  (∀j a,u[j]?=some a->x'[i+j]?=some a)->
  (forIn (m := Sem) fs PUnit.unit fun f _ => if f.name ≠ "_" then do
    ya b 9999 f.type (<-part f.type x' f.offset)
    pure (ForInStep.yield yk)
   else do
    pure yk
    pure (ForInStep.yield yk)).run P w=.ok yk w
 |[],i,ks,d,x,u,o,_,_=>by simp
 |f::fs,i,ks,d,x,u,o,K,E=>by
  unfold RE at d;split at d
  case isTrue=>cases d
  rename_i r;have t : f.name ≠ "_" := fun e => r (.inl e)
  have s:f.offset=i:=zw fun e=>r (.inr e)
  split at d
  case h_2=>cases d
  rename_i k y L R;cases d;cases x with
  |nil=>simp[fit]at o
  |cons a x=>
   simp only[Ax]at K;obtain⟨G,U,rfl,O,A⟩:=K;have N:k.ok a=true:=by unfold fit at o;cases d:k.ok a with|false=>simp[d]at o|true=>rfl
   have T:fit y x=true:=by unfold fit at o;rw[N]at o;exact o
   obtain⟨D,g,l,B,_⟩:=PT L;have J:=QT g l (E 0 G rfl) w;simp only[yo]at J;have z:(ya b 9999 f.type G).run P w=.ok () w:=by
    unfold ya;have q:(underlying f.type).run P w=.ok D w:=by unfold underlying;simp[g]
    simp only[zp,q,zh];cases D<;>first|rfl|(cases l;done)|exact wh rfl (B _)
   have I:=KU (b:=b) (w:=w) (x':=x') R T A (fun j c M=>by have:=E (j+1) c (by simpa using M);rwa [show i+1+j=i+(j+1)from by omega]);simp only[List.forIn_cons,t,wm,not_false_eq_true,wk,zp,s,J,z,zh,ye]at I ⊢;exact I
theorem Acf(P:Program):(Abc P).Ok P:=by
 have key:∀t ks,XY P t=some ks->∃fs,P.underlying t=some (.struct fs)/\P.stoodInHeld t=false/\P.eqGuardType P.depth t=false/\RE P fs.toList 0=some ks:=by
  intro t ks h;unfold XY at h;split at h
  case h_2=>cases h
  rename_i fs c;split at h
  case isTrue=>cases h
  rename_i g;refine⟨fs,c,?_,?_,h⟩
  ·cases A:P.stoodInHeld t with
   |false=>rfl
   |true=>exact wh (.inl A) g
  ·cases A:P.eqGuardType P.depth t with
   |false=>rfl
   |true=>exact wh (.inr A) g
 refine⟨fun t d h=>h,fun t i h=>jB h,?_,?_,?_,?_,fun t name f h=>qJ h⟩
 ·intro t ks h p x y x' y' r w u D z G E;obtain⟨fs,c,s,B,q⟩:=key t ks h;have o:P.fieldsOf t=fs:=by unfold Program.fieldsOf;rw[c]
  unfold Op.equal Op.maxDepth;rw[run_equalIn_struct w 9999 t x' y' (by rw[o];exact c) s,o];exact LZ 9998 q u D z G (fun j a l=>by simpa using l) (fun j a l=>by simpa using l) E
 ·intro t ks h;obtain⟨fs,c,s,B,q⟩:=key t ks h;exact B
 ·intro t ks h p x x' b w u z;obtain⟨fs,c,s,B,q⟩:=key t ks h;unfold ya;have e:(underlying t).run P w=.ok (.struct fs) w:=by unfold underlying;simp[c]
  simp only[zp,e,zh];rw[<-Array.forIn_toList];have:=KU (b:=b) (w:=w) (x':=x') q u z (fun j a l=>by simpa using l);simp only[this,zh,ye]
 ·intro t ks h;obtain⟨fs,c,_⟩:=key t ks h;exact⟨fs,c⟩
end
def RK(P:Program)(ct:FuncId->Bool)(f:FuncId):Option Fn:=
 match P.funcs[f]? with
 |some fn=>match fn.body with
  | some b => if fn.name = "runtime.NumGoroutine" then none else some ⟨fn.ntmps, fn.results, b, ct f⟩
  |none=>none
 |none=>none
theorem xF {P : Program} {ct : FuncId -> Bool} {f : FuncId} {i : Fn} (h : RK P ct f = some i) : ∃ fn, P.funcs[f]? = some fn /\ fn.name ≠ "runtime.NumGoroutine" /\ fn.body = some i.body /\ fn.ntmps = i.ntmps /\ fn.results = i.results := by
 unfold RK at h;split at h
 case h_2=>cases h
 rename_i fn c;split at h
 case h_2=>cases h
 rename_i b d;split at h
 case isTrue=>cases h
 rename_i e;cases h;exact⟨fn,c,e,d,rfl,rfl⟩
inductive PK where
 |indexByte
 |add64
 |sub64
 |count
 |noEsc
def QJ:Array Value->Sem Value:=fun args=>do
 let (x, y, b) <- Extern.MathBitsCarry.three "Sub64" args
 pure (zx ((x+zm-y-b) % zm) (if x<y+b then 1 else 0))
def PK.entry:PK->Array Value->Sem Value
 | .indexByte=>Extern.BytealgIndexByte.indexByte
 | .add64=>add64Entry
 | .sub64=>QJ
 | .count=>Extern.BytealgCount.count
 | .noEsc=>Extern.AbiNoEscape.same
def VX:Option Nat->V
 |some i=>i64 i
 |none=>.int .i64<| -1
def iH:Nat:=18446744073709551616
def PK.run:PK->List V->H->Option (V×H)
 | .indexByte,[.str s,.int .u8 c],h=>some (VX<|s.findIdx? fun x=>x==c.toNat.toUInt8,h)
 | .add64,[.int .u64<|.ofNat x,.int .u64<|.ofNat y,.int .u64<|.ofNat c],h=>
  bif Nat.ble c 1 then some (.tup [.int .u64<|.ofNat<|(x+y+c) % iH,.int .u64<|.ofNat<|(x+y+c)/iH],h)else none
 | .sub64,[.int .u64<|.ofNat x,.int .u64<|.ofNat y,.int .u64<|.ofNat c],h=>
  bif Nat.ble c 1 then some (.tup [.int .u64<|.ofNat<|(x+iH-y-c) % iH,.int .u64<|.ofNat<|bif zn x (y+c)then 1 else 0],h)else none
 | .count,[.str s,.int .u8 c],h=>some (.int .i64 (s.foldl (fun n x=>bif x==c.toNat.toUInt8 then Nat.add n 1 else n) 0:Nat),h)
 | .noEsc,[.ptr b o],h=>some (.ptr b o,h)
 |_,_,_=>none
theorem RX(s:Z)(c:UInt8):((zt (bytesOf s).size).find? fun i=>(bytesOf s)[i]! ==c)=s.findIdx? fun x=>x==c:=by
 have key:∀(l pre:Z),pre++l=s->((List.range' pre.length l.length).find? fun i=>(bytesOf s)[i]! ==c)=(l.findIdx? fun x=>x==c).map (· +pre.length):=by
  intro l;induction l with
  |nil=>intro pre _;simp
  |cons a l f=>
   intro pre hp;have d:(bytesOf s)[pre.length]! =a:=by
    subst hp;rw[getElem!_pos _ _<|by simp[BV]];simp[bytesOf,ByteArray.getElem_eq_getElem_data]
   rw[List.length_cons,List.range'_succ,List.find?_cons,d,List.findIdx?_cons];cases e:a==c with
   |true=>simp
   |false=>
    have:=f (pre++[a]) (by simpa using hp);simp only[List.length_append,List.length_singleton]at this;simp only[this,zo,vf,Option.map_map];congr 1;funext k;simp;omega
 have:=key s [] rfl;simp only[List.length_nil,yo]at this;rw[List.range_eq_range',BV,this];simp
theorem Ax.three{p:Pl}{a b c:V}{l:List Value}(h:Ax p [a,b,c] l):∃x y z,l=[x,y,z]/\Ad p a x/\Ad p b y/\Ad p c z:=by
 simp only[Ax]at h;obtain⟨x,l1,rfl,d,y,i,rfl,f,z,g,rfl,e,rfl⟩:=h;exact⟨x,y,z,rfl,d,f,e⟩
theorem PK.sim{P:Program}{k:PK}{p:Pl}{h:H}{w:World}{args:List V}{args':Array Value}{v:V}{h':H}(i:Ax p args args'.toList)(d:k.run args h=some (v,h')):
  h'=h/\∃v',(k.entry args').run P w=.ok v' w/\Ad p v v':=by
 unfold PK.run at d;split at d
 case h_6=>cases d
 case h_5=>
  rename_i b o;cases d;obtain⟨x,g,e⟩:=i.one;have:args'= #[x]:=zu.1 g;subst this;exact⟨rfl,x,Lib.run_noEscape w x,e⟩
 case h_1=>
  rename_i s c;cases d;obtain⟨x,y,g,e,f⟩:=i.two;have:args'= #[x,y]:=zu.1 g;subst this;simp only[Ad]at e f;subst e f;refine⟨rfl,_,run_indexByte_string (bytesOf s) c w,?_⟩;unfold firstIdx;rw[RX];cases s.findIdx? fun x=>x==c.toNat.toUInt8<;>simp[VX,i64,Ad]
 case h_2=>
  rename_i x y c;rw[show Nat.ble c 1=decide (c<=1)from by rw[Bool.eq_iff_iff];simp]at d;by_cases j:c<=1
  ·simp only[j,decide_true,we,zf,yb]at d;obtain⟨rfl,rfl⟩:=d;obtain⟨x',y',z',g,e,f,h3⟩:=i.three;have:args'= #[x',y',z']:=zu.1 g;subst this;simp only[Ad]at e f h3;subst e f h3;refine⟨rfl,_,run_add64 x y c ae ae ae ae w,?_⟩;simp only[Ad];refine⟨_,rfl,?_⟩;simp only[Bu,Hx,ve,Ad];exact⟨by simp[iH],by simp[iH]⟩
  ·simp[j]at d
 case h_3=>
  rename_i x y c;rw[show Nat.ble c 1=decide (c<=1)from by rw[Bool.eq_iff_iff];simp]at d;by_cases j:c<=1
  ·simp only[j,decide_true,we,zf,yb]at d;obtain⟨rfl,rfl⟩:=d;obtain⟨x',y',z',g,e,f,h3⟩:=i.three;have:args'= #[x',y',z']:=zu.1 g;subst this;simp only[Ad]at e f h3;subst e f h3;have key:(QJ #[.int .u64 x,.int .u64 y,.int .u64 c]).run P w=
     .ok (zx ((x+zm-y-c) % zm)<|if x<y+c then 1 else 0) w:=by
    have:c=0\/c=1:=ae
    rcases this with rfl|rfl<;>rfl
   refine⟨rfl,_,key,?_⟩;simp only[Ad,zx];refine⟨_,rfl,?_⟩;simp only[Bu,Hx,ve,Ad];refine⟨rfl,?_⟩;rw[HE];by_cases q:x<y+c<;>simp[q]
  ·simp[j]at d
 case h_4=>
  rename_i s c;cases d;obtain⟨x,y,g,e,f⟩:=i.two;have:args'= #[x,y]:=zu.1 g;subst this;simp only[Ad]at e f;subst e f;refine⟨rfl,_,Lib.run_countString (bytesOf s) c w,?_⟩;have key:∀(l:Z) (n:Nat),l.foldl (fun n x=>bif x==c.toNat.toUInt8 then Nat.add n 1 else n) n=n+Lib.countByte l c.toNat.toUInt8:=by
   intro l;induction l with
   |nil=>intro n;simp[Lib.countByte]
   |cons x l r=>
    intro n;rw[List.foldl_cons,r];unfold Lib.countByte;rw[List.count_cons];cases t:x==c.toNat.toUInt8 with
    |true=>simp only[we,wk];show n+1+_=_;omega
    |false=>simp
  simp only[Ad,key,Nat.zero_add];simp[bytesOf]
def UI(L:List (FuncId×PK))(f:FuncId):Option (List V->H->Option (V×H)):=
 match L with
 |[]=>none
 |(g,k)::L=>bif ze g f then some k.run else UI L f
structure Lc(P:Program)(x:FuncId×PK):Prop where
 ok : ∃ fn, P.funcs[x.1]? = some fn /\ (fn.name == "runtime.NumGoroutine") = false /\ fn.body.isNone = true /\ Extern.findNext fn = none /\ Extern.find fn = some x.2.entry
theorem Zl{P:Program}:∀ {L:List (FuncId×PK)},(∀x∈L,Lc P x)->∀f q,UI L f=some q->∀(p:Pl) (h:H) (w:World) (args:List V) (args':Array Value) v h',R p h w->Ax p args args'.toList->q args h=some (v,h')->
  ∃v' p' w',(callFunc f args').run P w=.ok (.value v') w'/\Ad p' v v'/\Ext p h w p' h' w'
 |[],_,f,q,c,_,_,_,_,_,_,_,_,_,_=>by cases c
 |(g,k)::L,j,f,q,c,p,h,w,args,args',v,h',hr,i,d=>by
  unfold UI at c;rw[BA]at c;by_cases e:g=f
  ·subst e;simp only[decide_true,we,zf]at c;subst c;obtain⟨fn,l,u,s,t,r⟩:=(j (g,k)<|by simp).ok;obtain⟨rfl,v',g1,g2⟩:=PK.sim (P:=P) (w:=w) i d;refine⟨v',p,w,?_,g2,z6 hr⟩;rw[run_callFunc_extern l u s t r,g1];rfl
  ·simp only[e,decide_false,wg]at c;exact Zl (fun x o=>j x<|by simp[o]) f q c p h w args args' v h' hr i d
def AeC:Option (List<|V×H)->Option V
 |some [(v,_)]=>some v
 |_=>none
def ZH(C:Ctx)(n:Nat)(f:FuncId)(args:List V)(v:V):Bool:=match AeC (Bi C n (.fn f args) hG)with
 |some x=>V.beq x v
 |none=>false
theorem Ys{C C':Ctx}{P:Program}(T:C.Ok P)(z:G5 C)(M:P.follows .mixedOrders=true){n:Nat}{f:FuncId}{args:List V}{v:V}
  (s:ZH C n f args v=true) (N:V.Jc args=true) (A:v.flat=true) {p:Pl} {h:H} {w:World} {args':Array Value} (hr:R p h w) (i:Gl C' p) (J:Gh h) (d:Ax p args args'.toList):
  Calls P f args' w fun e w'=>∃v' p',e=.returned v'/\Ad p' v v'/\Ext p h w p' h w':=by
 unfold ZH at s;split at s
 case h_2=>cases s
 rename_i x t;have B:x=v:=V.beq_eq s;subst B;unfold AeC at t;split at t
 case h_2=>cases t
 rename_i l D L;cases t;have i:Gp p:=i;refine((JP T z M n).fn f args hG _ L _ w args' (AcO hr i J) i.take<|V.Ki N d).mono ?_;rintro e w' ⟨u,h',v',p',j,rfl,G,q⟩;cases zi.1 j;have c:∀r,r<w.heap.size->w'.heap[r]?=w.heap[r]?:=fun r hr=>q.GP i.take r hr
 refine⟨v',p,rfl,V.Dl A G,⟨⟨[],by simp⟩,⟨hr.len,fun b o K=>?_,hr.inj⟩,q.size,fun r g _=>c r g,fun r I=>.inl I,q.os,q.out,q.tape,fun r g D=>⟨c r g,.inl D⟩⟩⟩;obtain⟨r,m,y,O,E,U⟩:=hr.obj b o K;exact⟨r,m,y,O,by rw[c r (zc.1 E).1];exact E,U⟩
def ghB(h:H):List (Nat×O)->Bool
 |[]=>true
 |(i,o)::l=>Sc (h.get i) (some o)&&ghB h l
theorem ZA{h:H}:∀ {l:List (Nat×O)},ghB h l=true->∀x∈l,h.get x.1=some x.2
 |[],_,x,c=>by cases c
 |(i,o)::l,d,x,c=>by
  simp only[ghB,zd]at d;rcases yi.1 c with rfl|c
  ·have:=d.1;cases e:h.get i with
   |none=>rw[e]at this;simp[Sc]at this
   |some q=>rw[e]at this;rw[Zo (a:=q) (b:=o)<|by simpa [Sc]using this]
  ·exact ZA d.2 x c
def goS:List (Nat×O)->Bool
 |[]=>true
 |(_,o)::l=>Sc (some o) (some o)&&goS l
theorem dI:goS GP=true:=by kernel_rfl
theorem AdS{h:H}(e:Gh h):ghB h GP=true:=by
 have key:∀l:List (Nat×O),(∀x∈l,h.get x.1=some x.2)->goS l=true->ghB h l=true:=by
  intro l;induction l with
  |nil=>exact fun _ _=>rfl
  |cons x l f=>
   intro d c;simp only[goS,zd]at c;simp only[ghB,zd];exact⟨by rw[d x List.mem_cons_self];exact c.1,f (fun y g=>d y<|List.mem_cons_of_mem _ g) c.2⟩
 exact key GP e dI
abbrev CS:=List<|FuncId×List V×V
def Jo:CS->FuncId->List V->Option V
 |[],_,_=>none
 |(g,a,v)::l,f,args=>bif ze g f&&V.LK a args then some v else Jo l f args
def U3:CS->FuncId->Bool
 |[],_=>false
 |(g,_,_)::l,f=>bif ze g f then true else U3 l f
def K8(L:CS)(f:FuncId):Option (List V->H->Option (V×H)):=
 bif U3 L f then some (fun args h=>bif ghB h GP then(match Jo L f args with|some v=>some (v,h)|none=>none)else none)else none
def AY(C:Ctx)(n:Nat):CS->Bool
 |[]=>true
 |(f,a,v)::l=>ZH C n f a v&&V.Jc a&&v.flat&&AY C n l
theorem dR{L:CS}{f:FuncId}{args:List V}{v:V}(h:Jo L f args=some v){C:Ctx}{n:Nat}(c:AY C n L=true):ZH C n f args v=true/\V.Jc args=true/\v.flat=true:=by
 induction L with
 |nil=>cases h
 |cons x l i=>
  obtain⟨g,a,u⟩:=x;simp only[AY,zd]at c;unfold Jo at h;cases d:(ze g f&&V.LK a args)with
  |false=>rw[d]at h;exact i h c.2
  |true=>
   rw[d]at h;cases h;simp only[zd]at d;have e:g=f:=zg d.1;have j:a=args:=V.IB d.2;subst e;subst j;exact⟨c.1.1.1,c.1.1.2,c.1.2⟩
theorem zL{C C':Ctx}{P:Program}(z:C.Ok P)(j:G5 C)(s:P.follows .mixedOrders=true){n:Nat}{L:CS}(x:AY C n L=true):
  ∀f q,K8 L f=some q->∀(p:Pl) (h:H) (w:World) (args:List V) (args':Array Value) v h',R p h w->Gl C' p->Ax p args args'.toList->q args h=some (v,h')->
  Calls P f args' w fun e w'=>∃v' p',e=.returned v'/\Ad p' v v'/\Ext p h w p' h' w':=by
 intro f q i p h w args args' v h' hr o g c;unfold K8 at i;cases l:U3 L f with
 |false=>rw[l]at i;cases i
 |true=>
  rw[l]at i;cases i;simp only at c;cases d:ghB h GP with
  |false=>rw[d]at c;cases c
  |true=>
  rw[d]at c;simp only[we]at c;split at c
  case h_2=>cases c
  rename_i u t;cases c;obtain⟨y,r,A⟩:=dR t x;exact Ys (C':=C') z j s y r A hr o (ZA d) g
section
def PY(P:Program):Nat->Nat->Bool
 |0,_=>true
 |n+1,a=>(match RK P (fun _=>true) a with|some i=>D0 i.body|none=>true)&&PY P n (a+1)
variable {P:Program}
theorem Sf{ct:FuncId->Bool}{f:FuncId}{i:Fn}(c:RK P ct f=some i):RK P (fun _=>true) f=some { i with cert:=true }/\i.cert=ct f:=by
 unfold RK at c ⊢;cases d:P.funcs[f]? with
 |none=>rw[d]at c;cases c
 |some fn=>
  rw[d]at c;simp only at c ⊢;cases e:fn.body with
  |none=>rw[e]at c;cases c
  |some b=>
   rw[e]at c;simp only at c ⊢;split at c
   ·cases c
   ·rename_i g;rw[wc g];cases c;exact⟨rfl,rfl⟩
theorem Jn{f:Nat}{i:Fn}{ct:FuncId->Bool}(c:RK P ct f=some i):∀ {n a:Nat},PY P n a=true->a<=f->f<a+n->D0 i.body=true
 |0,a,_,d,g=>by omega
 |n+1,a,h,d,g=>by
  simp only[PY,zd]at h;by_cases e:a=f
  ·subst e;rw[(Sf c).1]at h;exact h.1
  ·exact Jn c h.2 ae ae
def mkC(P:Program)(N:Nat)(L:List (FuncId×PK)):Ctx:=⟨Abc P,0,RK P<|fun f=>zn f N,UI L,fun _=>none,true⟩
theorem cV{N:Nat}{L:List (FuncId×PK)}(h:∀f i,f<N->RK P (fun f=>zn f N) f=some i->D0 i.body=true):G5 (mkC P N L):=by
 intro f i c d;have c:RK P (fun f=>zn f N) f=some i:=c;rw[(Sf c).2]at d;exact h f i (Nat.le_of_ble_eq_true d) c
theorem AcL{N:Nat}{L:List (FuncId×PK)}(g:∀x∈L,Lc P x):(mkC P N L).Ok P where
 T:=Acf P
 fn:=fun _ _ h=>xF (P:=P) (ct:=fun f=>zn f N) h
 prim:=fun f q c p h w args args' v h' hr _ d e=>Zl g f q c p h w args args' v h' hr d e
 spec:=fun f q c=>by cases c
end
end Go.Det
namespace Go.Pe
open Go.Det
inductive Sh where
 |int (k:IntKind)
 |bool
 |str
 |list (s:Sh)
 |pair (a b:Sh)
 |unit
 |nlist (s:Sh)
 |fnv
 |ptr (s:Sh)
 deriving DecidableEq
@[reducible] def Sh.T:Sh->Type
 | .int _=>Int
 | .bool=>Bool
 | .str=>Z
 | .list s=>List s.T
 | .pair a b=>a.T×b.T
 | .unit=>Unit
 | .nlist s=>List s.T
 | .fnv=>Option Fn
 | .ptr s=>s.T
def Sh.Iq:(s:Sh)->s.T
 | .int _=>(0:Int)
 | .bool=>false
 | .str=>([]:Z)
 | .list _=>[]
 | .pair a b=>(a.Iq,b.Iq)
 | .unit=>()
 | .nlist _=>[]
 | .fnv=>none
 | .ptr s=>s.Iq
def Sh.sz:Sh->Nat
 | .pair a b=>Nat.add a.sz b.sz
 | .unit=>0
 |_=>1
inductive PV where
 |any
 |bl (b:Bool)
 |ub
 |dat (s:Sh) (x:s.T)
 |nil|nilp|nilm|nilf|nili
 |agg (l:List PV)
 |tup (l:List PV)
 |ptr (id off:Nat)
 |eptr (id sz i off:Nat)
 |Bb (s:Sh) (x:s.T) (off:Nat)
 |sl (id sz off len:Nat) (cap:Option Nat)
 |mp (id:Nat)
 |fn (f:Fn) (first captured:List PV)
 |yl (id:Nat)
inductive LpS where
 |ready|busy|ret
 |exit (i:Nat)
inductive Obj where
 |arr (fz:Bool) (e:TypeId) (s:Sh) (l:List s.T)
 |box (cs:List PV)
 |tbox (t:TypeId) (cs:List PV)
 |map (ks vs:Sh) (l:List (ks.T×vs.T))
 |siter (s:Z) (pos:Nat)
 |lp (f:FuncId) (r:Nat) (ps:Array Tmp) (asg body:Code) (s:LpS) (n:Nat) (sl:List (Nat×PV))
abbrev Ob:=List<|Nat×Obj
def AS:Ob->Nat->Option Obj
 |[],_=>none
 |(i,o)::l,j=>bif ze i j then some o else AS l j
def DZ:Ob->Nat->Obj->Ob
 |[],_,_=>[]
 |(i,o)::l,j,x=>bif ze i j then(i,x)::l else(i,o)::DZ l j x
def G1:Ob->Nat->Ob
 |[],_=>[]
 |(i,o)::l,j=>bif ze i j then G1 l j else(i,o)::G1 l j
structure AQ where
 n:Nat
 fr:PM PV
 ob:Ob
 nx:Nat
def AQ.get(st:AQ)(t:Nat):PV:=(st.fr.get t).getD .any
def AQ.obj(st:AQ)(id:Nat):Option Obj:=AS st.ob id
def AQ.set(st:AQ)(t:Nat)(v:PV):AQ:=⟨st.n,st.fr.set t<|some v,st.ob,st.nx⟩
def AQ.setObj(st:AQ)(id:Nat)(o:Obj):AQ:=⟨st.n,st.fr,DZ st.ob id o,st.nx⟩
def AQ.Gu(st:AQ)(id:Nat):AQ:=⟨st.n,st.fr,G1 st.ob id,st.nx⟩
def AQ.push(st:AQ)(o:Obj):AQ:=⟨st.n,st.fr,(st.nx,o)::st.ob,Nat.add st.nx 1⟩
def AQ.put(st:AQ)(d:Option Nat)(v:PV):Option AQ:=
 match d with
 |none=>some st
 |some t=>bif zn t st.n then some (st.set t v)else none
def Fl(vs:List (Nat×PV)):PM PV:=vs.foldl (fun m x=>m.set x.1<|some x.2) .leaf
def flat:(s:Sh)->s.T->List PV
 | .pair a b,(x,y)=>flat a x++flat b y
 | .unit,_=>[]
 | .fnv,x=>[match (x:Option Fn)with|some f=>.fn f [] []|none=>.nilf]
 | .ptr s,x=>[.Bb s x 0]
 |s,x=>[.dat s x]
def E4(s c:Sh)(x:s.T):Option c.T:=if h:s=c then some (h▸x)else none
def asP(c:Sh)(x:c.T):(s:Sh)->Option s.T
 | .ptr s=>E4 c s x
 |_=>none
def asD(s:Sh)(v:PV):Option s.T:=
 match v with
 | .Bb c x 0=>asP c x s
 | .dat c x=>E4 c s x
 | .bl b=>E4 .bool s b
 | .fn f [] []=>E4 .fnv s<|some f
 | .nilf=>E4 .fnv s none
 | .nil=>match s with
  | .list _=>some []
  | .nlist _=>some []
  |_=>none
 |_=>none
def CG:(s:Sh)->List PV->Option (s.T×List PV)
 | .pair a b,l=>match CG a l with
  |some (x,l1)=>match CG b l1 with
   |some (y,c)=>some ((x,y),c)
   |none=>none
  |none=>none
 | .unit,l=>some ((),l)
 |s,v::l=>match asD s v with
  |some x=>some (x,l)
  |none=>none
 |_,[]=>none
def Dv(s:Sh)(l:List PV):Option s.T:=
 match CG s l with
 |some (x,[])=>some x
 |_=>none
def PV.cells:PV->List PV
 | .agg cs=>cs
 |v=>[v]
def Zx(ty:TypeId->Option Sh):List Field->Option Sh
 |[]=>none
 |[x]=>ty x.type
 |x::xs=>match ty x.type,Zx ty xs with
  |some a,some b=>some<|.pair a b
  |_,_=>none
def nlf:Option Sh->Option Sh
 |some (.list<|.int .u64)=>some<|.nlist<|.int .u64
 |s=>s
def lz:PV->PV
 | .dat (.nlist s) x=>.dat (.list s) x
 |v=>v
def Sh.leaves:Sh->List Sh
 | .pair a b=>a.leaves++b.leaves
 | .unit=>[]
 |s=>[s]
def WH:Sh->PV->Bool×PV
 | .nlist s,.dat (.list c) x=>bif s==c then(decide (0<x.length),.dat (.nlist c) x)else(true,.dat (.list c) x)
 | .list s,.dat (.nlist c) x=>bif s==c then(true,.dat (.list c) x)else(true,.dat (.nlist c) x)
 |_,v=>(true,v)
def L0:List Sh->List PV->Bool×List PV
 |s::l,v::vs=>((WH s v).1&&(L0 l vs).1,(WH s v).2::(L0 l vs).2)
 |_,vs=>(true,vs)
def Ym(T:Cg):Nat->TypeId->Option Sh
 |0,_=>none
 |f+1,t=>match T.und t with
  |some (.int k)=>some<|.int k
  |some .bool=>some .bool
  |some .string=>some .str
  |some (.slice e)=>(Ym T f e).map .list
  |some (.func _ _ _)=>some .fnv
  |some (.struct fs)=>Zx (fun x=>nlf<|Ym T f x) fs.toList
  |_=>none
def Sh.Aaf:Sh->Bool
 | .pair a b=>a.Aaf||b.Aaf
 | .fnv=>true
 |_=>false
def Cx:(s:Sh)->s.T->PV
 | .pair a b,x=>.agg<|flat (.pair a b) x
 | .unit,_=>.agg []
 | .fnv,x=>match (x:Option Fn)with|some f=>.fn f [] []|none=>.nilf
 | .ptr s,x=>.Bb s x 0
 |s,x=>.dat s x
def Sh.RV:Sh->Bool
 | .pair _ _| .unit=>true
 |_=>false
def YS:(s:Sh)->s.T->s.T->Bool
 | .int _,a,b=>(a:Int)==b
 | .bool,a,b=>(a:Bool)==b
 | .str,a,b=>(a:Z)==b
 |_,_,_=>false
def Eh(s v:Sh)(k:s.T):List (s.T×v.T)->Option v.T
 |[]=>none
 |(a,b)::l=>bif YS s k a then some b else Eh s v k l
def HP(s v:Sh)(k:s.T)(x:v.T):List (s.T×v.T)->List (s.T×v.T)
 |[]=>[(k,x)]
 |(a,b)::l=>bif YS s k a then(k,x)::l else(a,b)::HP s v k x l
def TA(s v:Sh)(k:s.T):List (s.T×v.T)->List (s.T×v.T)
 |[]=>[]
 |(a,b)::l=>bif YS s k a then l else(a,b)::TA s v k l
inductive Tr where
 |fail
 |leaf (v:PV) (ob:Ob)
 |ite (c:Bool) (a b:Tr)
 |both (a b:Tr)
 |cut (nd ro:Bool) (d:Nat) (f:FuncId) (base:Nat) (b:Code) (st:AQ) (k:DX->AQ->Tr)
 |alts (m:Nat) (f:Nat->Tr)
 |loop (nd ro:Bool) (d:Nat) (f:FuncId) (base:Nat) (b:Code) (st:AQ) (k:DX->AQ->Tr)
abbrev Tr.ck(c:Bool)(x:Tr):Tr:=.ite c x .fail
abbrev Tr.cd(P:Prop)[Decidable P](x:Tr):Tr:=.ite (decide P) x .fail
abbrev aa(k:Nat):Bool:=decide (1<=1)&&decide (0<1)&&decide ((3*1+2000)*k<=562949953421312)
abbrev ac(n m k:Nat):Bool:=decide (1<=1)&&true&&decide (n=m)&&decide ((3*(n+1)+2000)*k<=562949953421312)
abbrev Tr.di(P:Prop)[Decidable P](x y:Tr):Tr:=.ite (decide P) x y
inductive PO where
 |bad
 |val (v:PV) (st:AQ)
 |ite (c:Bool) (a b:PO)
def PO.IV(c:Bool)(v:PV)(st:AQ):PO:=.ite c (.val v st) .bad
end Go.Pe
