import Derived.Test.YtbmofcgiokkikaaGreatDoorX02
import Derived.Laws.StructEq
import Derived.Lib.Bytealg
import Derived.Laws.Externs
import Derived.Below
/- A part of a proof; no law is stated here. -/
noncomputable section
open Bool renaming and_eq_true -> zc, or_eq_true -> zn, not_eq_true' -> zr, false_eq_true -> zz
open Nat renaming beq -> zd, eq_of_beq_eq_true -> zf, blt -> zj, add -> zm, ble -> z8, blt_eq -> yq, lt_or_ge -> yt, add_zero -> yv, mul -> yw
open Array renaming getElem?_eq_some_iff -> ze, getD_eq_getD_getElem? -> zq, replicate -> yj
open Option.some renaming injEq -> zh
open List renaming mem_singleton -> zi, all_eq_true -> zk, range -> zu, getD_eq_getElem?_getD -> yc, any_eq_true -> yg, mem_range -> ym, replicate -> yn, mem_cons -> yp, mem_map -> yu
open Int renaming toNat -> zl
open Go.Extern.MathBitsCarry renaming m64 -> zo, pair -> ye
open BitVec renaming ofInt -> zp
open Go.Result renaming andThen_ok -> zt
open Go.Oper renaming semAt_eq -> zy, uponIn_value -> z6
open Go.Sem renaming run_bind -> z7
open Go.Det.Ext renaming refl -> ya
open Go.Fence renaming wide -> yb
open Go.Instr renaming checkKey -> yd
open Prod.mk renaming injEq -> yf
open Go.Region renaming ready -> yh
open Go.Op renaming bytesLess -> yi
open Go.Code renaming region -> yk
open Go.Utf8 renaming decode -> yo
open PUnit renaming unit -> yr
namespace Go.Det
section
variable {C:Ctx}{P:Program}{call:D4}{ops:Array Oper}{anc:Nat->Nat->Bool}{ord pos:Nat->Nat}{sc:Nat->Option Nat}{fr0:Fr}{h0:H}{v:Nat->V}{Hh:Nat->H}{F:Nat->Fr}
 {p0:Pl} {w0:World} {df:List Deferred} {S:Nat->Prop} {m:Nat} {fl:Nat->Nat} {p:Pl} {a:Act} {w:World}
theorem Inv.wrote(st:Stat ops anc ord pos sc)(cn:Canon C call ops anc ord pos fr0 h0 v Hh F){i:Nat}{o:Oper}(d:Inv C ops pos sc fr0 v Hh F p0 h0 w0 df S (pos i) fl p a w)(u:ops[i]?=some o)(_:Df o=true)(z:¬S i)
  {p':Pl} {w':World} {x:Value} (g:Ext p (Hh<|pos i) w p' (Hh<|pos i+1) w') (X:Ag p' (v i) x):
  Inv C ops pos sc fr0 v Hh F p0 h0 w0 df (fun k=>S k\/k=i) (pos i+1) fl p' (a.put o.dst x) w':=by
 have T:∀(k:Nat) (ok:Oper) (t:Tmp),k≠i->ops[k]?=some ok->ok.dst=some t->o.dst≠some t:=fun k ok t K c l=>(st.s6 k i ok o t c u K l).1
 have s:=(ze.1 u).1;have Z:∀ {k:Nat} {ok:Oper},ops[k]?=some ok->pos k=pos i->k=i:=fun {k ok} c e=>by
  have G:=(ze.1 c).1;rw[<-(st.posp k G).2,e,(st.posp i s).2]
 refine⟨d.ext.trans g,d.gl.ext g,(st.posp i s).1,fun k ok c N=>?_,fun k ok c I r=>?_,by rw[SF,d.sz],by rw[Rv,d.df],fun t l=>?_,fun k ok t R c l hc=>?_,fun k ok R c B A D=>?_,
  fun k j ok oj R hS' c Y B L A E D O M=>?_⟩
 ·constructor
  ·rintro(h|rfl)
   ·have:=(d.mh k ok c N).1 h;omega
   ·omega
  ·intro h;by_cases e:pos k=pos i
   ·grind
   ·exact .inl ((d.mh k ok c N).2 ae)
 ·by_cases e:pos k=pos i
  ·grind
  ·exact .inl (d.ma k ok c I ae)
 ·have U:o.dst≠some t:=ah;rw[EL U];exact g.rR (d.slot t ah)
 ·by_cases e:k=i
  ·subst e;rw[u]at c;cases c;rw[l,GF<|by rw[d.sz];exact cn.dst k o t u l];exact X
  ·rw[EL ah];refine g.rR (d.slotw k ok t ah c l fun U h2=>?_);grind
 ·obtain⟨n,y,ob,f,v',k1,W,k3,k4,k5,k6,k7⟩:=d.flt k ok ah c B A ae;have r:=(ze.1 W).1;obtain⟨q,rfl⟩:=g.pre;refine⟨n,y,ob,f,v',k1,by rw[g.same _ r k4];exact W,k3,fun J=>?_,k5.mono _,k6,(by grind [EL])⟩;rcases g.im _ J with h|h
  ·grind
  ·omega
 ·exact d.inj k j ok oj ah ah c Y B L A E ae ae M
theorem Inv.along(c:Inv C ops pos sc fr0 v Hh F p0 h0 w0 df S m fl p a w){p':Pl}{w':World}(d:Ext p (Hh m) w p' (Hh m) w'):Inv C ops pos sc fr0 v Hh F p0 h0 w0 df S m fl p' a w':=by
 refine⟨c.ext.trans d,c.gl.ext d,c.mn,c.mh,c.ma,c.sz,c.df,fun t G=>d.rR<|c.slot t G,fun i o t z J E A=>d.rR<|c.slotw i o t z J E A,fun k ok I r x s j=>?_,c.inj⟩;obtain⟨n,y,ob,f,v',L,l,D,K,M,u,B⟩:=c.flt k ok I r x s j;have e:=(ze.1 l).1;obtain⟨q,rfl⟩:=d.pre;refine⟨n,y,ob,f,v',L,by rw[d.same _ e K];exact l,D,fun g=>?_,M.mono _,u,B⟩;rcases d.im _ g with h|h
 ·grind
 ·omega
theorem vY{o:Oper}(h:C8 o=true):∀c,o.op≠ .defer c:=by
 grind [C8]
theorem up(Z:C.Ok P)(U:call.Ok C P)(st:Stat ops anc ord pos sc)(B:Canon C call ops anc ord pos fr0 h0 v Hh F)(E:Inv C ops pos sc fr0 v Hh F p0 h0 w0 df S m fl p a w)(L:Ot ops pos sc S m a)(hd:Down anc S)(I:Rest ops pos S m)
  {i:Nat} {o:Oper} (d:ops[i]?=some o) (hr:Uj anc S i) {Q:Exit->Act->World->Prop} {K:Act->World->Prop}
  (R:∀m' fl' p' a' w',Inv C ops pos sc fr0 v Hh F p0 h0 w0 df (fun k=>S k\/k=i) m' fl' p' a' w'->Ot ops pos sc (fun k=>S k\/k=i) m' a'->Rest ops pos (fun k=>S k\/k=i) m'->K a' w') {ro:Option Nat} {nn:Nat}:wpOpIn (FW ro) nn P ops Q i K a w:=by
 have hin:=(ze.1 d).1;have G:∀cs b,o.op≠ .select cs b:=fun cs b=>Region.noSelect_spec st.sel i o cs b d
 have g:Rest ops pos (fun k=>S k\/k=i) m:=by
  grind [Rest]
 unfold wpOpIn;simp only[d];cases r:Df o with
 |false=>
  by_cases hcp:(sc i).isSome=true/\m<=pos i
  ·
   obtain⟨k,hk⟩:=Option.isSome_iff_exists.1 hcp.1;obtain⟨o2,ok,t,q1,q2,q3,q4,q5,q6,q7⟩:=st.q1 i k hk;rw[d]at q1;cases q1;have hw:Region.wanted o (yielded ops a.tmps)=true:=by grind [Region.wanted]
   simp only[hw,wk];refine⟨fun _ _=>trivial,?_⟩;have hrun:(execOp a.eval o).run P w=.ok (.value<|a.tmps.getD t undef) w:=by
    unfold execOp;rcases q3 with q3|q3<;>simp[q3,Act.eval]
   rw[zy _ _ _ ah,hrun,z6];have hnal:C8 o=false:=by grind [C8]
   refine R m fl p _ w (E.quiet st B d hr.fresh r ah<|by grind [Bl]) (L.put st d hr.fresh hr ae fun k' ok' t' tk h1 Y W h4 _=>?_) g;rw[hk]at h1;cases h1;rw[q2]at Y;cases Y;rw[q6]at h4;cases h4;rw[W,GF<|by rw[E.sz];exact B.dst i o t' d W]
  have hcp':∀k,sc i=some k->pos i<m:=ah;have hfl:∀(k:Nat) (ok:Oper) (t:Tmp),ops[k]?=some ok->(C8 ok=true\/(sc k).isSome=true)->ok.dst=some t->t∈reads ops o->anc i k=true->pos k<m:=by
   intro k ok t hk M hkt ht D;rcases st.s3 k i ok o t hk d M r hkt ht D with h|⟨j,oj,j1,j2,j3,j4⟩
   ·have:=hcp' k h;have:=st.apos _ _ D;omega
   ·have:=(E.mh j oj j1 j2).1<|hr.all j j4;have:=st.apos _ _ j3;omega
  have y:∀x,Ot ops pos sc (fun k=>S k\/k=i) m (a.put o.dst x):=fun x=>L.put st d hr.fresh hr ae ah
  have A:=operands st B E hd d hr hfl;rw[Ti A];rcases B.step i o d with⟨u1,u2,s⟩|⟨u1,u⟩
  ·simp only[u1,zz,vf];refine⟨fun _ _=>trivial,?_⟩;exact R m fl p _ w (E.quiet st B d hr.fresh r (fun _=>u1)<|by simp_all [Ag,undef]) (y _) g
  ·simp only[u1,wk];refine⟨fun _ _=>trivial,?_⟩;rcases u with⟨u2,s,X⟩|⟨u2,ob,f,s,X,u5⟩|⟨u2,s⟩
   ·have N:=Zm st B hd E I d hr u2 u1 s;obtain⟨v',p',w',J,O,T⟩:=Kp Z E.ext.rel E.gl A G N;rw[zy _ _ _<|Ix N,J,z6];have hi2:=E.along T;exact R m fl p' _ w' (hi2.quiet st B d hr.fresh r (by grind [KM]) fun _=>O) (y _) g
   ·have hle:m<=pos i:=by
     rcases QK st hd E I d hr.fresh with h|⟨k,ok,h1,Y,W,h4,h5,h6⟩
     ·exact h
     ·rcases st.s4 k i ok o h1 d Y u2 with h7|h7
      ·grind
      ·omega
    obtain⟨x,n,v',J,O,T⟩:=Afr (P:=P) Z E.gl A s;rw[zy _ _ _<|vY u2,J,z6];exact R m _ p _ _ (E.made st d u2 u1 hle B s O T) (y _) g
   grind
 |true=>
  obtain⟨hnr,hnal⟩:=V9 r;have hle:m<=pos i:=by
   rcases yt (pos i) m with h|h
   ·exact wh ((E.mh i o d r).2 h) hr.fresh
   omega
  have hpn:=(st.posp i hin).1;obtain⟨p1,c⟩:=Inv.adv st B (pos i-m) m E L ae (fun q h1 Y oq hq=>by
   obtain⟨J,O⟩:=st.ordp q ae;refine⟨?_,fun M=>?_⟩
   ·grind [RI]
   ·rcases st.s4 i (ord q) o oq d hq r M with W|W
    ·exact hr.all _ W
    omega)
  rw[show m+(pos i-m)=pos i from by omega]at c;have A:=operands st B c hd d hr fun k ok t hk M _ _ D=>st.apos _ _ D
  have y:∀x,Ot ops pos sc (fun k=>S k\/k=i) (pos i+1) (a.put o.dst x):=fun x=>L.put st d hr.fresh hr ae ae
  rw[Ti A];have l:Rest ops pos (fun k=>S k\/k=i) (pos i+1):=.inr ah;rcases B.step i o d with⟨u1,u2,s⟩|⟨u1,u⟩
  ·simp only[u1,zz,vf];refine⟨fun _ _=>trivial,?_⟩;have he:Ext p1 (Hh<|pos i) w p1 (Hh<|pos i+1) w:=by rw[s];exact ya c.ext.rel
   exact R _ _ _ _ _ (c.wrote st B d r hr.fresh he<|by simp_all [Ag,undef]) (y _) l
  ·simp only[u1,wk];refine⟨fun _ _=>trivial,?_⟩;rcases u with⟨u2,s,X⟩|⟨u2,ob,f,s,X,u5⟩|⟨u2,s⟩
   ·grind
   ·grind
   ·unfold EG at s;split at s
    case h_4=>cases s
    case h_1=>
     rename_i vv hh z;obtain⟨rfl,rfl⟩:=s;obtain⟨v',p',w',J,O,T⟩:=Kp Z c.ext.rel c.gl A G z;rw[zy _ _ _<|Ix z,J,z6];exact R _ _ _ _ _ (c.wrote st B d r hr.fresh T O) (y _) l
    case h_2=>
     rename_i hh z;simp only[zh,yf]at s;obtain⟨X,rfl⟩:=s;obtain⟨p',w',J,T⟩:=Kp Z c.ext.rel c.gl A G z;rw[zy _ _ _<|Ix z,J,Oper.uponIn_skip];exact R _ _ _ _ _ (c.wrote st B d r hr.fresh T<|by rw[<-X];simp[Ag,undef]) (y _) l
    case h_3=>
     rename_i f args z;obtain⟨args',J,O⟩:=Kp Z c.ext.rel c.gl A G z;rw[zy _ _ _<|Ix z,J,Oper.uponIn_enter];split at s
     case h_2=>cases s
     rename_i x1 x2 hcl;cases s;refine⟨(by grind [FW,yb]),aX.2<|(U.fn f args _ _ hcl p1 w args' c.ext.rel c.gl O).mono ?_⟩;rintro e w' ⟨v',h',x',p',hm,rfl,k1,k2⟩;rw[zi]at hm;cases hm;exact R _ _ _ _ _ (c.wrote st B d r hr.fresh k2 k1) (y _) l
theorem Inv.congr{c:Nat->Prop}(h:∀k,S k↔c k)(d:Inv C ops pos sc fr0 v Hh F p0 h0 w0 df S m fl p a w):Inv C ops pos sc fr0 v Hh F p0 h0 w0 df c m fl p a w:=by
 have e:S=c:=ah;grind
theorem Ot.congr{c:Nat->Prop}(h:∀k,S k↔c k)(d:Ot ops pos sc S m a):Ot ops pos sc c m a:=by
 have e:S=c:=ah;grind
def Ls(l:Array Bool)(k:Nat):Prop:=l.getD k false=true
theorem YA{l:Array Bool}(n:Nat)(f:l.size=n){i:Nat}(j:i<n)(c:l.getD i true=false):
  ((zu n).filter fun k=> !(l.setIfInBounds i true).getD k true).length<((zu n).filter fun k=> !l.getD k true).length:=by
 have sub:∀k,(!(l.setIfInBounds i true).getD k true)=true->(!l.getD k true)=true:=by
  intro k d;by_cases e:i=k
  ·grind
  simp_all
 have key:∀(L:List Nat),(L.filter fun k=> !(l.setIfInBounds i true).getD k true).length<=(L.filter fun k=> !l.getD k true).length/\(i∈L->(L.filter fun k=> !(l.setIfInBounds i true).getD k true).length<(L.filter fun k=> !l.getD k true).length):=by
  intro L;induction L with
  |nil=>simp
  |cons x L g=>
   simp only[List.filter_cons];constructor
   ·grind
   ·by_cases e:i=x
    ·subst e;rw[wc (by simp),wd<|by simp[c]];grind
    grind
 grind
theorem tZ(hC:C.Ok P)(x:call.Ok C P)(st:Stat ops anc ord pos sc)(E:Canon C call ops anc ord pos fr0 h0 v Hh F){Q:Exit->Act->World->Prop}
  (hQ:∀p' J w',CS p' (F ops.size) J->Ext p0 h0 w0 p' (Hh ops.size) w'->J.defers=df->Q .normal J w') {ro:Option Nat} {nn:Nat}:
  ∀(d:Nat) (l:Array Bool),l.size=ops.size->((zu ops.size).filter fun k=> !l.getD k true).length<=d->∀ {m:Nat} {fl:Nat->Nat} {p:Pl} {a:Act} {w:World},
   Inv C ops pos sc fr0 v Hh F p0 h0 w0 df (Ls l) m fl p a w->Ot ops pos sc (Ls l) m a->Down anc (Ls l)->Rest ops pos (Ls l) m->wpAnyIn (FW ro) nn P .any ops Q d l a w:=by
 have fin:∀(l:Array Bool),l.size=ops.size->yh .any ops l=[]->∀ {m:Nat} {fl:Nat->Nat} {p:Pl} {a:Act} {w:World},
   Inv C ops pos sc fr0 v Hh F p0 h0 w0 df (Ls l) m fl p a w->Ot ops pos sc (Ls l) m a->Q .normal a w:=by
  intro l W D m fl p a w y s;have all:∀q,q<=ops.size->∀k,k<ops.size->pos k<q->Ls l k:=by
   intro q;induction q with
   |zero=>omega
   |succ q O=>
    intro hq k g hlt;by_cases e:pos k=q
    ·apply Classical.byContradiction;intro hns;have Y:k∈yh .any ops l:=by
      rw[mem_ready];refine⟨?_,ops[k],by simp[g],fun X T Z=>?_⟩
      ·grind [Ls]
      ·obtain⟨R,A⟩:=st.dir k _ X (by simp[g]) T Z;have h3:=st.apos _ _ R;exact O ae X.on A ae
     grind
    grind
  have u:∀k,k<ops.size->Ls l k:=fun k g=>all ops.size ae k g (st.posp k g).1
  obtain⟨p',c⟩:=Inv.adv st E (ops.size-m) m y s (by have:=y.mn;omega) (fun q R A o ho=>by
   obtain⟨U,g2⟩:=st.ordp q ae;refine⟨?_,ah⟩;cases hv:Df o with
   |false=>rfl
   |true=>have:=(y.mh _ o ho hv).1<|u _ U;omega)
  rw[show m+(ops.size-m)=ops.size from by have:=y.mn;omega]at c;refine hQ p' a w ⟨by rw[E.fn _ ae,c.sz],fun t=>?_⟩ c.ext c.df;by_cases hw:∃(k:Nat) (ok:Oper),ops[k]?=some ok/\ok.dst=some t
  ·obtain⟨k,ok,g,B⟩:=hw;have z:=(ze.1 g).1;rw[Fw st E g B _ ae (st.posp k z).1];exact c.slotw k ok t (u k z) g B fun _ _=>(st.posp k z).1
  ·rw[Fz st E _ ae ah];exact c.slot t ah
 intro d;induction d with
 |zero=>
  intro l W I m fl p a w y s N r;have D:yh .any ops l=[]:=by
   simp_all [yh,zu]
  exact⟨D,ah⟩
 |succ d O=>
  intro l W I m fl p a w y s N r;refine⟨ah,fun i hm=>?_⟩;obtain⟨R,o,A,h3⟩:=mem_ready.1 hm;have hin:=(ze.1 A).1;have f:Uj anc (Ls l) i:=by
   refine⟨fun hs=>?_,fun k g=>?_⟩
   ·grind [Ls]
   ·obtain⟨o',e,U,g2,g3,g4⟩:=st.edge i k g;grind [Ls,Down]
  refine up hC x st E y s N r A f fun m' fl' p' J w' c G L=>?_
  have M:∀k,(Ls l k\/k=i)↔Ls (l.setIfInBounds i true) k:=by
   intro k;unfold Ls;by_cases e:k=i
   ·simp_all
   ·rw[getD_set_ne false ae];simp[e]
  refine O (l.setIfInBounds i true) ah ?_ (c.congr M) (G.congr M) ?_ (by simp_all)
  ·grind [YA]
  ·intro j k K g;rw[<-M]at K ⊢;rcases K with K|rfl
   ·exact .inl<|N j k K g
   ·exact .inl<|f.all k g
theorem rU(s:C.Ok P)(c:call.Ok C P)(r:P.follows .mixedOrders=true)(st:Stat ops anc ord pos sc)(g:Canon C call ops anc ord pos fr0 h0 v Hh F){Q:Exit->Act->World->Prop}(hr:R p h0 w)(o:Gl C p)(e:CS p fr0 a)
  {id:Nat} (q:∀p' d w',CS p' (F ops.size) d->Ext p h0 w p' (Hh ops.size) w'->d.defers=a.defers->Q .normal d w') {ro:Option Nat} {j:Nat}:(yk id ops true).wpIn (FW ro) j P Q a w:=by
 refine wpIn_region_any r ?_;have u:=Ext.drew hr<|w.drawn+1;have l:∀k,¬Ls (yj ops.size false) k:=by
  intro k f;unfold Ls at f;rw[zq]at f;grind
 refine tZ (p0:=p) (h0:=h0) (w0:=w) (df:=a.defers) s c st g q ops.size _ (by simp) ah (m:=0) (fl:=fun _=>0) (p:=p)
  ⟨by rw[g.h0];exact u,o,Nat.zero_le _,ah,ae,e.1.symm,rfl,fun t _=>e.2 t,ah,ah,ah⟩
  ⟨ah⟩ (fun i k h=>ah) (.inl rfl)
end
structure Pv where
 anc:List Nat
 ord:List Nat
 pos:List Nat
 sc:List (Option Nat)
def Ahk(acc:List Nat)(o:Oper):Nat:=
 o.after.toList.foldl (fun s e=>bif Region.binds .any e then s|||(2^e.on|||acc.getD e.on 0)else s) 0
def Aea:List Oper->List Nat->List Nat
 |[],c=>c
 |o::os,c=>Aea os<|c++[Ahk c o]
def tb(m i:Nat):Bool:=m.testBit i
def sub(a d:Nat):Bool:=zd (a&&&d) a
def Ky(f:Nat->Oper->Bool):Nat->List Oper->Option Nat
 |_,[]=>none
 |i,o::os=>bif f i o then some i else Ky f (i+1) os
def xH(f:Nat->Oper->Bool):Nat->List Oper->List Nat
 |_,[]=>[]
 |i,o::os=>bif f i o then i::xH f (i+1) os else xH f (i+1) os
def XY(ops:List Oper)(anc:List Nat):Nat->Nat->List Nat->List Nat
 |0,_,out=>out.reverse
 |fuel+1,d,out=>
  match Ky (fun i o=>Fe o&& !tb d i&&sub (anc.getD i 0) d) 0 ops with
  |some i=>XY ops anc fuel (d|||2^i) (i::out)
  |none=>
   match Ky (fun i o=>Df o&& !tb d i) 0 ops with
   |some k=>
    let c:=xH (fun i o=>C8 o&& !tb d i&&tb (anc.getD k 0) i) 0 ops
    bif c.isEmpty then XY ops anc fuel (d|||2^k) (k::out)
    else XY ops anc fuel (c.foldl (fun s i=>s|||2^i) d)<|c.reverse++out
   |none=>
    match Ky (fun i o=>C8 o&& !tb d i) 0 ops with
    |some i=>XY ops anc fuel (d|||2^i) (i::out)
    |none=>out.reverse
def idx(l:List Nat)(i:Nat):Nat:=l.getD i 0
def AgQ(ord:List Nat)(n:Nat):List Nat:=(zu n).map fun i=>ord.idxOf i
def Vx(o:Oper):Option Tmp:=
 match o.guard,o.op with
 |none,.assign (.tmp t)=>some t
 |none,.move (.tmp t)=>some t
 |_,_=>none
def AjN(ops:List Oper)(anc:List Nat)(i:Nat)(o:Oper):Option Nat:=
 match Vx o with
 |some t=>
  match Ky (fun k x=>C8 x&&(x.dst==some t)&&tb (anc.getD i 0) k) 0 ops with
  |some k=>match Ky (fun h x=>Df x&&tb (anc.getD h 0) k&&tb (anc.getD i 0) h) 0 ops with
   |none=>some k
   |some _=>none
  |none=>none
 |none=>none
def Fm(ops:Array Oper):Pv:=
 let anc:=Aea ops.toList []
 let ord:=XY ops.toList anc (3*ops.size+3) 0 []
 ⟨anc,ord,AgQ ord ops.size,ops.toList.zipIdx.map fun(o,i)=>AjN ops.toList anc i o⟩
def Pv.s(pl:Pv)(i:Nat):Option Nat:=pl.sc.getD i none
def Pv.a(pl:Pv)(j i:Nat):Bool:=(idx pl.anc j).testBit i
def fV(ops:Array Oper)(f:Nat->Oper->Nat->Oper->Bool):Bool:=
 ops.toList.zipIdx.all fun(o,i)=>ops.toList.zipIdx.all fun(o',j)=>f i o j o'
def Ji(ops:Array Oper)(pl:Pv):Bool:=
 let n:=ops.size
 let A:=pl.a
 let pos:=idx pl.pos
 let ord:=idx pl.ord
 Region.noSelect ops&&
 ((zu n).all fun q=>zj (ord q) n&&zd (pos<|ord q) q)&&
 ((zu n).all fun i=>zj (pos i) n&&zd (ord<|pos i) i)&&
 (pl.anc.length==n)&&(pl.ord.length==n)&&
 (pl.sc.zipIdx.all fun(s,i)=>match s with
  |none=>true
  |some k=>match ops[i]?,ops[k]? with
   |some o,some ok=>match Vx o with
    |some t=>C8 ok&&(ok.dst==some t)&&A i k
    |none=>false
   |_,_=>false)&&
 (ops.toList.zipIdx.all fun(o,j)=>zj (idx pl.anc j) (2^n)&&
  ((zu n).all fun i=> !A j i||((o.after.toList.any fun e=>Region.binds .any e&&(zd e.on i||A e.on i))&&zj (pos i) (pos j)))&&
  (o.after.toList.all fun e=> !Region.binds .any e||(A j e.on&&zj e.on n)))&&
 (fV ops fun i o j o'=>
  (!(Df o&&Df o')||zd i j||A i j||A j i)&&
  (!(Df o&&Fe o')||A j i||zj (pos j) (pos i))&&
  (!((C8 o||(pl.s i).isSome)&& !Df o')|| !A j i||(match o.dst with|some t=> !((reads ops o').contains t)|none=>true)||(pl.s j==some i)||(ops.toList.zipIdx.any fun(x,k)=>Df x&&A k i&&A j k))&&
  (!(Df o&&C8 o')||A i j||zj (pos i) (pos j))&&
  (!(Fe o&&S8 o&&C8 o')|| !zj (pos j) (pos i)||(ops.toList.zipIdx.any fun(x,k)=>Df x&&zj (pos j) (pos k)&&zj (pos k) (pos i)))&&
  (zd i j||(match o.dst with
   |none=>true
   |some t=> !(o'.dst==some t)&&(!((reads ops o').contains t)||A j i||A i j))))
theorem KV{ops:Array Oper}{i:Nat}{o:Oper}(h:ops[i]?=some o):(o,i)∈ops.toList.zipIdx:=by
 grind
theorem qL{ops:Array Oper}{i:Nat}{o:Oper}(h:(o,i)∈ops.toList.zipIdx):ops[i]?=some o:=by
 grind
theorem XK{o:Oper}{t:Tmp}(h:Vx o=some t):(o.op=.assign (.tmp t)\/o.op=.move (.tmp t))/\o.guard=none:=by
 grind [Vx]
theorem gC{ops:Array Oper}{pl:Pv}(L:Ji ops pl=true):Stat ops pl.a (idx pl.ord) (idx pl.pos) pl.s:=by
 unfold Ji at L;simp only[zc]at L;obtain⟨⟨⟨⟨⟨⟨⟨h0,h1⟩,U⟩,R⟩,_⟩,Y⟩,u⟩,X⟩:=L;simp only[zk,ym,zc,yq,Bz,w5]at h1 U;simp only[zk]at u;have q:∀(i j:Nat) (o o':Oper),ops[i]?=some o->ops[j]?=some o'->_:=fun i j o o' g f=>zk.1 (zk.1 X (o,i)<|KV g) (o',j)<|KV f
 simp only[zc,zn,zr,Bz,w5,H4,w9,Bool.and_eq_false_imp]at q;have l:∀(j i:Nat),pl.a j i=true->j<ops.size/\i<ops.size:=by
  intro j i h;have f:j<ops.size:=by
   rcases yt j ops.size with c|c
   ·exact c
   ·have hl:pl.anc.length=ops.size:=by simpa using R
    unfold Pv.a idx at h;rw[yc,List.getElem?_eq_none ae]at h;simp at h
  refine⟨f,?_⟩;have c:=u (ops[j],j) (KV<|by simp[f]);simp only[zc,yq]at c;rcases yt i ops.size with d|d
  ·exact d
  ·have z:=c.1.1;have h9:idx pl.anc j<2^i:=Nat.lt_of_lt_of_le z (Nat.pow_le_pow_right ae d);unfold Pv.a at h;rw[Nat.testBit_lt_two_pow h9]at h;cases h
 refine⟨h0,ae,ae,fun j i h=>?_,fun j o e f I T=>?_,fun j i h=>?_,fun i j o o' g f D O J=>?_,fun i j o o' g f D hr=>?_,fun i k h=>?_,fun j k o o' t f M B D y r h=>?_,fun i j o o' g f D B=>?_,
  fun i j o o' g f hr K B W=>?_,fun i j o o' t g f J y=>?_⟩
 ·obtain⟨f,g⟩:=l j i h;have c:=u (ops[j],j) (KV<|by simp[f]);simp only[zc,zk,ym,zn,zr]at c;rcases c.1.2 i g with d|d
  ·rw[h]at d;cases d
  ·obtain⟨e,I,z⟩:=yg.1 d.1;simp only[zc,zn,Bz,w5]at z;exact⟨ops[j],e,by simp[f],by simpa using I,z.1,z.2⟩
 ·have c:=u (o,j)<|KV f;simp only[zc,zk,zn,zr,yq]at c;rcases c.2 e (by simpa using I)with d|d
  ·rw[T]at d;cases d
  omega
 ·obtain⟨f,g⟩:=l j i h;have c:=u (ops[j],j) (KV<|by simp[f]);simp only[zc,zk,ym,zn,zr,yq]at c;rcases c.1.2 i g with d|d
  ·rw[h]at d;cases d
  omega
 ·have:=(q i j o o' g f).1.1.1.1.1;simp_all
 ·have:=(q i j o o' g f).1.1.1.1.2;simp_all
 ·have r:(pl.s i,i)∈pl.sc.zipIdx:=by
   rw[List.mem_zipIdx_iff_getElem?];unfold Pv.s at h ⊢;rw[yc]at h ⊢;cases hg:pl.sc[i]? with
   |none=>rw[hg]at h;cases h
   |some x=>rfl
  have c:=zk.1 Y _ r;simp only[h]at c;split at c
  case h_2=>cases c
  rename_i o ok ho E;split at c
  case h_2=>cases c
  rename_i t y;simp only[zc,wj]at c;obtain⟨N,Z⟩:=XK y;exact⟨o,ok,t,ho,E,N,Z,c.1.1,c.1.2,c.2⟩
 ·have c:=(q j k o o' f M).1.1.1.2;have A:(C8 o||(pl.s j).isSome)=true:=by simpa using B
  rw[D,h,y]at c;have hc:(reads ops o').contains t=true:=by simpa using r
  simp only[zn]at A;simp only[hc,Bool.not_false,Bool.not_true,zz,or_false,Bool.true_eq_false]at c;rcases c with(c|c)|c
  ·exact wh A ae
  ·exact .inl (by simpa using c)
  ·obtain⟨⟨x,i⟩,G,d⟩:=yg.1 c;simp only[zc]at d;exact .inr ⟨i,x,qL G,d.1.1,d.1.2,d.2⟩
 ·have:=(q i j o o' g f).1.1.2;simp_all
 ·have c:=(q i j o o' g f).1.2;rw[hr,K,B]at c;simp only[and_self,forall_const,Bool.true_eq_false,false_or]at c;rcases c with c|c
  ·omega
  ·obtain⟨⟨x,k⟩,r,d⟩:=yg.1 c;simp only[zc,w5]at d;exact⟨k,x,qL r,d.1.1,d.1.2,d.2⟩
 ·have c:=(q i j o o' g f).2;rcases c with c|c
  ·omega
  ·rw[y]at c;simp only[zc,zr,zn,vc]at c;refine⟨c.1,fun r=>?_⟩;rcases c.2 with(d|d)|d
   ·have:(reads ops o').contains t=true:=by simpa using r
    rw[this]at d;cases d
   ·exact .inl d
   ·exact .inr d
theorem Ac0{ops:Array Oper}{pl:Pv}(c:Ji ops pl=true):pl.ord.length=ops.size:=by
 unfold Ji at c;grind
mutual
def V.beq:V->V->Bool
 | .bool a,.bool b=>a==b
 | .int k a,.int l b=>k==l&&a==b
 | .str a,.str b=>a==b
 | .nilp,.nilp=>true
 | .ptr a i,.ptr b j=>zd a b&&zd i j
 | .nils,.nils=>true
 | .sl a b c d e,.sl q b' o s r=>zd a q&&zd b b'&&zd c o&&zd d s&&zd e r
 | .esl,.esl=>true
 | .es0,.es0=>true
 | .junk,.junk=>true
 | .nilm,.nilm=>true
 | .map a,.map b=>zd a b
 | .yld a,.yld b=>zd a b
 | .nilf,.nilf=>true
 | .nili,.nili=>true
 | .fn f a b,.fn g c d=>f==g&&V.MM a c&&V.MM b d
 | .iface t x,.iface u y=>zd t u&&V.beq x y
 | .agg a,.agg b=>V.MM a b
 | .tup a,.tup b=>V.MM a b
 |_,_=>false
def V.MM:List V->List V->Bool
 |[],[]=>true
 |a::c,b::d=>V.beq a b&&V.MM c d
 |_,_=>false
end
mutual
theorem V.beq_eq:∀ {a b:V},V.beq a b=true->a=b:=by
 intro a b h;cases a<;>cases b<;>simp only[V.beq]at h<;>first
  |(cases h;done)
  |rfl
  |(simp only[zc,wj,Bz,w5]at h;first|(rfl)|(rfl)|(obtain⟨⟨⟨⟨rfl,rfl⟩,rfl⟩,rfl⟩,rfl⟩:=h;rfl))
  |skip
 case fn.fn f a b g c d=>
  simp only[zc,wj]at h;rw[h.1.1,V.II h.1.2,V.II h.2]
 case iface.iface t x u y=>
  simp only[zc,Bz,w5]at h;rw[h.1,V.beq_eq h.2]
 case agg.agg a b=>rw[V.II h]
 case tup.tup a b=>rw[V.II h]
theorem V.II:∀ {a b:List V},V.MM a b=true->a=b
 |[],[],_=>rfl
 |[],_::_,h=>by simp[V.MM]at h
 |_::_,[],h=>by simp[V.MM]at h
 |a::c,b::d,h=>by
  simp only[V.MM,zc]at h;rw[V.beq_eq h.1,V.II h.2]
end
structure Rc where
 i:Nat
 o:Oper
 f:Fr
 v:V
structure St where
 f:Fr
 h:H
 r:List Rc
def still(C:Ctx)(anc:Nat->Nat->Bool)(i:Nat)(h:H)(r:Rc):Bool:=
 anc i r.i||(match HN C r.f h r.o with
  |some (.val x _)=>V.beq x r.v
  |_=>false)
def Jk(C:Ctx)(call:D4)(ops:Array Oper)(anc:Nat->Nat->Bool)(i:Nat)(s:St):Option (V×St):=
 match ops[i]? with
 |none=>none
 |some o=>
  bif Bl s.f ops o then
   bif Fe o then
    match HN C s.f s.h o with
    |some (.val v _)=>match s.f.put o.dst v with
     |some c=>some (v,⟨c,s.h,bif S8 o then⟨i,o,s.f,v⟩::s.r else s.r⟩)
     |none=>none
    |_=>none
   else bif C8 o then
    match dal C s.f o with
    |some (ob,f)=>match s.f.put o.dst (f s.h.nx)with
     |some c=>some (f s.h.nx,⟨c,s.h.push ob,s.r⟩)
     |none=>none
    |none=>none
   else
    match EG C call s.f s.h o with
    |some (v,h')=>match s.f.put o.dst v with
     |some c=>bif s.r.all (still C anc i h')then some (v,⟨c,h',s.r⟩)else none
     |none=>none
    |none=>none
  else
   match s.f.put o.dst (.tup [])with
   |some c=>bif Df o then(bif s.r.all (still C anc i s.h)then some (.tup [],⟨c,s.h,s.r⟩)else none)else some (.tup [],⟨c,s.h,s.r⟩)
   |none=>none
def YL(C:Ctx)(call:D4)(ops:Array Oper)(anc:Nat->Nat->Bool):List Nat->St->Option St
 |[],s=>some s
 |i::d,s=>match Jk C call ops anc i s with
  |some (_,c)=>YL C call ops anc d c
  |none=>none
def J4(C:Ctx)(call:D4)(ops:Array Oper)(fr:Fr)(h:H):Option (Fr×H):=
 match YL C call ops (Fm ops).a (Fm ops).ord ⟨fr,h,[]⟩with
 |some s=>some (s.f,s.h)
 |none=>none
def Yw(C:Ctx)(call:D4)(ops:Array Oper)(fr:Fr)(h:H):Option (Fr×H):=
 bif Ji ops (Fm ops)then J4 C call ops fr h else none
def Ee:Code->Bool
 | .region _ ops dr=>bif dr then Ji ops (Fm ops)else true
 | .seq a b=>Ee a&&Ee b
 | .cond _ a b=>Ee a&&Ee b
 | .block _ b=>Ee b
 | .loop b=>Ee b
 | .scope b=>Ee b
 |_=>true
section
variable {C:Ctx}{P:Program}{call:D4}{ops:Array Oper}{p:Pl}{h:H}{w:World}{fr:Fr}{a:Act}
theorem Mk{f c:Fr}{d:Option Nat}{v:V}(h:f.put d v=some c):c.n=f.n/\(∀t,c.get t=if d=some t then v else f.get t)/\∀t,d=some t->t<f.n:=by
 unfold Fr.put at h;cases d with
 |none=>grind
 |some s=>
  simp only[H4]at h;by_cases e:s<f.n
  ·grind [Fr.get,PM.DZ]
  grind
theorem Eo{anc:Nat->Nat->Bool}{i:Nat}{s d:St}{v:V}(c:Jk C call ops anc i s=some (v,d)):∃o,ops[i]?=some o/\d.f.n=s.f.n/\(∀t,d.f.get t=if o.dst=some t then v else s.f.get t)/\(∀t,o.dst=some t->t<s.f.n)/\
  ((Bl s.f ops o=false/\v=.tup []/\d.h=s.h)\/
   (Bl s.f ops o=true/\
   ((Fe o=true/\HN C s.f s.h o=some (.val v s.h)/\d.h=s.h)\/
    (C8 o=true/\∃ob f,dal C s.f o=some (ob,f)/\v=f s.h.nx/\d.h=s.h.push ob)\/
    (Df o=true/\EG C call s.f s.h o=some (v,d.h)))))/\
  (∀r∈s.r,r∈d.r)/\(Fe o=true->S8 o=true->Bl s.f ops o=true->⟨i,o,s.f,v⟩∈d.r)/\
  (Df o=true->∀r∈s.r,still C anc i d.h r=true):=by
 unfold Jk at c;split at c
 case h_1=>cases c
 rename_i o A;refine⟨o,A,?_⟩;cases y:Bl s.f ops o with
 |false=>
  simp only[y,wg]at c;split at c
  case h_2=>cases c
  rename_i u hp;obtain⟨q,l,j⟩:=Mk hp;grind
 |true=>
  simp only[y,we]at c;cases e:Fe o with
  |true=>
   simp only[e,we]at c;split at c
   case h_2=>cases c
   rename_i v1 z x;split at c
   case h_2=>cases c
   rename_i u hp;obtain⟨rfl,rfl⟩:=c;obtain⟨q,l,j⟩:=Mk hp;obtain⟨v2,hv2⟩:=rd_val e x;refine⟨q,l,j,ah,fun r hr=>?_,fun _ E _=>?_,(by grind [V9])⟩
   ·grind
   grind
  |false=>
   simp only[e,wg]at c;cases g:C8 o with
   |true=>
    simp only[g,we]at c;split at c
    case h_2=>cases c
    split at c
    case h_2=>cases c
    rename_i u hp;obtain⟨rfl,rfl⟩:=c;obtain⟨q,l,j⟩:=Mk hp;exact⟨q,l,j,ah,fun r hr=>hr,(by simp),(by grind [V9])⟩
   |false=>
    simp only[g,wg]at c;split at c
    case h_2=>cases c
    rename_i v1 z D;split at c
    case h_2=>cases c
    rename_i u hp;obtain⟨q,l,j⟩:=Mk hp;cases B:s.r.all (still C anc i z)with
    |false=>grind
    |true=>
     simp only[B,we,zh,yf]at c;obtain⟨rfl,rfl⟩:=c;simp_all [Df]
theorem Pr{anc:Nat->Nat->Bool}:∀(L:List Nat) (s d:St),YL C call ops anc L s=some d->
  ∃(c:Nat->St) (e:Nat->V),c 0=s/\c L.length=d/\∀(q i:Nat),L[q]?=some i->Jk C call ops anc i (c q)=some (e q,c<|q+1)
 |[],s,d,h=>by
  cases h;exact⟨fun _=>s,fun _=>.nilp,rfl,rfl,(by simp)⟩
 |i::L,s,d,h=>by
  unfold YL at h;split at h
  case h_2=>cases h
  rename_i v s1 l;obtain⟨c,e,h0,o,g⟩:=Pr L s1 d h;refine⟨fun q=>match q with|0=>s|q+1=>c q,fun q=>match q with|0=>v|q+1=>e q,rfl,by omega,fun q j f=>?_⟩;grind
theorem vS{pl:Pv}(X:Ji ops pl=true){N:St}(hd:YL C call ops pl.a pl.ord ⟨fr,h,[]⟩=some N):
  ∃(v:Nat->V) (Hh:Nat->H) (F:Nat->Fr),Canon C call ops pl.a (idx pl.ord) (idx pl.pos) fr h v Hh F/\Hh ops.size=N.h/\F ops.size=N.f:=by
 have st:=gC X;have hl:=Ac0 X;obtain⟨D,W,h0,hn,hq⟩:=Pr pl.ord _ _ hd;have EG:∀q,q<ops.size->Jk C call ops pl.a (idx pl.ord q) (D q)=some (W q,D<|q+1):=by
  grind [idx]
 have O:∀q,q<=ops.size->(D q).f.n=fr.n:=by
  intro q;induction q with
  |zero=>grind
  |succ q U=>
   intro d;obtain⟨o,_,Y,_⟩:=Eo (EG q ae);omega
 have A:∀q l,q<=l->l<=ops.size->∀r∈(D q).r,r∈(D l).r:=by
  intro q l hle;induction l with
  |zero=>
   grind
  |succ l U=>
   intro d r hr;by_cases e:q=l+1
   ·grind
   ·obtain⟨o,_,_,_,_,_,g,_⟩:=Eo (EG l ae);exact g r (U ae ae r hr)
 refine⟨fun i=>W<|idx pl.pos i,fun q=>(D q).h,fun q=>(D q).f,⟨by simp[h0],by simp[h0],O,fun q d o B t=>?_,fun i o t B ht=>?_,fun i o B=>?_,fun i j o oj B T K J R Z hlt G=>?_⟩,by grind,by grind⟩
 ·obtain⟨o',s,_,Y,_⟩:=Eo<|EG q d;simp only[(st.ordp q d).2];grind
 ·have c:=(ze.1 B).1;have hp:=st.posp i c;obtain⟨o',s,_,_,g2,_⟩:=Eo<|EG _ hp.1;grind
 ·have c:=(ze.1 B).1;have hp:=st.posp i c;obtain⟨o',s,_,_,_,g3,_⟩:=Eo<|EG _ hp.1;simp_all
 ·have c:=(ze.1 B).1;have M:=(ze.1 T).1;have z:=st.posp i c;have u:=st.posp j M;obtain⟨o',s,_,_,_,_,_,g4,_⟩:=Eo<|EG _ u.1;rw[u.2,T]at s;cases s;have I:=A _ (idx pl.pos i) ae ae _<|g4 J R Z;obtain⟨o'',s,_,_,_,_,_,_,g5⟩:=Eo<|EG _ z.1;rw[z.2,B]at s;cases s;have E:=g5 K _ I;unfold still at E;rw[u.2]at E;rw[z.2,G]at E;split at E
  case h_2=>cases E
  rename_i x hx L;obtain⟨y,hy⟩:=rd_val J L;grind [V.beq_eq]
theorem Qw(g:Ji ops (Fm ops)=true)(r:C.Ok P)(c:call.Ok C P)(q:P.follows .mixedOrders=true)(hr:R p h w)(l:Gl C p)(i:CS p fr a){fr':Fr}{h':H}(f:J4 C call ops fr h=some (fr',h')){id:Nat}{ro:Option Nat}{j:Nat}{Q:Exit->Act->World->Prop}
  (o:∀p' d w',CS p' fr' d->Ext p h w p' h' w'->d.defers=a.defers->Q .normal d w'):(yk id ops true).wpIn (FW ro) j P Q a w:=by
 unfold J4 at f;split at f
 case h_2=>cases f
 rename_i s e;obtain⟨v,Hh,F,u,z,A⟩:=vS g e;refine rU r c q (gC g) u hr l i fun p' d w' x y t=>o p' d w' ?_ ?_ t
 ·grind
 grind
theorem jZ(q:C.Ok P)(c:call.Ok C P)(o:P.follows .mixedOrders=true)(hr:R p h w)(i:Gl C p)(g:CS p fr a){fr':Fr}{h':H}(f:Yw C call ops fr h=some (fr',h')){id:Nat}{ro:Option Nat}{e:Nat}{Q:Exit->Act->World->Prop}
  (j:∀p' d w',CS p' fr' d->Ext p h w p' h' w'->d.defers=a.defers->Q .normal d w'):(yk id ops true).wpIn (FW ro) e P Q a w:=by
 unfold Yw at f;cases l:Ji ops (Fm ops)with
 |false=>grind
 |true=>
  grind [Qw]
end
section
variable {P:Program}{F:Fence}{n:Nat}{b:Frame}{a:Act}{k:List Item}{cs:List Frame}{w:World}{Q:Exit->Act->World->Prop}
theorem EB{c:Code}:step P (lone (b.atR a (.code (.scope c)::k)) cs w)=.next (lone (b.atR a (.code c:: .inScope c::k)) cs w):=
 (by rfl)
theorem Th{c:Code}:step P (lone (b.atR a (.inScope c::k)) cs w)=.next (lone (b.atR a k) cs w):=
 (by rfl)
theorem Ld{c:Code}(h:c.wpIn F n P (Exit.noGoto Q) a w):(Code.scope c).wpIn F n P Q a w:=by
 intro b k cs j q hr;have h0:(lone (b.atR a (.code (.scope c)::k)) cs w).fenced P F:=fenced_calm q hr rfl;obtain⟨e,g,f,i,d⟩:=h b (.inScope c::k) cs j q hr;cases e with
 |normal=>exact⟨.normal,g,f,i,.head h0 EB<|StepsIn.trans d<|.one (fenced_calm q hr rfl) Th⟩
 |exit id=>
  have t:exitTo id (.inScope c::k)=exitTo id k:=by rfl
  exact⟨.exit id,g,f,i,fun s r=>.head h0 EB (d.1 s ah),
   fun o r=>let ⟨k₁,h1,h2⟩:=d.2 o ah;⟨k₁,h1,.head h0 EB h2⟩⟩
 |goto l=>exact i.elim
 |ret=>exact⟨_,g,f,i,.of_steps (.one h0 EB) d⟩
 |panic u=>exact⟨_,g,f,i,.of_steps (.one h0 EB) d⟩
 |outgrown=>exact⟨_,g,f,i,.of_steps (.one h0 EB) d⟩
end
structure X where
 e:DX
 fr:Fr
 h:H
 ds:List Nat
def UI(ro:Option Nat)(fr:Fr)(h:H)(ps:Array Tmp)(asg body:Code)(ds:List Nat):Option (Nat×H×List Nat):=
 match ro with
 |none=>some (h.nx+1,(h.push<|.defd true).push<|.loop ⟨.ready,none,fr,ps,asg,body,h.nx⟩,h.nx::ds)
 |some b=>match h.get b with
  |some (.loop l)=>some (h.nx,h.push<|.loop ⟨.ready,none,fr,ps,asg,body,l.db⟩,ds)
  |_=>none
def BO(C:Ctx)(call:D4)(ro:Option Nat)(ct:Bool):Nat->Code->Fr->H->List Nat->Option (List X)
 |0,_,_,_,_=>none
 |m+1,c,fr,h,ds=>
  match c with
  | .skip| .label _=>some [⟨.normal,fr,h,ds⟩]
  | .region _ ops dr=>bif dr then(match (bif ct then J4 C call ops fr h else Yw C call ops fr h)with
    |some (fr',h')=>some [⟨.normal,fr',h',ds⟩]
    |none=>none)
   else(match We C call ops ops.toList fr h with
    |some l=>some<|l.map fun x=>⟨.normal,x.1,x.2,ds⟩
    |none=>none)
  | .seq a b=>match BO C call ro ct m a fr h ds with
   |some l=>bl l fun x=>match x.e with
    | .normal=>BO C call ro ct m b x.fr x.h x.ds
    |_=>some [x]
   |none=>none
  | .cond x a b=>match ev C fr x with
   |some (.bool true)=>BO C call ro ct m a fr h ds
   |some (.bool false)=>BO C call ro ct m b fr h ds
   |_=>none
  | .block id b=>match BO C call ro ct m b fr h ds with
   |some l=>some<|l.map fun x=>match x.e with
    | .exit i=>bif zd i id then { x with e:=.normal }else x
    |_=>x
   |none=>none
  | .loop b=>match BO C call ro ct m b fr h ds with
   |some l=>bl l fun x=>match x.e with
    | .normal=>BO C call ro ct m (.loop b) x.fr x.h x.ds
    |_=>some [x]
   |none=>none
  | .exit i=>some [⟨.exit i,fr,h,ds⟩]
  | .ret=>some [⟨.ret,fr,h,ds⟩]
  | .scope b=>BO C call ro ct m b fr h ds
  | .rangeFunc g ps asg body=>match UI ro fr h ps asg body ds,ev C fr g with
   |some (b,j,d),some o=>match Je C j o [.yld b]with
    |some (.enter f args)=>match call (.fn f args) j with
     |some l=>bl l fun x=>match x.2.get b with
      |some (.loop ls)=>match ls.st,ls.pend with
       | .busy,_=>none
       |_,none=>some [⟨.normal,fr,x.2.put b<|.loop { ls with st:=.exhausted },d⟩]
       |_,some c=>BO C call ro false m c fr (x.2.put b<|.loop { ls with st:=.exhausted }) d
      |_=>none
     |none=>none
    |_=>none
   |_,_=>none
  |_=>none
def I7(p:Pl):List Nat->List Deferred->Prop
 |[],l=>l=[]
 |b::c,l=>∃r n l',p[b]?=some (r,n)/\l={ target:=.collected r,args:= #[] }::l'/\I7 p c l'
theorem I7.mono{p:Pl}(q:Pl):∀ {ds:List Nat} {l:List Deferred},I7 p ds l->I7 (p++q) ds l
 |[],_,h=>h
 |_b::_bs,_l,⟨r,n,l',e,d,c⟩=>⟨r,n,l',ah,d,c.mono q⟩
theorem I7.ext{p p':Pl}{h h':H}{w w':World}(e:Ext p h w p' h' w'){ds:List Nat}{l:List Deferred}(c:I7 p ds l):I7 p' ds l:=by
 obtain⟨q,rfl⟩:=e.pre;exact c.mono q
def Q8(p:Pl):Option Nat->Option Nat->Prop
 |none,none=>True
 |some b,some r=>∃n,p[b]?=some (r,n)
 |_,_=>False
theorem Q8.ext{p p':Pl}{h h':H}{w w':World}(e:Ext p h w p' h' w'){ro k:Option Nat}(c:Q8 p ro k):Q8 p' ro k:=by
 obtain⟨q,rfl⟩:=e.pre;cases ro with
 |none=>grind [Q8]
 |some b=>
  cases k with
  |none=>exact c
  |some r=>obtain⟨n,d⟩:=c;exact⟨n,ah⟩
theorem Ext.at{p p':Pl}{h h':H}{w w':World}(e:Ext p h w p' h' w'){b:Nat}{x:Nat×Nat}(c:p[b]?=some x):p'[b]?=some x:=by
 obtain⟨q,rfl⟩:=e.pre;grind
section
variable {C:Ctx}{P:Program}{call:D4}{ops:Array Oper}{p:Pl}{h:H}{w:World}{fr:Fr}{a:Act}
theorem KK(hr:R p h w)(t:CS p fr a){ro k:Option Nat}(c:Q8 p ro k){ps:Array Tmp}{asg body:Code}{ds f:List Nat}(g:I7 p ds a.defers){b:Nat}{e:H}
  (d:UI ro fr h ps asg body ds=some (b,e,f)) (fn:FuncId):∃l mark u p1 n,(Instr.enterLoop fn a.tmps ps asg body k).run P w=.ok (l,mark) u/\Ext p h w p1 e u/\p1[b]?=some (l,n)/\I7 p1 f (mark++a.defers):=by
 unfold UI at d;cases ro with
 |none=>
  cases k with
  |some k=>exact c.elim
  |none=>
   obtain⟨rfl,rfl,rfl⟩:=d;have y:=Ext.push (n:=0) hr (o:=.defd true) (x:=.deferred<|some []) (by rfl);have j:(p++[(w.heap.size,0)])[h.nx]?=some (w.heap.size,0):=by rw[<-hr.len];simp
   have i:Ff (p++[(w.heap.size,0)]) fr a.tmps:=Ff.mono _ t;have s:=Ext.push (n:=0) y.rel (o:=.loop ⟨.ready,none,fr,ps,asg,body,h.nx⟩) (x:=.loop { state:=.ready,pending:=none,fn,tmps:=a.tmps,params:=ps,assign:=asg,body,defers:=w.heap.size })
    ⟨fn,a.tmps,_,_,i,j,rfl⟩
   refine⟨_,_,_,_,0,run_enterLoop_outer fn a.tmps ps asg body,y.trans s,?_,?_⟩
   ·have:h.nx+1=(p++[(w.heap.size,0)]).length:=by simp[hr.len]
    grind
   ·exact⟨w.heap.size,0,a.defers,ah,rfl,I7.mono _<|I7.mono _ g⟩
 |some z=>
  cases k with
  |none=>exact c.elim
  |some k=>
   simp only at d;split at d
   case h_2=>cases d
   rename_i l0 q;obtain⟨rfl,rfl,rfl⟩:=d;obtain⟨n0,hn0⟩:=c;obtain⟨r',n',x,e,h2,f0,tmps,r,m,h3,h4,rfl⟩:=hr.obj _ _ q;rw[hn0]at e;cases e;have s:=Ext.push (n:=0) hr (o:=.loop ⟨.ready,none,fr,ps,asg,body,l0.db⟩) (x:=.loop { state:=.ready,pending:=none,fn,tmps:=a.tmps,params:=ps,assign:=asg,body,defers:=r })
    ⟨fn,a.tmps,_,_,t,h4,rfl⟩
   refine⟨w.heap.size,[],_,_,0,?_,s,?_,?_⟩
   ·unfold Instr.enterLoop;simp only[z7,run_getLoop h2,run_newObj_alloc,zt,Sem.run_pure,World.alloc]
   ·rw[<-hr.len];simp
   ·exact I7.mono _ g
theorem Result.Zz{α d:Type}{r:Result α}{f:α->World->Result d}{b:d}{w':World}(h:r.andThen f=.ok b w'):∃a c,r=.ok a c/\f a c=.ok b w':=by
 cases r with
 |ok a c=>exact⟨a,c,rfl,h⟩
 |halt x c=>simp_all
theorem MI(hC:C.Ok P)(E:call.Ok C P)(hm:P.follows .mixedOrders=true){ro k:Option Nat}{n:Nat}:∀(m:Nat) (ct:Bool) (c:Code) {fr:Fr} {h:H} {ds:List Nat} {L:List X},(ct=true->Ee c=true)->BO C call ro ct m c fr h ds=some L->
  ∀(p:Pl) (a:Act) (w:World) (Q:Exit->Act->World->Prop),R p h w->Gl C p->CS p fr a->I7 p ds a.defers->Q8 p ro k->
   (∀x∈L,∀p' Y w',CS p' x.fr Y->Ext p h w p' x.h w'->I7 p' x.ds Y.defers->Q x.e.VT Y w')->
   c.wpIn (FW k) n P Q a w/\∀b,c=.loop b->Code.roundsIn (FW k) n P b Q m a w
 |0,ct,c,fr,h,ds,L,I,o=>by cases o
 |m+1,ct,c,fr,h,ds,L,I,o=>by
  intro p a w Q hr M J B D G;have ih:∀ {ct:Bool} (c:Code) {fr:Fr} {h:H} {ds:List Nat} {L:List X},(ct=true->Ee c=true)->BO C call ro ct m c fr h ds=some L->∀ {p:Pl} {a:Act} {w:World},R p h w->Gl C p->CS p fr a->I7 p ds a.defers->Q8 p ro k->
    ∀ {Q:Exit->Act->World->Prop},(∀x∈L,∀p' Y w',CS p' x.fr Y->Ext p h w p' x.h w'->I7 p' x.ds Y.defers->Q x.e.VT Y w')->
   c.wpIn (FW k) n P Q a w/\∀b,c=.loop b->Code.roundsIn (FW k) n P b Q m a w:=fun {ct} c {fr h ds L} I o {p a w} hr M J B D {Q} G=>MI hC E hm m ct c I o p a w Q hr M J B D G
  cases c with
  |skip=>cases o;exact⟨wpIn_skip<|G _ (zi.2 rfl) p a w J (ya hr) B,(by simp)⟩
  |label l=>cases o;exact⟨wpIn_label<|G _ (zi.2 rfl) p a w J (ya hr) B,(by simp)⟩
  |region id ops dr=>
   refine⟨?_,(by simp)⟩;simp only[BO]at o;cases dr with
   |true=>
    simp only[we]at o;split at o
    case h_2=>cases o
    rename_i fr1 h1 Z;cases o;refine(show ∀ {Q':Exit->Act->World->Prop},(∀p' Y w',CS p' fr1 Y->Ext p h w p' h1 w'->Y.defers=a.defers->Q' .normal Y w')->(yk id ops true).wpIn (FW k) n P Q' a w from fun {Q'} U=>?_) fun p1 a1 K q j t=>G _ (zi.2 rfl) p1 a1 K q j<|t▸B.ext j
    cases ct with
    |false=>grind [jZ]
    |true=>exact Qw (by simpa [Ee]using I rfl) hC E hm hr M J Z U
   |false=>
    simp only[wg]at o;split at o
    case h_2=>cases o
    rename_i l Z;cases o;exact Z5 hC E hr M J Z fun x hx p1 a1 K q j t=>G _ (yu.2 ⟨x,hx,rfl⟩) p1 a1 K q j<|t▸B.ext j
  |seq x y=>
   refine⟨wpIn_seq ?_,(by simp)⟩;simp only[BO]at o;split at o
   case h_2=>cases o
   rename_i l Z;refine(ih x (by grind [Ee]) Z hr M J B D fun z hz p1 a1 K q j t=>?_).1;obtain⟨L1,N,g2⟩:=J3 o z hz;cases A:z.e with
   |normal=>
    simp only[A]at N;exact(ih y (by grind [Ee]) N j.rel (M.ext j) q t (D.ext j) fun u hu p2 a2 w2 O he2 T=>G u (g2 u hu) p2 a2 w2 O (j.trans he2) T).1
   |exit i=>
    simp only[A,zh]at N;subst N;have:=G z ah p1 a1 K q j t;rw[A]at this;exact this
   |ret=>
    simp only[A,zh]at N;subst N;have:=G z ah p1 a1 K q j t;rw[A]at this;exact this
  |cond x b1 b2=>
   refine⟨?_,(by simp)⟩;simp only[BO]at o;split at o
   case h_1=>
    rename_i hx;have hv:=Bj M J hx;grind [Ag,wpIn_cond_true,Ee]
   case h_2=>
    rename_i hx;have hv:=Bj M J hx;grind [Ag,wpIn_cond_false,Ee]
   grind
  |block id b=>
   refine⟨wpIn_block ?_,(by simp)⟩;simp only[BO]at o;split at o
   case h_2=>cases o
   rename_i l Z;cases o;refine(ih b (fun e=>by have:=I e;simpa [Ee]using this) Z hr M J B D fun z hz p1 a1 K q j t=>?_).1;have U:=G _ (yu.2 ⟨z,hz,rfl⟩) p1 a1 K;cases A:z.e with
   |normal=>
    simp only[A]at U;exact U q j t
   |ret=>
    simp only[A]at U;exact U q j t
   |exit i=>
    simp only[A,Bz]at U;by_cases ei:i=id
    ·simp only[ei,decide_true,we]at U;simp only[DX.VT,Exit.inBlock,ei,wk];exact U q j t
    ·simp only[ei,decide_false,wg,A]at U;simp only[DX.VT,Exit.inBlock,ei,vf];exact U q j t
  |loop b=>
   have key:Code.roundsIn (FW k) n P b Q (m+1) a w:=by
    rw[roundsIn_succ];simp only[BO]at o;split at o
    case h_2=>cases o
    rename_i l Z;refine(ih b (fun e=>by have:=I e;simpa [Ee]using this) Z hr M J B D fun z hz p1 a1 K q j t=>?_).1;obtain⟨L1,N,g2⟩:=J3 o z hz;cases A:z.e with
    |normal=>
     simp only[A]at N;exact(ih (.loop b) I N j.rel (M.ext j) q t (D.ext j) fun u hu p2 a2 w2 O he2 T=>G u (g2 u hu) p2 a2 w2 O (j.trans he2) T).2 b rfl
    |exit i=>
     simp only[A,zh]at N;subst N;have:=G z ah p1 a1 K q j t;rw[A]at this;exact this
    |ret=>
     simp only[A,zh]at N;subst N;have:=G z ah p1 a1 K q j t;rw[A]at this;exact this
   grind [wpIn_loop_rounds]
  |exit i=>cases o;exact⟨wpIn_exit<|G _ (zi.2 rfl) p a w J (ya hr) B,(by simp)⟩
  |ret=>cases o;exact⟨wpIn_ret<|G _ (zi.2 rfl) p a w J (ya hr) B,(by simp)⟩
  |scope b=>
   refine⟨Ld ?_,(by simp)⟩;simp only[BO]at o;refine(ih b (fun e=>by have:=I e;simpa [Ee]using this) o hr M J B D fun z hz p1 a1 K q j t=>?_).1;have h1:=G z hz p1 a1 K q j t;cases A:z.e<;>rw[A]at h1<;>exact h1
  |rangeFunc g ps asg body=>
   refine⟨wpIn_rangeFunc fun fn _=>?_,(by simp)⟩;simp only[BO]at o;split at o
   case h_2=>cases o
   rename_i b h1 ds1 g' hen hgv;split at o
   case h_2=>cases o
   rename_i f args hdc;split at o
   case h_2=>cases o
   rename_i l hcl;obtain⟨r,mark,K,p1,nb,q1,q2,q3,q4⟩:=KK (P:=P) hr J D B hen fn;have hyld:AB p1 [.yld b] (#[Value.func (.yield r) #[] #[]]).toList:=by
    simp only[BE,KO,ve];simp only[Ag];grind
   obtain⟨args',s1,s2⟩:=NS hC q2.rel (M.ext q2) (q2.rR<|Bj M J hgv) hyld hdc;rw[z7]at s1;obtain⟨d,w1',s3,s4⟩:=Result.Zz s1;refine⟨r,mark,K,d,w1',f,args',K,q1,?_,fun _ _=>trivial,s4,(by grind [FW,yb]),aX.2<|(E.fn f args h1 l hcl p1 K args' q2.rel (M.ext q2) s2).mono ?_⟩
   ·grind [resolve,Act.eval]
   ·rintro e w2 ⟨v,h2,v',p2,hmem,rfl,k1,k2⟩;obtain⟨L1,t1,t2⟩:=J3 o (v,h2) hmem;split at t1
    case h_2=>cases t1
    rename_i ls hls;obtain⟨r',n',x,u1,u2,f0,tmps,rd,md,u3,u4,rfl⟩:=k2.rel.obj _ _ hls;have hpb:=k2.at q3;rw[hpb]at u1;cases u1;have hbusy:ls.st≠ .busy:=by
     grind
    obtain⟨W,hW,hput⟩:∃W,(Instr.endLoop r).run P w2=.ok ls.pend W/\Ext p2 h2 w2 p2 (h2.put b<|.loop { ls with st:=.exhausted }) W:=
     ⟨_,run_endLoop u2 hbusy,Ext.put k2.rel hls hpb (o':=.loop { ls with st:=.exhausted }) (x':=.loop { state:=.exhausted,pending:=ls.pend,fn:=f0,tmps,params:=ls.ps,assign:=ls.asg,body:=ls.body,defers:=rd }) ⟨f0,tmps,rd,md,u3,u4,rfl⟩ rfl rfl rfl rfl⟩
    have hex:=q2.trans<|k2.trans hput;refine⟨ls.pend,W,hW,?_⟩;have O:CS p2 fr { a with defers:=mark++a.defers }:=CS.ext (a:={ a with defers:=mark++a.defers }) J<|q2.trans k2;have T:I7 p2 ds1 (mark++a.defers):=I7.ext k2 q4;split at t1
    case h_1=>cases t1
    case h_2=>
     rename_i hpe _;cases t1;simp only[hpe];exact G _ (t2 _<|zi.2 rfl) p2 _ _ O hex T
    case h_3=>
     rename_i c hpe _;simp only[hpe];exact(ih c (by simp) t1 hput.rel (M.ext hex) O T (D.ext hex) fun u hu p3 a3 w3 hf3 he3 hd3=>G u (t2 u hu) p3 a3 w3 hf3 (hex.trans he3) hd3).1
  |goto l=>simp[BO]at o
  |refuse s=>simp[BO]at o
end
section
variable {C:Ctx}{P:Program}{p:Pl}{h:H}{w:World}{fr:Fr}{a:Act}
def dP(C:Ctx)(fr:Fr)(h:H):ResultVar->Option V
 | .tmp t=>some<|fr.get t
 | .cell a t=>F4 C.T h t<|fr.get a
def Qx(C:Ctx)(fr:Fr)(h:H):List ResultVar->Option (List V)
 |[]=>some []
 |r::c=>match dP C fr h r,Qx C fr h c with
  |some v,some vs=>some (v::vs)
  |_,_=>none
def S1(C:Ctx)(fr:Fr)(h:H)(c:List ResultVar):Option V:=
 match Qx C fr h c with
 |some [v]=>some v
 |some vs=>some<|.tup vs
 |none=>none
def AaH(a:Act):ResultVar->Sem Value
 | .tmp t=>pure<|a.tmps.getD t undef
 | .cell x t=>do loadVar t (<-asAddr (a.tmps.getD x undef))
theorem ZY(fn:Func)(a:Act):results fn a.tmps=(do let vs<-fn.results.mapM (AaH a);pure (if h:vs.size=1 then vs[0]else .tuple vs)):=by
 rfl
theorem zG(j:C.T.Ok P)(hr:R p h w)(f:CS p fr a){r:ResultVar}{v:V}(d:dP C fr h r=some v):
  ∃v',(AaH a r).run P w=.ok v' w/\Ag p v v':=by
 cases r with
 |tmp t=>cases d;exact⟨_,rfl,f.2 t⟩
 |cell x t=>
  simp only[dP]at d;obtain⟨v',g,l⟩:=X3 (P:=P) j hr (f.2 x) d;refine⟨v',?_,l⟩;have hp:∃b i,fr.get x=.ptr b i:=by
   unfold F4 at d;grind
  obtain⟨b,i,e⟩:=hp;have c:=f.2 x;rw[e]at c;obtain⟨r,n,_,c⟩:=c;rw[c]at g;simp only[AaH,c];exact g
theorem WG(g:C.T.Ok P)(hr:R p h w)(f:CS p fr a):∀ {e:List ResultVar} {vs:List V},Qx C fr h e=some vs->
  ∃c:List Value,(e.mapM<|AaH a).run P w=.ok c w/\AB p vs c
 |[],vs,d=>by cases d;simp
 |r::e,vs,d=>by
  unfold Qx at d;split at d
  case h_2=>cases d
  rename_i v i j l;cases d;obtain⟨v',o,q⟩:=zG (P:=P) g hr f j;obtain⟨c,g3,g4⟩:=WG g hr f l;simp_all
theorem AbG(l:C.T.Ok P)(hr:R p h w)(j:CS p fr a){fn:Func}{v:V}(e:S1 C fr h fn.results.toList=some v):∃v',(results fn a.tmps).run P w=.ok v' w/\Ag p v v':=by
 unfold S1 at e;cases i:Qx C fr h fn.results.toList with
 |none=>grind
 |some vs=>
  obtain⟨c,o,g⟩:=WG (P:=P) l hr j i;have s:=g.length;have d:(results fn a.tmps).run P w=.ok (if h:c.toArray.size=1 then c.toArray[0]else .tuple c.toArray) w:=by
   grind [ZY,z7,Array.mapM_eq_mapM_toList,Sem.run_map,zt,Sem.run_pure]
  refine⟨_,d,?_⟩;simp only[i]at e;cases vs with
  |nil=>
   grind [Ag]
  |cons x f=>
   cases f with
   |nil=>
    obtain⟨y,rfl,r⟩:=g.one;grind
   |cons q f=>
    cases e;rw[dif_neg ah];simp_all [Ag]
def XL:List V->Nat->PM V->PM V
 |[],_,m=>m
 |v::vs,i,m=>XL vs (i+1)<|m.set i<|some v
def O8(n:Nat)(args:List V):Fr:=⟨args.length+(n-args.length),XL args 0 .leaf⟩
theorem Oz:∀(vs:List V) (i:Nat) (m:PM V) (t:Nat),(XL vs i m).get t=if i<=t/\t<i+vs.length then vs[t-i]? else m.get t
 |[],i,m,t=>by simp[XL];omega
 |v::vs,i,m,t=>by
  unfold XL;rw[Oz vs (i+1) _ t];by_cases e:t=i
  ·subst e;rw[wc ae,wd<|by simp];simp
  ·by_cases c:i+1<=t/\t<i+1+vs.length
   ·grind
   ·rw[wc c,wc ah];simp[e]
theorem xY{args:List V}{args':Array Value}(e:AB p args args'.toList)(n:Nat):CS p (O8 n args) { tmps:=args'++yj (n-args'.size) undef,defers:=[] }:=by
 have f:=e.length;simp at f;refine⟨by simp[O8,f],fun t=>?_⟩;unfold O8 Fr.get;rw[Oz];by_cases g:t<args.length
 ·rw[wd ae];obtain⟨u,l,j⟩:=e.get (i:=t) (d:=args[t]) (by simp[g]);have c:args'[t]?=some u:=ah
  simp only[Nat.sub_zero,List.getElem?_eq_getElem g,Option.getD_some];rw[zq,Array.getElem?_append_left ae,c];exact j
 ·have:(args'++yj (n-args'.size) undef).getD t undef=undef:=by
   rw[zq,Array.getElem?_append_right ae];grind
  simp_all [Ag,undef]
def HW:List Nat->H->Option H
 |[],h=>some h
 |b::c,h=>match h.get b with
  |some (.defd true)=>HW c<|h.put b<|.defd false
  |_=>none
theorem Uc{fn:Func}{tmps:Array Value}{n:Nat}:∀ {ds:List Nat} {l:List Deferred} {p:Pl} {h:H} {w:World} {g:H},I7 p ds l->R p h w->HW ds h=some g->
  ∃e,Ext p h w p g e/\∀f:Ending->World->Prop,(∃v,(results fn tmps).run P e=.ok v e/\f (.returned v) e)->LeavesInM yb n P fn tmps f l .returning w
 |[],l,p,h,w,g,j,hr,d=>by
  cases d;cases (show l=[]from j);exact⟨w,ya hr,fun f hR=>hR⟩
 |b::q,l,p,h,w,g,j,hr,d=>by
  unfold HW at d;split at d
  case h_2=>cases d
  rename_i o;obtain⟨r,m,l',hp,rfl,i⟩:=j;obtain⟨r',m',x,k1,k2,k3⟩:=hr.obj _ _ o;rw[hp]at k1;cases k1;subst k3;have c:=Ext.put hr o hp (o':=.defd false) (x':=.deferred none) (by rfl) (w':=w.putObj r<|.deferred none) rfl rfl rfl rfl;obtain⟨e,g1,g2⟩:=Uc (fn:=fn) (tmps:=tmps) (n:=n) i c.rel d;exact⟨e,c.trans g1,fun f hR=>⟨by simp,.inl ⟨r,_,rfl,run_takeDeferred k2,g2 f hR⟩⟩⟩
def Ur(C:Ctx)(m:Nat)(call:D4)(b:Nat)(ls:LS)(fr:Fr)(h:H):Option (List<|V×H):=
 match BO C call (some b) false m ls.asg fr h []with
 |some l=>bl l fun x=>match x.e,x.h.get b with
  | .normal,some (.loop l1)=>match l1.st with
   | .ready=>match BO C call (some b) false m ls.body x.fr (x.h.put b<|.loop { l1 with st:=.busy }) x.ds with
    |some d=>bl d fun y=>match y.h.get b with
     |some (.loop c)=>match y.e with
      | .normal=>some [(.bool true,y.h.put b<|.loop { c with st:=.ready,pend:=none })]
      | .ret=>some [(.bool false,y.h.put b<|.loop { c with st:=.done,pend:=some .ret })]
      | .exit i=>some [(.bool false,y.h.put b<|.loop { c with st:=.done,pend:=some (.exit i) })]
     |_=>none
    |none=>none
   |_=>none
  |_,_=>none
 |none=>none
mutual
def MW:V->List Nat
 | .ptr b _| .sl b _ _ _ _| .map b| .yld b=>[b]
 | .fn _ a b=>Ke a++Ke b
 | .iface _ v=>MW v
 | .agg l| .tup l=>Ke l
 |_=>[]
def Ke:List V->List Nat
 |[]=>[]
 |v::vs=>MW v++Ke vs
end
def AcI:O->List Nat
 | .cells cs _ _=>Ke cs
 | .map es _=>es.flatMap fun e=>MW e.1++MW e.2.1
 |_=>[]
def reach(h:H)(n0:Nat):Nat->List Nat->List Nat->List Nat
 |0,_,acc=>acc
 |_+1,[],acc=>acc
 |f+1,b::c,acc=>bif zj b n0||acc.any (zd b)then reach h n0 f c acc
  else match h.get b with
   |some o=>reach h n0 f (AcI o++c) (b::acc)
   |none=>reach h n0 f c acc
def P0(Sx:List Nat):Nat->Nat->H->H
 |0,_,h=>h
 |f+1,b,h=>P0 Sx f (b+1)<|bif Sx.any (zd b)then h else h.kill b
def AeJ:O->Bool
 | .loop l=>match l.st with| .exhausted=>true|_=>false
 |_=>false
def XV:Option O->Option O
 |some o=>bif AeJ o then none else some o
 |none=>none
def U8:PM O->PM O
 | .leaf=>.leaf
 | .node l v r=>.node (U8 l) (XV v)<|U8 r
theorem Mp:∀(q:IA) (m:PM O),q.get (U8 m)=XV (q.get m)
 |IA.here,PM.leaf=>rfl
 |IA.l _,PM.leaf=>rfl
 |IA.r _,PM.leaf=>rfl
 |IA.here,PM.node _ _ _=>rfl
 |IA.l q,PM.node l _ _=>Mp q l
 |IA.r q,PM.node _ _ r=>Mp q r
def H.tT(h:H):H:=⟨U8 h.m,h.nx⟩
theorem WS{p:Pl}{h:H}{w:World}(hr:R p h w):Ext p h w p h.tT w:=by
 have sub:∀b o,h.tT.get b=some o->h.get b=some o:=by
  intro b o c;have:h.tT.get b=XV (h.get b):=Mp _ _;rw[this]at c;cases g:h.get b with
  |none=>rw[g]at c;cases c
  |some x=>
   grind [XV]
 refine⟨(by simp),⟨hr.len,fun b o c=>hr.obj b o<|sub b o c,fun b b' o o' r n n' c f=>hr.inj b b' o o' r n n' (sub b o c) ah⟩,Nat.le_refl _,(by simp),fun r q=>?_,rfl,rfl,rfl,fun r d j=>⟨rfl,?_⟩⟩
 ·grind [Im]
 ·obtain⟨b,n,cs,t,fz,e,l,i⟩:=j;refine .inl ⟨b,n,cs,t,fz,?_,l,i⟩;rw[show h.tT.get b=XV (h.get b)from Mp _ _,e];rfl
def gcO(n0:Nat)(x:V×H):V×H:=(x.1,P0 (reach x.2 n0 1000 (MW x.1) []) (x.2.nx-n0) n0 x.2.tT)
def kP:List (V×V×Nat)->List (V×V×Nat)->Bool
 |[],[]=>true
 |(a,b,c)::l,(e,b',d)::l'=>V.beq a e&&V.beq b b'&&zd c d&&kP l l'
 |_,_=>false
def RB:List Nat->List Nat->Bool
 |[],[]=>true
 |a::l,b::l'=>zd a b&&RB l l'
 |_,_=>false
def Aen:O->O->Bool
 | .cells cs t fz,.cells cs' j fz'=>V.MM cs cs'&&zd t j&&zd fz.1 fz'.1&&zd fz.2 fz'.2
 | .map es c,.map d g=>kP es d&&zd c g
 | .siter s n,.siter f n'=>s==f&&zd n n'
 | .miter none a l b,.miter none e l' b'=>zd a e&&RB l l'&&zd b b'
 | .miter (some m) a l b,.miter (some i) e l' b'=>zd m i&&zd a e&&RB l l'&&zd b b'
 | .defd a,.defd b=>a==b
 |_,_=>false
def Ud:Option O->Option O->Bool
 |none,none=>true
 |some a,some b=>Aen a b
 |_,_=>false
def Ri:PM O->PM O->Bool
 | .leaf,.leaf=>true
 | .node l v r,.node l' v' c=>Ud v v'&&Ri l l'&&Ri r c
 |_,_=>false
def fB(x y:V×H):Bool:=V.beq x.1 y.1&&zd x.2.nx y.2.nx&&Ri x.2.m y.2.m
def dedup:List (V×H)->List (V×H)
 |[]=>[]
 |x::l=>let r:=dedup l;bif r.any (fB x)then r else x::r
def Sv(n0:Nat):List (V×H)->List (V×H)
 |[]=>[]
 |[x]=>[x]
 |l=>dedup<|l.map<|gcO n0
theorem eB:∀ {a b:List (V×V×Nat)},kP a b=true->a=b
 |[],[],_=>rfl
 |[],_::_,h=>by simp[kP]at h
 |_::_,[],h=>by simp[kP]at h
 |(a,b,c)::l,(e,b',d)::l',h=>by
  simp only[kP,zc]at h;rw[V.beq_eq h.1.1.1,V.beq_eq h.1.1.2,zf h.1.2,eB h.2]
theorem Rx:∀ {a b:List Nat},RB a b=true->a=b
 |[],[],_=>rfl
 |[],_::_,h=>by simp[RB]at h
 |_::_,[],h=>by simp[RB]at h
 |a::l,b::l',h=>by
  simp only[RB,zc]at h;rw[zf h.1,Rx h.2]
theorem eK{a b:O}(h:Aen a b=true):a=b:=by
 unfold Aen at h;split at h
 ·grind [V.II,zf]
 ·grind [eB,zf]
 ·simp_all
 ·grind [zf,Rx]
 ·grind [zf,Rx]
 ·grind
 grind
theorem SB:∀ {a b:PM O},Ri a b=true->a=b
 | .leaf,.leaf,_=>rfl
 | .leaf,.node _ _ _,h=>by simp[Ri]at h
 | .node _ _ _,.leaf,h=>by simp[Ri]at h
 | .node l v r,.node l' v' c,h=>by
  simp only[Ri,zc]at h;rw[SB h.1.2,SB h.2];congr 1;cases v<;>cases v'<;>first|rfl|exact wi some (eK h.1.1)|(simp[Ud]at h)
theorem vL{x y:V×H}(h:fB x y=true):x=y:=by
 simp only[fB,zc]at h;obtain⟨v,m,n⟩:=x;obtain⟨v',m',n'⟩:=y;grind [V.beq_eq,zf,SB]
theorem NY:∀ {l:List (V×H)} {x:V×H},x∈l->x∈dedup l
 |a::l,x,h=>by
  unfold dedup;simp only;cases c:(dedup l).any (fB a)with
  |true=>
   rcases yp.1 h with rfl|h
   ·grind [vL]
   ·exact NY h
  |false=>
   rcases yp.1 h with rfl|h
   ·simp
   ·exact List.mem_cons_of_mem _<|NY h
theorem Kc(Sx:List Nat):∀(f b:Nat) {p:Pl} {h:H} {w:World},R p h w->Ext p h w p (P0 Sx f b h) w
 |0,_,_,_,_,hr=>ya hr
 |f+1,b,p,h,w,hr=>by
  unfold P0;cases Sx.any (zd b)with
  |true=>exact Kc Sx f (b+1) hr
  |false=>exact(Ext.kill hr b).trans<|Kc Sx f (b+1)<|hr.kill b
theorem HX.merge{l:List (V×H)}{n0:Nat}{e:Ending}{w':World}(i:HX p h w l e w'):HX p h w (Sv n0 l) e w':=by
 obtain⟨v,h',v',p',d,g,f,c⟩:=i;unfold Sv;split
 ·cases d
 ·exact⟨v,h',v',p',d,g,f,c⟩
 ·exact⟨v,(gcO n0 (v,h')).2,v',p',NY<|yu.2 ⟨_,d,rfl⟩,g,f,c.trans<|(WS c.rel).trans<|Kc _ _ _ (WS c.rel).rel⟩
def Bp(C:Ctx):Nat->D4
 |0=>fun _ _=>none
 |n+1=>fun c h=>
  match c with
  | .rnd b ls fr=>Ur C n (Bp C n) b ls fr h
  | .fn f args=>
   match C.spec f with
   |some q=>match q args h with
    |some x=>some [x]
    |none=>none
   |none=>
    match C.fn f with
    |none=>none
    |some i=>
     match BO C (Bp C n) none i.cert n i.body (O8 i.ntmps args) h []with
     |none=>none
     |some l=>match (bl l fun x=>match x.e with
      | .exit _=>none
      |_=>match HW x.ds x.h with
       |some d=>match S1 C x.fr d i.results.toList with
        |some v=>some [(v,d)]
        |none=>none
       |none=>none)with
      |some r=>some<|bif C.mg then Sv h.nx r else r
      |none=>none
theorem OZ(hr:R p h w){b r n:Nat}{ls:LS}(d:h.get b=some (.loop ls))(hp:p[b]?=some (r,n)):
  ∃rec:Loop,w.heap[r]?=some (.loop rec)/\rec.state=ls.st/\rec.pending=ls.pend/\∀(st:LoopState) (c:Option Code),Ext p h w p (h.put b<|.loop { ls with st:=st,pend:=c }) (w.putObj r<|.loop { rec with state:=st,pending:=c }):=by
 obtain⟨i,n',x,u1,u2,f0,tmps,rd,e,g,f,rfl⟩:=hr.obj _ _ d;rw[hp]at u1;cases u1;exact⟨_,u2,rfl,rfl,fun st c=>Ext.put hr d hp (o':=.loop { ls with st:=st,pend:=c }) ⟨f0,tmps,rd,e,g,f,rfl⟩ rfl rfl rfl rfl⟩
theorem Oi(J:C.Ok P){call:D4}(d:call.Ok C P)(G:P.follows .mixedOrders=true){b:Nat}{ls:LS}{l:List (V×H)}{k m r:Nat}(q:Ur C r call b ls fr h=some l){f:FuncId}{tmps:Array Value}
  (hr:R p h w) (E:Gl C p) (hp:p[b]?=some (k,m)) (T:Ff p fr tmps):RoundIn yb 0 P k f tmps ls.asg ls.body w (HX p h w l):=by
 unfold Ur at q;split at q
 case h_2=>cases q
 rename_i L Y;refine roundIn_of_wpIn trivial ?_;refine(MI (k:=some k) (n:=0) J d G r false ls.asg (by simp) Y p { tmps:=tmps,defers:=[] } w _ hr E T rfl ⟨m,hp⟩ fun x M p1 a1 K B g s=>?_).1;obtain⟨L1,j,g2⟩:=J3 q x M;split at j
 case h_2=>cases j
 rename_i l1 D u;split at j
 case h_2=>cases j
 rename_i z;split at j
 case h_2=>cases j
 rename_i L2 t;rw[D];obtain⟨rec,q1,O,q3,Z⟩:=OZ g.rel u<|g.at hp;refine⟨_,run_beginRound q1<|O.trans z,?_⟩;have o:Ext p1 x.h K p1 (x.h.put b<|.loop { l1 with st:=.busy }) (K.putObj k<|.loop { rec with state:=.busy }):=by
  grind
 have ex:=g.trans o;refine(MI (k:=some k) (n:=0) J d G r false ls.body (by simp) t p1 a1 _ _ o.rel (E.ext ex) B s ⟨m,g.at hp⟩ fun y W p2 a2 w2 U c X=>?_).1;obtain⟨L3,t1,t2⟩:=J3 j y W;split at t1
 case h_2=>cases t1
 rename_i l3 A;obtain⟨I,s1,s2,s3,s4⟩:=OZ c.rel A<|c.at (g.at hp);cases N:y.e with
 |normal=>
  exact⟨_,_,run_endRound none s1,.bool true,_,.bool true,p2,ah,rfl,by rfl,ex.trans<|c.trans<|s4 .ready none⟩
 |ret=>
  exact⟨_,_,run_endRound (some .ret) s1,.bool false,_,.bool false,p2,ah,rfl,by rfl,ex.trans<|c.trans<|s4 .done<|some .ret⟩
 |exit i=>
  exact⟨_,_,(by grind [run_endRound]),.bool false,_,.bool false,p2,ah,rfl,by rfl,ex.trans<|c.trans<|s4 .done<|some<|.exit i⟩
def Hn(C:Ctx):Prop:=∀f i,C.fn f=some i->i.cert=true->Ee i.body=true
theorem JP(t:C.Ok P)(r:Hn C)(z:P.follows .mixedOrders=true):∀n,(Bp C n).Ok C P
 |0=>⟨fun f args h l c=>(by cases c),fun b ls fr h l c=>(by cases c)⟩
 |n+1=>by
  refine⟨fun f args h l c p w args' hr y G=>?_,fun b ls fr h l c p w k m f tmps hr y hb hp W=>Oi t (JP t r z n) z c hr y hp W⟩;unfold Bp at c;simp only at c;split at c
  case h_1=>
   rename_i q Y;split at c
   case h_2=>cases c
   rename_i x A;cases c;refine(t.spec f q Y p h w args args' x.1 x.2 hr y G A).mono ?_;rintro e w' ⟨v',p',rfl,g,J⟩;exact⟨x.1,x.2,v',p',(by simp),rfl,g,J⟩
  case h_2=>
   split at c
   case h_1=>cases c
   rename_i i I;split at c
   case h_1=>cases c
   rename_i L Z;split at c
   case h_2=>cases c
   rename_i lr E;cases c;refine Calls.mono ?_ (fun e w' K=>(show HX p h w (bif C.mg then Sv h.nx lr else lr) e w' from by cases C.mg with|true=>exact HX.merge K|false=>exact K));have c:=E;generalize lr=l at c;obtain⟨fn,s,U,R,N,X⟩:=t.fn f i I;have M:=r f i I;refine callsIn_wide.1<|callsIn_of_wp_marks (F:=yb) (n:=0) s R trivial ?_;rw[N];refine(MI (k:=none) (n:=0) t (JP t r z n) z n i.cert i.body M Z p _ w _ hr y (xY G i.ntmps) rfl trivial fun x A p1 a1 w1 D u B=>?_).1;obtain⟨L1,g,J⟩:=J3 c x A;have fin:∀ {s:H} {v:V},HW x.ds x.h=some s->S1 C x.fr s i.results.toList=some v->L1=[(v,s)]->LeavesInM yb 0 P fn a1.tmps (HX p h w l) a1.defers .returning w1:=by
    intro s v o d hL1;obtain⟨w2,q1,O⟩:=Uc (P:=P) (fn:=fn) (tmps:=a1.tmps) (n:=0) B u.rel o;obtain⟨v',s1,s2⟩:=AbG (P:=P) (fn:=fn) t.T q1.rel (D.ext q1) (by rw[X];exact d);exact O _ ⟨v',s1,v,s,v',p1,ah,rfl,s2,u.trans q1⟩
   split at g
   case h_1=>cases g
   case h_2=>
    split at g
    case h_2=>cases g
    rename_i U o;split at g
    case h_2=>cases g
    rename_i v d;cases g;cases hxe:x.e with
    |normal=>exact fin o d rfl
    |ret=>exact fin o d rfl
    |exit j=>grind
end
def uD(P:Program)(t:TypeId):Option TI:=
 match P.info? t with
 |some i=>match i.zero with
  |some z=>match cv z with
   |some v=>some ⟨i.size,i.bytes,v⟩
   |none=>none
  |none=>none
 |none=>none
theorem nK{P:Program}{t:TypeId}{i:TI}(h:uD P t=some i):∃j v,P.info? t=some j/\j.size=i.size/\j.bytes=i.bytes/\j.zero=some v/\∀p,Ag p i.zv v:=by
 unfold uD at h;split at h
 case h_2=>cases h
 split at h
 case h_2=>cases h
 split at h
 case h_2=>cases h
 cases h;simp_all [bQ]
def Acx(P:Program)(t:TypeId):Option FK:=
 match P.underlying t with
 |some (.int k)=>some<|.int k
 |some .string=>some .str
 |some .bool=>some .bool
 |_=>none
def Ss(P:Program):List Field->Nat->Option (List FK)
 |[],_=>some []
 | f :: fs, i => if f.name = "_" \/ f.offset ≠ i then none else match Acx P f.type, Ss P fs (i + 1) with
  |some k,some ks=>some (k::ks)
  |_,_=>none
def ZF(P:Program)(t:TypeId):Option (List FK):=
 match P.underlying t with
 |some (.struct fs)=>if P.stoodInHeld t=true\/P.eqGuardType P.depth t=true then none else Ss P fs.toList 0
 |_=>none
def Zr:TypeDesc->Bool
 | .pointer _=>false
 |_=>true
def xL(P:Program)(t:TypeId)(name:String):Option FuncId:=
 match P.info? t,P.underlying t with
 |some j,some d=>match j.methods.find? (·.name==name)with
  |some m=>match m.path,m.func with
   |⟨[]⟩,some (f,false)=>bif Zr d then some f else none
   |_,_=>none
  |none=>none
 |_,_=>none
theorem tW{P:Program}{t:TypeId}{name:String}{f:FuncId}(h:xL P t name=some f):∃j m d,P.info? t=some j/\j.methods.find? (·.name==name)=some m/\m.path= #[]/\m.func=some (f,false)/\P.underlying t=some d/\∀e,d≠ .pointer e:=by
 unfold xL at h;split at h
 case h_2=>cases h
 rename_i j d g c;split at h
 case h_2=>cases h
 split at h
 case h_2=>cases h
 cases hp:Zr d with
 |false=>grind
 |true=>
  grind [Zr]
def AdC(P:Program):Co:=⟨P.underlying,uD P,ZF P,xL P⟩
section
variable {P:Program}{p:Pl}
theorem RX{t:TypeId}{k:FK}(h:Acx P t=some k):∃d,P.underlying t=some d/\EK d=false/\(∀e,d≠ .interface e)/\match k with
  | .int k=>d=.int k
  | .str=>d=.string
  | .bool=>d=.bool:=by
 unfold Acx at h;split at h
 case h_1=>rename_i c;cases h;exact⟨_,c,rfl,(by simp),rfl⟩
 case h_2=>rename_i c;cases h;exact⟨_,c,rfl,(by simp),rfl⟩
 case h_3=>rename_i c;cases h;exact⟨_,c,rfl,(by simp),rfl⟩
 grind
theorem QC{t:TypeId}{d:TypeDesc}(g:P.underlying t=some d)(e:EK d=false){cs:Array Value}{i:Nat}{v:Value}(f:cs[i]?=some v)(w:World):(part t cs i).run P w=.ok v w:=by
 unfold part isAgg;have c:(underlying t).run P w=.ok d w:=by simp_all [underlying]
 simp only[z7,c,zt];cases d<;>first|(cases e;done)|simp[f]
theorem fT{t:TypeId}{k:FK}(h:Acx P t=some k){a b:V}{f b':Value}(c:k.ok a=true)(e:k.ok b=true)(i:Ag p a f)(g:Ag p b b'){r:Bool}(l:EP a b=some r)(d:Nat)(w:World):
  (Op.equalIn (d+1) t f b').run P w=.ok r w:=by
 obtain⟨D,o,_,_,j⟩:=RX h;cases k with
 |int k=>
  cases a<;>simp only[FK.ok]at c<;>try (cases c;done)
  cases b<;>simp only[FK.ok]at e<;>try (cases e;done)
  grind [Ag,EP,run_equalIn_int]
 |str=>
  cases a<;>simp only[FK.ok]at c<;>try (cases c;done)
  cases b<;>simp only[FK.ok]at e<;>try (cases e;done)
  grind [Ag,EP,run_equalIn_string,Jw]
 |bool=>
  cases a<;>simp only[FK.ok]at c<;>try (cases c;done)
  cases b<;>simp only[FK.ok]at e<;>try (cases e;done)
  grind [Ag,EP,run_equalIn_bool']
theorem Vs:∀ {ks:List FK} {x:List V},fit ks x=true->ks.length=x.length
 |[],[],_=>rfl
 |[],_::_,h=>by simp[fit]at h
 |_::_,[],h=>by simp[fit]at h
 |k::ks,v::vs,h=>by
  unfold fit at h;cases c:k.ok v with
  |false=>grind
  |true=>simp only[c,we]at h;simp[Vs h]
theorem Mz(d:Nat){w:World}{x' y':Array Value}:∀ {fs:List Field} {i:Nat} {ks:List FK},Ss P fs i=some ks->∀ {x y:List V} {u v:List Value},fit ks x=true->fit ks y=true->AB p x u->AB p y v->
  (∀j a,u[j]?=some a->x'[i+j]?=some a)->(∀j a,v[j]?=some a->y'[i+j]?=some a)->∀ {r:Bool},Ch x y=some r->(Op.eqFields (d+1) x' y' fs).run P w=.ok r w
 |[],i,ks,g,x,y,u,v,E,A,_,_,_,_,r,z=>by
  cases g;cases x with
  |cons _ _=>simp[fit]at E
  |nil=>cases y with
   |cons _ _=>simp[fit]at A
   |nil=>simp_all [Ch,Op.eqFields]
 |f::fs,i,ks,g,x,y,u,v,E,A,O,X,K,N,r,z=>by
  unfold Ss at g;split at g
  case isTrue=>cases g
  have q : f.name ≠ "_" := ah;have o:f.offset=i:=ae;split at g
  case h_2=>cases g
  rename_i k t I R;cases g;cases x with
  |nil=>simp[fit]at E
  |cons a x=>cases y with
   |nil=>simp[fit]at A
   |cons b y=>
    obtain⟨T,Z,rfl,s,G⟩:=O;obtain⟨b',v',rfl,hv1,hv2⟩:=X;have M:k.ok a=true:=by grind [fit]
    have L:k.ok b=true:=by grind [fit]
    have Y:fit t x=true:=by grind [fit]
    have U:fit t y=true:=by grind [fit]
    obtain⟨D,l,e,_,_⟩:=RX I;have J:=QC l e (K 0 T rfl) w;have pb:=QC l e (N 0 b' rfl) w;simp only[yv]at J pb;simp only[Op.eqFields,q,wm,not_false_eq_true,wk,z7,o,J,pb,zt];unfold Ch at z;split at z
    case h_1=>
     rename_i B;rw[fT I M L s hv1 B];exact Mz d R Y U G hv2 (fun j c W=>by have:=K (j+1) c ah;grind) (fun j c W=>by have:=N (j+1) c ah;grind) z
    case h_2=>
     rename_i B;rw[fT I M L s hv1 B];simp_all
    grind
theorem Ln{b:Bool}{w:World}{x':Array Value}:∀ {fs:List Field} {i:Nat} {ks:List FK},Ss P fs i=some ks->∀ {x:List V} {u:List Value},fit ks x=true->AB p x u->
  (∀j a,u[j]?=some a->x'[i+j]?=some a)->
  (forIn (m := Sem) fs PUnit.unit fun f _ => if f.name ≠ "_" then do
    yd b 9999 f.type (<-part f.type x' f.offset)
    pure (ForInStep.yield yr)
   else do
    pure yr
    pure (ForInStep.yield yr)).run P w=.ok yr w
 |[],i,ks,d,x,u,r,_,_=>by simp
 |f::fs,i,ks,d,x,u,r,z,s=>by
  unfold Ss at d;split at d
  case isTrue=>cases d
  split at d
  case h_2=>cases d
  rename_i k o E A;cases d;cases x with
  |nil=>simp[fit]at r
  |cons a x=>
   obtain⟨t,M,rfl,I,q⟩:=z;have G:fit o x=true:=by grind [fit]
   obtain⟨D,g,l,B,_⟩:=RX E;have L:=QC g l (s 0 t rfl) w;have y:(yd b 9999 f.type t).run P w=.ok () w:=by
    unfold yd;have e:(underlying f.type).run P w=.ok D w:=by simp_all [underlying]
    simp only[z7,e,zt];cases D<;>first|rfl|grind|grind
   have K:=Ln (b:=b) (w:=w) (x':=x') A G q (fun j c J=>by have:=s (j+1) c ah;grind);simp_all
theorem Afd(P:Program):(AdC P).Ok P:=by
 have key:∀t ks,ZF P t=some ks->∃fs,P.underlying t=some (.struct fs)/\P.stoodInHeld t=false/\P.eqGuardType P.depth t=false/\Ss P fs.toList 0=some ks:=by
  grind [ZF]
 refine⟨fun t d h=>h,fun t i h=>nK h,?_,?_,?_,?_,fun t name f h=>tW h⟩
 ·intro t ks h p x y x' y' r w o s l u z;obtain⟨fs,c,q,j,g⟩:=key t ks h;grind [Program.fieldsOf,Op.equal,Op.maxDepth,run_equalIn_struct,Mz]
 ·intro t ks h;obtain⟨fs,c,q,j,g⟩:=key t ks h;exact j
 ·intro t ks h p x x' b w o l;obtain⟨fs,c,q,j,g⟩:=key t ks h;unfold yd;have e:(underlying t).run P w=.ok (.struct fs) w:=by simp_all [underlying]
  have:=Ln (b:=b) (w:=w) (x':=x') g o l (by simp);simp_all
 ·intro t ks h;obtain⟨fs,c,_⟩:=key t ks h;exact⟨fs,c⟩
end
def Te(P:Program)(ct:FuncId->Bool)(f:FuncId):Option Fn:=
 match P.funcs[f]? with
 |some fn=>match fn.body with
  | some b => if fn.name = "runtime.NumGoroutine" then none else some ⟨fn.ntmps, fn.results, b, ct f⟩
  |none=>none
 |none=>none
theorem Acn {P : Program} {ct : FuncId -> Bool} {f : FuncId} {i : Fn} (h : Te P ct f = some i) : ∃ fn, P.funcs[f]? = some fn /\ fn.name ≠ "runtime.NumGoroutine" /\ fn.body = some i.body /\ fn.ntmps = i.ntmps /\ fn.results = i.results := by
 unfold Te at h;grind
inductive PK where
 |indexByte
 |add64
 |sub64
 |count
 |noEsc
def Rr:Array Value->Sem Value:=fun args=>do
 let (x, y, b) <- Extern.MathBitsCarry.three "Sub64" args
 pure (ye ((x+zo-y-b) % zo) (if x<y+b then 1 else 0))
def PK.entry:PK->Array Value->Sem Value
 | .indexByte=>Extern.BytealgIndexByte.indexByte
 | .add64=>add64Entry
 | .sub64=>Rr
 | .count=>Extern.BytealgCount.count
 | .noEsc=>Extern.AbiNoEscape.same
def XJ:Option Nat->V
 |some i=>i64 i
 |none=>.int .i64<| -1
def rF:Nat:=18446744073709551616
def PK.run:PK->List V->H->Option (V×H)
 | .indexByte,[.str s,.int .u8 c],h=>some (XJ<|s.findIdx? fun x=>x==c.toNat.toUInt8,h)
 | .add64,[.int .u64<|.ofNat x,.int .u64<|.ofNat y,.int .u64<|.ofNat c],h=>
  bif z8 c 1 then some (.tup [.int .u64<|.ofNat<|(x+y+c) % rF,.int .u64<|.ofNat<|(x+y+c)/rF],h)else none
 | .sub64,[.int .u64<|.ofNat x,.int .u64<|.ofNat y,.int .u64<|.ofNat c],h=>
  bif z8 c 1 then some (.tup [.int .u64<|.ofNat<|(x+rF-y-c) % rF,.int .u64<|.ofNat<|bif zj x (y+c)then 1 else 0],h)else none
 | .count,[.str s,.int .u8 c],h=>some (.int .i64 (s.foldl (fun n x=>bif x==c.toNat.toUInt8 then zm n 1 else n) 0:Nat),h)
 | .noEsc,[.ptr b o],h=>some (.ptr b o,h)
 |_,_,_=>none
theorem SZ(s:Z)(c:UInt8):((zu (bytesOf s).size).find? fun i=>(bytesOf s)[i]! ==c)=s.findIdx? fun x=>x==c:=by
 have key:∀(l pre:Z),pre++l=s->((List.range' pre.length l.length).find? fun i=>(bytesOf s)[i]! ==c)=(l.findIdx? fun x=>x==c).map (· +pre.length):=by
  intro l;induction l with
  |nil=>simp
  |cons a l e=>
   intro pre hp;have d:(bytesOf s)[pre.length]! =a:=by
    grind [Cb,bytesOf,ByteArray.getElem_eq_getElem_data]
   rw[List.length_cons,List.range'_succ,List.find?_cons,d,List.findIdx?_cons];cases f:a==c with
   |true=>simp
   |false=>
    have:=e (pre++[a]) ah;simp only[List.length_append,List.length_singleton]at this;simp only[this,zz,vf,Option.map_map];congr 1;grind
 have:=key s [] rfl;simp_all [List.range_eq_range',Cb]
theorem AB.three{p:Pl}{a b c:V}{l:List Value}(h:AB p [a,b,c] l):∃x y z,l=[x,y,z]/\Ag p a x/\Ag p b y/\Ag p c z:=by
 simp only[AB]at h;grind
theorem PK.sim{P:Program}{k:PK}{p:Pl}{h:H}{w:World}{args:List V}{args':Array Value}{v:V}{h':H}(g:AB p args args'.toList)(d:k.run args h=some (v,h')):
  h'=h/\∃v',(k.entry args').run P w=.ok v' w/\Ag p v v':=by
 unfold PK.run at d;split at d
 case h_6=>cases d
 case h_5=>
  cases d;obtain⟨x,i,e⟩:=g.one;have:args'= #[x]:=ah;subst this;exact⟨rfl,x,(by rfl),e⟩
 case h_1=>
  rename_i s c;cases d;obtain⟨x,y,i,e,f⟩:=g.two;have:args'= #[x,y]:=ah;subst this;subst e f;refine⟨rfl,_,run_indexByte_string (bytesOf s) c w,?_⟩;unfold firstIdx;rw[SZ];grind [XJ,i64,Ag]
 case h_2=>
  rename_i x y c;rw[show z8 c 1=decide (c<=1)from by rw[Bool.eq_iff_iff];simp]at d;by_cases j:c<=1
  ·simp only[j,decide_true,we,zh,yf]at d;obtain⟨rfl,rfl⟩:=d;obtain⟨x',y',z',i,e,f,h3⟩:=g.three;have:args'= #[x',y',z']:=ah;subst this;subst e f h3;refine⟨rfl,_,run_add64 x y c ae ae ae ae w,?_⟩;simp_all [Ag,rF]
  grind
 case h_3=>
  rename_i x y c;rw[show z8 c 1=decide (c<=1)from by rw[Bool.eq_iff_iff];simp]at d;by_cases j:c<=1
  ·simp only[j,decide_true,we,zh,yf]at d;obtain⟨rfl,rfl⟩:=d;obtain⟨x',y',z',i,e,f,h3⟩:=g.three;have:args'= #[x',y',z']:=ah;subst this;subst e f h3;have key:(Rr #[.int .u64 x,.int .u64 y,.int .u64 c]).run P w=
     .ok (ye ((x+zo-y-c) % zo)<|if x<y+c then 1 else 0) w:=by
    have:c=0\/c=1:=ae
    rcases this with rfl|rfl<;>rfl
   refine⟨rfl,_,key,?_⟩;refine⟨_,rfl,?_⟩;simp only[BE,KO,ve,Ag];refine⟨rfl,?_⟩;grind [H4]
  grind
 case h_4=>
  rename_i s c;cases d;obtain⟨x,y,i,e,f⟩:=g.two;have:args'= #[x,y]:=ah;subst this;subst e f;refine⟨rfl,_,Lib.run_countString (bytesOf s) c w,?_⟩;have key:∀(l:Z) (n:Nat),l.foldl (fun n x=>bif x==c.toNat.toUInt8 then zm n 1 else n) n=n+Lib.countByte l c.toNat.toUInt8:=by
   intro l;induction l with
   |nil=>grind [Lib.countByte]
   |cons x l o=>
    intro n;rw[List.foldl_cons,o];unfold Lib.countByte;grind
  simp_all [Ag,bytesOf]
def Vq(L:List (FuncId×PK))(f:FuncId):Option (List V->H->Option (V×H)):=
 match L with
 |[]=>none
 |(g,k)::L=>bif zd g f then some k.run else Vq L f
structure LV(P:Program)(x:FuncId×PK):Prop where
 ok : ∃ fn, P.funcs[x.1]? = some fn /\ (fn.name == "runtime.NumGoroutine") = false /\ fn.body.isNone = true /\ Extern.findNext fn = none /\ Extern.find fn = some x.2.entry
theorem dF{P:Program}:∀ {L:List (FuncId×PK)},(∀x∈L,LV P x)->∀f q,Vq L f=some q->∀(p:Pl) (h:H) (w:World) (args:List V) (args':Array Value) v h',R p h w->AB p args args'.toList->q args h=some (v,h')->
  ∃v' p' w',(callFunc f args').run P w=.ok (.value v') w'/\Ag p' v v'/\Ext p h w p' h' w'
 |[],_,f,q,c,_,_,_,_,_,_,_,_,_,_=>by cases c
 |(g,k)::L,j,f,q,c,p,h,w,args,args',v,h',hr,d,i=>by
  unfold Vq at c;rw[Bz]at c;by_cases e:g=f
  ·subst e;simp only[decide_true,we,zh]at c;subst c;obtain⟨fn,t,r,o,l,s⟩:=(j (g,k)<|by simp).ok;obtain⟨rfl,v',g1,g2⟩:=PK.sim (P:=P) (w:=w) d i;refine⟨v',p,w,?_,g2,ya hr⟩;simp_all [run_callFunc_extern]
  ·simp only[e,decide_false,wg]at c;exact dF ah f q c p h w args args' v h' hr d i
def Ah4:Option (List<|V×H)->Option V
 |some [(v,_)]=>some v
 |_=>none
def iB(C:Ctx)(n:Nat)(f:FuncId)(args:List V)(v:V):Bool:=match Ah4 (Bp C n (.fn f args) hG)with
 |some x=>V.beq x v
 |none=>false
theorem Y8{C C':Ctx}{P:Program}(J:C.Ok P)(s:Hn C)(I:P.follows .mixedOrders=true){n:Nat}{f:FuncId}{args:List V}{v:V}
  (j:iB C n f args v=true) (A:V.Kj args=true) (z:v.flat=true) {p:Pl} {h:H} {w:World} {args':Array Value} (hr:R p h w) (t:Gl C' p) (B:Gh h) (c:AB p args args'.toList):
  Calls P f args' w fun e w'=>∃v' p',e=.returned v'/\Ag p' v v'/\Ext p h w p' h w':=by
 unfold iB at j;split at j
 case h_2=>cases j
 rename_i x i;have q:x=v:=V.beq_eq j;subst q;unfold Ah4 at i;split at i
 case h_2=>cases i
 rename_i l M D;cases i;refine((JP J s I n).fn f args hG _ D _ w args' (Afo hr t B) t.take<|V.KL A c).mono ?_;rintro e w' ⟨u,h',v',p',g,rfl,G,d⟩;cases zi.1 g;have K:∀r,r<w.heap.size->w'.heap[r]?=w.heap[r]?:=fun r hr=>d.Hd t.take r hr
 refine⟨v',p,rfl,V.Dx z G,⟨(by simp),⟨hr.len,fun b o E=>?_,hr.inj⟩,d.size,ah,ah,d.os,d.out,d.tape,ah⟩⟩;obtain⟨r,m,y,L,O,N⟩:=hr.obj b o E;grind
def ghB(h:H):List (Nat×O)->Bool
 |[]=>true
 |(i,o)::l=>Ud (h.get i) (some o)&&ghB h l
theorem cR{h:H}:∀ {l:List (Nat×O)},ghB h l=true->∀x∈l,h.get x.1=some x.2
 |[],_,x,c=>by cases c
 |(i,o)::l,d,x,c=>by
  simp only[ghB,zc]at d;rcases yp.1 c with rfl|c
  ·cases e:h.get i with
   |none=>grind [Ud]
   |some q=>grind [eK,Ud]
  ·exact cR d.2 x c
def goS:List (Nat×O)->Bool
 |[]=>true
 |(_,o)::l=>Ud (some o) (some o)&&goS l
theorem iU:goS Hd=true:=by rfl
theorem AfM{h:H}(c:Gh h):ghB h Hd=true:=by
 have key:∀l:List (Nat×O),(∀x∈l,h.get x.1=some x.2)->goS l=true->ghB h l=true:=by
  intro l;induction l with
  |nil=>exact fun _ _=>rfl
  |cons x l d=>
   intro f e;simp_all [goS,ghB]
 exact key Hd c iU
abbrev CX:=List<|FuncId×List V×V
def Kf:CX->FuncId->List V->Option V
 |[],_,_=>none
 |(g,a,v)::l,f,args=>bif zd g f&&V.MM a args then some v else Kf l f args
def Un:CX->FuncId->Bool
 |[],_=>false
 |(g,_,_)::l,f=>bif zd g f then true else Un l f
def LQ(L:CX)(f:FuncId):Option (List V->H->Option (V×H)):=
 bif Un L f then some (fun args h=>bif ghB h Hd then(match Kf L f args with|some v=>some (v,h)|none=>none)else none)else none
def A0(C:Ctx)(n:Nat):CX->Bool
 |[]=>true
 |(f,a,v)::l=>iB C n f a v&&V.Kj a&&v.flat&&A0 C n l
theorem lD{L:CX}{f:FuncId}{args:List V}{v:V}(h:Kf L f args=some v){C:Ctx}{n:Nat}(c:A0 C n L=true):iB C n f args v=true/\V.Kj args=true/\v.flat=true:=by
 induction L with
 |nil=>cases h
 |cons x l d=>
  obtain⟨g,a,u⟩:=x;simp only[A0,zc]at c;unfold Kf at h;cases e:(zd g f&&V.MM a args)with
  |false=>grind
  |true=>
   grind [zf,V.II]
theorem AbW{C C':Ctx}{P:Program}(A:C.Ok P)(i:Hn C)(z:P.follows .mixedOrders=true){n:Nat}{L:CX}(o:A0 C n L=true):
  ∀f q,LQ L f=some q->∀(p:Pl) (h:H) (w:World) (args:List V) (args':Array Value) v h',R p h w->Gl C' p->AB p args args'.toList->q args h=some (v,h')->
  Calls P f args' w fun e w'=>∃v' p',e=.returned v'/\Ag p' v v'/\Ext p h w p' h' w':=by
 intro f q j p h w args args' v h' hr y d c;unfold LQ at j;cases r:Un L f with
 |false=>grind
 |true=>
  rw[r]at j;cases j;simp only at c;cases g:ghB h Hd with
  |false=>grind
  |true=>
  rw[g]at c;split at c
  case h_2=>cases c
  rename_i u s;cases c;obtain⟨l,x,t⟩:=lD s o;exact Y8 (C':=C') A i z l x t hr y (cR g) d
section
def RQ(P:Program):Nat->Nat->Bool
 |0,_=>true
 |n+1,a=>(match Te P (fun _=>true) a with|some i=>Ee i.body|none=>true)&&RQ P n (a+1)
variable {P:Program}
theorem TG{ct:FuncId->Bool}{f:FuncId}{i:Fn}(c:Te P ct f=some i):Te P (fun _=>true) f=some { i with cert:=true }/\i.cert=ct f:=by
 unfold Te at c ⊢;cases d:P.funcs[f]? with
 |none=>grind
 |some fn=>
  grind
theorem Jv{f:Nat}{i:Fn}{ct:FuncId->Bool}(c:Te P ct f=some i):∀ {n a:Nat},RQ P n a=true->a<=f->f<a+n->Ee i.body=true
 |0,a,_,g,d=>by omega
 |n+1,a,h,g,d=>by
  simp only[RQ,zc]at h;by_cases e:a=f
  ·subst e;rw[(TG c).1]at h;exact h.1
  ·exact Jv c h.2 ae ae
def mkC(P:Program)(N:Nat)(L:List (FuncId×PK)):Ctx:=⟨AdC P,0,Te P<|fun f=>zj f N,Vq L,fun _=>none,true⟩
theorem lY{N:Nat}{L:List (FuncId×PK)}(h:∀f i,f<N->Te P (fun f=>zj f N) f=some i->Ee i.body=true):Hn (mkC P N L):=by
 intro f i c d;have c:Te P (fun f=>zj f N) f=some i:=c;rw[(TG c).2]at d;exact h f i (Nat.le_of_ble_eq_true d) c
theorem Ae0{N:Nat}{L:List (FuncId×PK)}(e:∀x∈L,LV P x):(mkC P N L).Ok P where
 T:=Afd P
 fn:=fun _ _ h=>Acn (P:=P) (ct:=fun f=>zj f N) h
 prim:=fun f q c p h w args args' v h' hr _ d g=>dF e f q c p h w args args' v h' hr d g
 spec:=fun f q c=>by cases c
end
end Go.Det
namespace Go.Pe
open Go.Det
inductive Sh where
 |int (k:IntKind)
 |bool
 |str
 |list (s:Sh)
 |pair (a b:Sh)
 |unit
 |nlist (s:Sh)
 |fnv
 |ptr (s:Sh)
 deriving DecidableEq
@[reducible] def Sh.T:Sh->Type
 | .int _=>Int
 | .bool=>Bool
 | .str=>Z
 | .list s=>List s.T
 | .pair a b=>a.T×b.T
 | .unit=>Unit
 | .nlist s=>List s.T
 | .fnv=>Option Fn
 | .ptr s=>s.T
def Sh.IP:(s:Sh)->s.T
 | .int _=>(0:Int)
 | .bool=>false
 | .str=>([]:Z)
 | .list _=>[]
 | .pair a b=>(a.IP,b.IP)
 | .unit=>()
 | .nlist _=>[]
 | .fnv=>none
 | .ptr s=>s.IP
def Sh.sz:Sh->Nat
 | .pair a b=>zm a.sz b.sz
 | .unit=>0
 |_=>1
inductive PV where
 |any
 |bl (b:Bool)
 |ub
 |dat (s:Sh) (x:s.T)
 |nil|nilp|nilm|nilf|nili
 |agg (l:List PV)
 |tup (l:List PV)
 |ptr (id off:Nat)
 |eptr (id sz i off:Nat)
 |AV (s:Sh) (x:s.T) (off:Nat)
 |sl (id sz off len:Nat) (cap:Option Nat)
 |mp (id:Nat)
 |fn (f:Fn) (first captured:List PV)
 |yl (id:Nat)
inductive LpS where
 |ready|busy|ret
 |exit (i:Nat)
inductive Obj where
 |arr (fz:Bool) (e:TypeId) (s:Sh) (l:List s.T)
 |box (cs:List PV)
 |tbox (t:TypeId) (cs:List PV)
 |map (ks vs:Sh) (l:List (ks.T×vs.T))
 |siter (s:Z) (pos:Nat)
 |lp (f:FuncId) (r:Nat) (ps:Array Tmp) (asg body:Code) (s:LpS) (n:Nat) (sl:List (Nat×PV))
abbrev Ob:=List<|Nat×Obj
def AU:Ob->Nat->Option Obj
 |[],_=>none
 |(i,o)::l,j=>bif zd i j then some o else AU l j
def Ez:Ob->Nat->Obj->Ob
 |[],_,_=>[]
 |(i,o)::l,j,x=>bif zd i j then(i,x)::l else(i,o)::Ez l j x
def HF:Ob->Nat->Ob
 |[],_=>[]
 |(i,o)::l,j=>bif zd i j then HF l j else(i,o)::HF l j
structure AP where
 n:Nat
 fr:PM PV
 ob:Ob
 nx:Nat
def AP.get(st:AP)(t:Nat):PV:=(st.fr.get t).getD .any
def AP.obj(st:AP)(id:Nat):Option Obj:=AU st.ob id
def AP.set(st:AP)(t:Nat)(v:PV):AP:=⟨st.n,st.fr.set t<|some v,st.ob,st.nx⟩
def AP.setObj(st:AP)(id:Nat)(o:Obj):AP:=⟨st.n,st.fr,Ez st.ob id o,st.nx⟩
def AP.G5(st:AP)(id:Nat):AP:=⟨st.n,st.fr,HF st.ob id,st.nx⟩
def AP.push(st:AP)(o:Obj):AP:=⟨st.n,st.fr,(st.nx,o)::st.ob,zm st.nx 1⟩
def AP.put(st:AP)(d:Option Nat)(v:PV):Option AP:=
 match d with
 |none=>some st
 |some t=>bif zj t st.n then some (st.set t v)else none
def FG(vs:List (Nat×PV)):PM PV:=vs.foldl (fun m x=>m.set x.1<|some x.2) .leaf
def flat:(s:Sh)->s.T->List PV
 | .pair a b,(x,y)=>flat a x++flat b y
 | .unit,_=>[]
 | .fnv,x=>[match (x:Option Fn)with|some f=>.fn f [] []|none=>.nilf]
 | .ptr s,x=>[.AV s x 0]
 |s,x=>[.dat s x]
def EX(s c:Sh)(x:s.T):Option c.T:=if h:s=c then some (h▸x)else none
def asP(c:Sh)(x:c.T):(s:Sh)->Option s.T
 | .ptr s=>EX c s x
 |_=>none
def asD(s:Sh)(v:PV):Option s.T:=
 match v with
 | .AV c x 0=>asP c x s
 | .dat c x=>EX c s x
 | .bl b=>EX .bool s b
 | .fn f [] []=>EX .fnv s<|some f
 | .nilf=>EX .fnv s none
 | .nil=>match s with
  | .list _=>some []
  | .nlist _=>some []
  |_=>none
 |_=>none
def CJ:(s:Sh)->List PV->Option (s.T×List PV)
 | .pair a b,l=>match CJ a l with
  |some (x,l1)=>match CJ b l1 with
   |some (y,c)=>some ((x,y),c)
   |none=>none
  |none=>none
 | .unit,l=>some ((),l)
 |s,v::l=>match asD s v with
  |some x=>some (x,l)
  |none=>none
 |_,[]=>none
def D1(s:Sh)(l:List PV):Option s.T:=
 match CJ s l with
 |some (x,[])=>some x
 |_=>none
def PV.cells:PV->List PV
 | .agg cs=>cs
 |v=>[v]
def fV(ty:TypeId->Option Sh):List Field->Option Sh
 |[]=>none
 |[x]=>ty x.type
 |x::c=>match ty x.type,fV ty c with
  |some a,some b=>some<|.pair a b
  |_,_=>none
def nlf:Option Sh->Option Sh
 |some (.list<|.int .u64)=>some<|.nlist<|.int .u64
 |s=>s
def lz:PV->PV
 | .dat (.nlist s) x=>.dat (.list s) x
 |v=>v
def Sh.leaves:Sh->List Sh
 | .pair a b=>a.leaves++b.leaves
 | .unit=>[]
 |s=>[s]
def Yc:Sh->PV->Bool×PV
 | .nlist s,.dat (.list c) x=>bif s==c then(decide (0<x.length),.dat (.nlist c) x)else(true,.dat (.list c) x)
 | .list s,.dat (.nlist c) x=>bif s==c then(true,.dat (.list c) x)else(true,.dat (.nlist c) x)
 |_,v=>(true,v)
def MH:List Sh->List PV->Bool×List PV
 |s::l,v::vs=>((Yc s v).1&&(MH l vs).1,(Yc s v).2::(MH l vs).2)
 |_,vs=>(true,vs)
def Zu(T:Co):Nat->TypeId->Option Sh
 |0,_=>none
 |f+1,t=>match T.und t with
  |some (.int k)=>some<|.int k
  |some .bool=>some .bool
  |some .string=>some .str
  |some (.slice e)=>(Zu T f e).map .list
  |some (.func _ _ _)=>some .fnv
  |some (.struct fs)=>fV (fun x=>nlf<|Zu T f x) fs.toList
  |_=>none
def Sh.Ac7:Sh->Bool
 | .pair a b=>a.Ac7||b.Ac7
 | .fnv=>true
 |_=>false
def Cx:(s:Sh)->s.T->PV
 | .pair a b,x=>.agg<|flat (.pair a b) x
 | .unit,_=>.agg []
 | .fnv,x=>match (x:Option Fn)with|some f=>.fn f [] []|none=>.nilf
 | .ptr s,x=>.AV s x 0
 |s,x=>.dat s x
def Sh.Ps:Sh->Bool
 | .pair _ _| .unit=>true
 |_=>false
def Y7:(s:Sh)->s.T->s.T->Bool
 | .int _,a,b=>(a:Int)==b
 | .bool,a,b=>(a:Bool)==b
 | .str,a,b=>(a:Z)==b
 |_,_,_=>false
def Fa(s v:Sh)(k:s.T):List (s.T×v.T)->Option v.T
 |[]=>none
 |(a,b)::l=>bif Y7 s k a then some b else Fa s v k l
def Iq(s v:Sh)(k:s.T)(x:v.T):List (s.T×v.T)->List (s.T×v.T)
 |[]=>[(k,x)]
 |(a,b)::l=>bif Y7 s k a then(k,x)::l else(a,b)::Iq s v k x l
def VY(s v:Sh)(k:s.T):List (s.T×v.T)->List (s.T×v.T)
 |[]=>[]
 |(a,b)::l=>bif Y7 s k a then l else(a,b)::VY s v k l
inductive Tr where
 |fail
 |leaf (v:PV) (ob:Ob)
 |ite (c:Bool) (a b:Tr)
 |both (a b:Tr)
 |cut (nd ro:Bool) (d:Nat) (f:FuncId) (base:Nat) (b:Code) (st:AP) (k:DX->AP->Tr)
 |alts (m:Nat) (f:Nat->Tr)
 |loop (nd ro:Bool) (d:Nat) (f:FuncId) (base:Nat) (b:Code) (st:AP) (k:DX->AP->Tr)
abbrev Tr.ck(c:Bool)(x:Tr):Tr:=.ite c x .fail
abbrev Tr.cd(P:Prop)[Decidable P](x:Tr):Tr:=.ite (decide P) x .fail
abbrev aa(k:Nat):Bool:=decide (1<=1)&&decide (0<1)&&decide ((3*1+2000)*k<=562949953421312)
abbrev ac(n m k:Nat):Bool:=decide (1<=1)&&true&&decide (n=m)&&decide ((3*(n+1)+2000)*k<=562949953421312)
abbrev Tr.di(P:Prop)[Decidable P](x y:Tr):Tr:=.ite (decide P) x y
inductive PO where
 |bad
 |val (v:PV) (st:AP)
 |ite (c:Bool) (a b:PO)
def PO.Jx(c:Bool)(v:PV)(st:AP):PO:=.ite c (.val v st) .bad
mutual
def Px:Value->Option PV
 | .bool b=>some<|.bl b
 | .int k n=>some<|.dat (.int k) n
 | .string s=>some<|.dat .str s.data.toList
 | .pointer none=>some .nilp
 | .slice none 0 0=>some .nil
 | .map none=>some .nilm
 | .nilFunc=>some .nilf
 | .nilIface=>some .nili
 | .func f ⟨[]⟩ ⟨[]⟩=>some<|.fn f [] []
 | .agg ⟨cs⟩=>(kD cs).map .agg
 | .tuple ⟨cs⟩=>(kD cs).map .tup
 |_=>none
def kD:List Value->Option (List PV)
 |[]=>some []
 |v::vs=>match Px v,kD vs with
  |some x,some c=>some (x::c)
  |_,_=>none
end
def Y0:V->PV
 | .bool b=>.bl b
 | .int k n=>.dat (.int k) n
 | .str s=>.dat .str s
 | .nilp=>.nilp
 | .nils=>.nil
 | .nilm=>.nilm
 | .nilf=>.nilf
 | .nili=>.nili
 |_=>.any
def SO(st:AP):Operand->Option PV
 | .tmp t=>some<|st.get t
 | .const v=>Px v
 | .global _=>none
 | .func f=>some<|.fn (.func f) [] []
def N8(st:AP):List Operand->Option (List PV)
 |[]=>some []
 |x::c=>match SO st x,N8 st c with
  |some v,some vs=>some (v::vs)
  |_,_=>none
def mA(st:AP):List (Nat×Operand)->Option (List<|Nat×PV)
 |[]=>some []
 |(i,x)::c=>match SO st x,mA st c with
  |some v,some vs=>some ((i,v)::vs)
  |_,_=>none
def sY(T:Co)(t:TypeId):Option (List PV):=(T.inf t).bind fun i=>bif Np V.ok i.zero then some (i.zero.map Y0)else none
def pick(d:TypeDesc)(n:Nat)(cs:List PV):Option PV:=
 bif EK d then(bif z8 n (Fb cs)&&zj 0 n then some (.agg<|fA n cs)else none)
 else match cs with
  |v::_=>some v
  |[]=>none
def ov(st:AP):Option PV->PO
 |some v=>.val v st
 |none=>.bad
def ovc(c:Bool)(st:AP):Option PV->PO
 |some v=>.Jx c v st
 |none=>.bad
def chunk(s:Sh):Nat->List PV->Option (List s.T)
 |0,_=>some []
 |n+1,cs=>match CJ s cs with
  |some (x,cs')=>(chunk s n cs').map (x:: ·)
  |none=>none
def QA(s:Sh)(l:List s.T):Nat->Nat->List PV
 |_,0=>[]
 |j,n+1=>flat s (l.getD j s.IP)++QA s l (zm j 1) n
def zsh:List V->Option Sh
 | .bool _::_=>some .bool
 | .int k _::_=>some<|.int k
 |_=>none
def isZ:Sh->V->Bool
 | .bool,.bool b=> !b
 | .int k,.int c n=>decide (k=c)&&decide (n=0)
 |_,_=>false
def AeO(T:Co)(t:TypeId):Option (Sh×Nat):=
 match T.und t,T.inf t with
 |some (.array _ _),some i=>match zsh i.zero with
  |some s=>bif z8 32 (Fb i.zero)&&Np (isZ s) i.zero then some (s,Fb i.zero)else none
  |none=>none
 |_,_=>none
def Pd(T:Co)(st:AP)(t:TypeId)(a:PV):PO:=
 match T.und t,T.inf t with
 |some d,some i=>match a with
  | .ptr id off=>match st.obj id with
   |some (.box cs)=>ov st<|pick d i.size<|Lr off cs
   |some (.arr _ _ s l)=>bif zd off 0&&zd s.sz 1 then ovc (decide (l.length=i.size)) st (pick d i.size<|QA s l 0 i.size)else .bad
   |some (.tbox _ cs)=>ov st<|pick d i.size<|Lr off cs
   |_=>.bad
  | .eptr id sz j off=>match st.obj id with
   |some (.arr _ _ s l)=>bif zd sz s.sz then ovc (decide (j<l.length)) st (pick d i.size<|Lr off<|flat s<|l.getD j s.IP)else .bad
   |_=>.bad
  | .AV s x off=>ov st<|pick d i.size<|Lr off<|flat s x
  |_=>.bad
 |_,_=>.bad
def Jr:Option Obj->Bool
 |some _=>true
 |none=>false
def MT(st:AP):PV->Bool
 | .agg _| .tup _| .any| .ub=>false
 | .ptr id _| .eptr id _ _ _| .sl id _ _ _ _| .mp id| .yl id=>Jr<|st.obj id
 |_=>true
def pcs(st:AP):PV->Option (List PV)
 | .agg l=>some l
 |p=>bif MT st p then some [p]else none
def aW(T:Co)(st:AP)(t:TypeId)(a x:PV):PO:=
 match T.inf t,pcs st x with
 |some i,some c=>bif zd (Fb c) i.size&&Np (MT st) c then
   match a with
   | .ptr id off=>match st.obj id with
    |some (.box cs)=>bif z8 (zm off i.size) (Fb cs)then .val (.tup []) (st.setObj id<|.box<|CR off c cs)else .bad
    |some (.arr false e s l)=>bif zd off 0&&zd s.sz 1 then
      match chunk s i.size c with
      |some y=>.Jx (decide (l.length=i.size)) (.tup [])<|st.setObj id<|.arr false e s y
      |none=>.bad
     else .bad
    |some (.tbox tb cs)=>bif z8 (zm off i.size) (Fb cs)then .val (.tup []) (st.setObj id<|.tbox tb<|CR off c cs)else .bad
    |_=>.bad
   | .eptr id sz j off=>match st.obj id with
    |some (.arr false e s l)=>bif zd sz s.sz&&z8 (zm off i.size) sz then
      match D1 s (CR off c<|flat s<|l.getD j s.IP)with
      |some y=>.Jx (decide (j<l.length)) (.tup [])<|st.setObj id<|.arr false e s<|l.set j y
      |none=>.bad
     else .bad
    |_=>.bad
   |_=>.bad
  else .bad
 |_,_=>.bad
def IW(k:IntKind)(a b:Int):Int:=k.wrap (zp k.bits a&&&zp k.bits b).toNat
def kN(k:IntKind)(a b:Int):Int:=k.wrap (zp k.bits a|||zp k.bits b).toNat
def AjG(k:IntKind)(a b:Int):Int:=k.wrap (zp k.bits a^^^zp k.bits b).toNat
def Aig(k:IntKind)(a b:Int):Int:=k.wrap (zp k.bits a&&& ~~~zp k.bits b).toNat
def Af1(op:BinOp)(k:IntKind)(a b:Int)(st:AP):PO:=
 match op with
 | .add=>.val (.dat (.int k)<|k.wrap<|a+b) st
 | .sub=>.val (.dat (.int k)<|k.wrap<|a-b) st
 | .mul=>.val (.dat (.int k)<|k.wrap<|a*b) st
 | .quo=>.Jx (decide (b≠0)) (.dat (.int k)<|k.wrap<|a.tdiv b) st
 | .rem=>.Jx (decide (b≠0)) (.dat (.int k)<|a.tmod b) st
 | .and=>.val (.dat (.int k)<|IW k a b) st
 | .or=>.val (.dat (.int k)<|kN k a b) st
 | .xor=>.val (.dat (.int k)<|AjG k a b) st
 | .andNot=>.val (.dat (.int k)<|Aig k a b) st
 | .eql=>.val (.dat .bool<|a==b) st
 | .neq=>.val (.dat .bool<|a !=b) st
 | .lss=>.val (.dat .bool<|decide (a<b)) st
 | .leq=>.val (.dat .bool<|decide (a<=b)) st
 | .gtr=>.val (.dat .bool<|decide (a>b)) st
 | .geq=>.val (.dat .bool<|decide (a>=b)) st
 |_=>.bad
def psh(op:BinOp)(k:IntKind)(a b:Int)(st:AP):PO:=
 match op with
 | .shl=>.Jx (decide (0<=b)) (.dat (.int k)<|k.wrap<|a*2^(min b.toNat k.bits)) st
 | .shr=>.Jx (decide (0<=b)) (.dat (.int k)<|a.fdiv<|2^(min b.toNat k.bits)) st
 |_=>.bad
def Aek(op:BinOp)(x y:Z)(st:AP):PO:=
 match op with
 | .add=>.Jx (decide (x.length+y.length<=4611686018427387904)) (.dat .str<|x++y) st
 | .eql=>.val (.dat .bool<|x==y) st
 | .neq=>.val (.dat .bool<|!(x==y)) st
 | .lss=>.val (.dat .bool<|yi x y) st
 | .leq=>.val (.dat .bool<|yi x y||x==y) st
 | .gtr=>.val (.dat .bool<|!(yi x y||x==y)) st
 | .geq=>.val (.dat .bool<|!yi x y) st
 |_=>.bad
def Abs:BinOp->Bool
 | .shl| .shr=>true
 |_=>false
def K4:PV->Option Bool
 | .bl b=>some b
 | .dat .bool b=>some b
 |_=>none
def Iy:List FK->List PV->List PV->Option Bool
 |[],[],[]=>some true
 | .int k::ks,.dat (.int f) a::c,.dat (.int e) b::d=>bif k==f&&k==e then(Iy ks c d).map fun r=>(a:Int)==(b:Int)&&r else none
 | .str::ks,.dat .str a::c,.dat .str b::d=>(Iy ks c d).map fun r=>(a:Z)==(b:Z)&&r
 | .bool::ks,a::c,b::d=>match K4 a,K4 b with
  |some a,some b=>(Iy ks c d).map fun r=>a==b&&r
  |_,_=>none
 |_,_,_=>none
def UO(st:AP)(ng:Bool)(x:PV):PO:=
 match x with
 | .nil=>.val (.bl<|!ng) st
 | .sl id _ _ _ _=>bif Jr (st.obj id)then .val (.bl ng) st else .bad
 | .dat (.list _) l=>.ite (decide (0<l.length)) (.val (.bl ng) st)<|.val .ub st
 | .dat (.nlist _) l=>.val (.dat .bool<|bif ng then decide (0<l.length)else !decide (0<l.length)) st
 |_=>.bad
def pT(op:BinOp)(x y:PV)(st:AP):PO:=
 match op,x,y with
 | .eql,x,.nil=>UO st false x
 | .neq,x,.nil=>UO st true x
 |_,_,_=>.bad
def ptrEq(T:Co)(e:TypeId)(st:AP)(x y:PV):Option Bool:=
 match x,y with
 | .nilp,.nilp=>some true
 | .ptr id _,.nilp=>bif Jr (st.obj id)then some false else none
 | .nilp,.ptr id _=>bif Jr (st.obj id)then some false else none
 | .ptr a i,.ptr b j=>bif zd a b&&Jr (st.obj a)then match T.inf e with
   |some c=>bif zj 0 c.size then some (zd i j)else none
   |none=>none
  else none
 |_,_=>none
def Ae6(T:Co)(op:BinOp)(t:TypeId)(x y:PV)(st:AP):PO:=
 match x,y with
 | .dat (.int k) a,.dat (.int c) b=>bif Abs op then psh op k a b st else(bif k==c then Af1 op k a b st else .bad)
 | .dat .str a,.dat .str b=>Aek op a b st
 | .agg d,.agg f=>match T.flat t with
  |some ks=>match op,Iy ks d f with
   | .eql,some r=>.val (.dat .bool r) st
   | .neq,some r=>.val (.dat .bool<|!r) st
   |_,_=>.bad
  |none=>.bad
 |x,y=>match K4 x,K4 y,T.und t with
  |some a,some b,some .bool=>match op with
   | .eql=>.val (.dat .bool<|a==b) st
   | .neq=>.val (.dat .bool<|!(a==b)) st
   |_=>.bad
  |_,_,some (.slice _)=>pT op x y st
  |_,_,some (.pointer e)=>match op,ptrEq T e st x y with
   | .eql,some r=>.val (.bl r) st
   | .neq,some r=>.val (.bl<|!r) st
   |_,_=>.bad
  |_,_,_=>.bad
def pun(op:UnOp)(x:PV)(st:AP):PO:=
 match op,x with
 | .neg,.dat (.int k) n=>.val (.dat (.int k)<|k.wrap<|0-(n:Int)) st
 | .not,.bl b=>.val (.bl<|!b) st
 | .not,.ub=>.val .ub st
 | .not,.dat .bool b=>.val (.dat .bool<|!b) st
 |_,_=>.bad
def pB(T:Co)(s d:TypeId)(x:PV)(st:AP):PO:=
 match T.und s,T.und d,x with
 |some _,some<|.int k,.dat (.int _) n=>.val (.dat (.int k)<|k.wrap n) st
 |some .string,some .string,.dat .str s=>.val (.dat .str s) st
 |_,_,_=>.bad
def tF(c a b:PV)(st:AP):PO:=
 match c with
 | .bl t=>.val (bif t then a else b) st
 | .dat .bool t=>match a,b with
  | .dat .bool x,.bl false=>.val (.dat .bool<|t&&x) st
  | .bl true,.dat .bool x=>.val (.dat .bool<|t||x) st
  |_,_=>.ite t (.val a st)<|.val b st
 |_=>.bad
def ZC(T:Co)(t:TypeId)(x:PV)(f:Nat)(st:AP):PO:=
 match T.und t,x with
 |some (.struct fs),.agg cs=>match fs[f]? with
  |some c=>match T.und c.type,T.inf c.type with
   |some d,some i=>ov st<|pick d i.size<|Lr c.offset cs
   |_,_=>.bad
  |none=>.bad
 |_,_=>.bad
def aM(T:Co)(t:TypeId)(x:PV)(f:Nat)(st:AP):PO:=
 match T.und t with
 |some (.struct fs)=>match fs[f]? with
  |some c=>match T.inf c.type with
   |some i=>bif zd i.size 0 then .bad else match x with
    | .ptr id off=>bif Jr (st.obj id)then .val (.ptr id<|zm off c.offset) st else .bad
    | .eptr id sz j off=>bif Jr (st.obj id)then .val (.eptr id sz j<|zm off c.offset) st else .bad
    | .AV s y off=>.val (.AV s y<|zm off c.offset) st
    |_=>.bad
   |none=>.bad
  |none=>.bad
 |_=>.bad
def U7(T:Co)(t:TypeId)(x d:PV)(st:AP):PO:=
 match T.und t,d with
 |some (.slice e),.dat (.int _) i=>match T.inf e with
  |some c=>match x with
   | .dat (.list s) l=>bif zd c.size s.sz then .Jx (decide (0<=(i:Int))&&decide ((i:Int)<(l.length:Int))) (.AV s (l.getD (zl i) s.IP) 0) st else .bad
   | .sl id sz off len _=>bif zd c.size sz&&Jr (st.obj id)then .Jx (decide (0<=(i:Int))&&decide ((i:Int)<(len:Int))) (.eptr id sz (zm (zl i) off) 0) st else .bad
   |_=>.bad
  |none=>.bad
 |some (.array len e),.dat (.int _) i=>match T.inf e with
  |some c=>match x with
   | .ptr id off=>match st.obj id with
    |some (.arr _ _ s _)=>bif zd off 0&&zd c.size s.sz then .Jx (decide (0<=(i:Int))&&decide ((i:Int)<(len:Int))) (.eptr id s.sz (zl i) 0) st else .bad
    |some _=>.Jx (decide (0<=(i:Int))&&decide ((i:Int)<(len:Int))) (.ptr id<|zm off<|yw (zl i) c.size) st
    |none=>.bad
   | .eptr id sz j off=>bif Jr (st.obj id)then .Jx (decide (0<=(i:Int))&&decide ((i:Int)<(len:Int))) (.eptr id sz j<|zm off<|yw (zl i) c.size) st else .bad
   | .AV s y off=>.Jx (decide (0<=(i:Int))&&decide ((i:Int)<(len:Int))) (.AV s y<|zm off<|yw (zl i) c.size) st
   |_=>.bad
  |none=>.bad
 |_,_=>.bad
def sE(T:Co)(t:TypeId)(x c:PV)(st:AP):PO:=U7 T t (lz x) c st
def Zq(T:Co)(t:TypeId)(x f:PV)(st:AP):PO:=
 match T.und t,x,f with
 |some .string,.dat .str s,.dat (.int _) i=>.Jx (decide (0<=(i:Int))&&decide ((i:Int)<((s:Z).length:Int))) (.dat (.int .u8) (((s:Z).getD (zl i) 0).toNat:Int)) st
 |some (.array len e),.agg cs,.dat (.int _) i=>match T.und e,T.inf e with
  |some d,some c=>ovc (decide (0<=(i:Int))&&decide ((i:Int)<(len:Int))) st<|pick d c.size<|Lr (yw (zl i) c.size) cs
  |_,_=>.bad
 |_,_,_=>.bad
def Sg(x:PV)(i:Nat)(st:AP):PO:=
 match x with
 | .tup vs=>match vs[i]? with
  |some v=>.val v st
  |none=>.bad
 |_=>.bad
def pb(x:Option PV)(IP:Nat):Option (Bool×Nat):=
 match x with
 |none=>some (true,IP)
 |some (.dat (.int _) n)=>some (decide (0<=(n:Int)),zl n)
 |_=>none
def has(mx:Option PV)(c:Nat):Bool:=match mx with
 |none=>true
 |some _=>decide (0<c)
def UK(T:Co)(t:TypeId)(x:PV)(lo f mx:Option PV)(st:AP):PO:=
 match T.und t with
 |some .string=>match x,mx with
  | .dat .str s,none=>match pb lo 0,pb f (s:Z).length with
   |some (d,l),some (c,h)=>.Jx (d&&c&&decide (l<=h)&&decide (h<=(s:Z).length)) (.dat .str<|((s:Z).drop l).take<|Nat.sub h l) st
   |_,_=>.bad
  |_,_=>.bad
 |some (.slice e)=>match T.inf e with
  |some j=>match x with
   | .dat (.list s) g=>bif zd j.size s.sz then
     match pb lo 0,pb f g.length,mx with
     |some (d,l),some (c,h),none=>.Jx (d&&c&&decide (l<=h)&&decide (h<=g.length)) (.dat (.list s)<|(g.drop l).take<|Nat.sub h l) st
     |_,_,_=>.bad
    else .bad
   | .sl id sz off len cap=>bif zd j.size sz&&Jr (st.obj id)then
     match f,mx with
     |none,some _=>.bad
     |_,_=>match pb lo 0,pb f len,pb mx (cap.getD len)with
      |some (d,l),some (c,h),some (i,m)=>.Jx (d&&c&&i&&decide (l<=h)&&decide (h<=m)&&decide (m<=cap.getD len)&&has mx (cap.getD len)) (.sl id sz (zm off l) (Nat.sub h l)<|some<|Nat.sub m l) st
      |_,_,_=>.bad
    else .bad
   | .nil=>match pb lo 0,pb f 0,mx with
    |some (d,l),some (c,h),none=>.Jx (d&&c&&decide (l<=h)&&decide (h<=0)) .nil st
    |some (d,l),some (c,h),some q=>match f,pb (some q) 0 with
     |some _,some (i,m)=>.Jx (d&&c&&i&&decide (l<=h)&&decide (h<=m)&&decide (m<=0)) .nil st
     |_,_=>.bad
    |_,_,_=>.bad
   |_=>.bad
  |none=>.bad
 |_=>.bad
def pR(T:Co)(t:TypeId)(x:PV)(lo c mx:Option PV)(st:AP):PO:=UK T t (lz x) lo c mx st
def pi64(n:Nat):PV:=.dat (.int .i64)<|Int.ofNat n
def Yl(T:Co)(ts:Array TypeId)(args:List PV)(st:AP):PO:=
 match ts[0]?,args with
 |some t,[x]=>match T.und t,x with
  |some .string,.dat .str s=>.val (pi64 (s:Z).length) st
  |some (.slice _),.dat (.list _) l=>.val (pi64 l.length) st
  |some (.slice _),.sl id _ _ len _=>bif Jr (st.obj id)then .val (pi64 len) st else .bad
  |some (.slice _),.nil=>.val (pi64 0) st
  |some (.map _ _),.mp id=>match st.obj id with
   |some (.map _ _ l)=>.val (pi64 l.length) st
   |_=>.bad
  |_,_=>.bad
 |_,_=>.bad
def Aam(T:Co)(ts:Array TypeId)(args:List PV)(st:AP):PO:=Yl T ts (args.map lz) st
def pmm(f:Int->Int->Int)(k:IntKind):Int->List PV->Option Int
 |x,[]=>some x
 |x,.dat (.int c) y::d=>bif k==c then pmm f k (f x y) d else none
 |_,_=>none
def PZ(f:Int->Int->Int)(args:List PV)(st:AP):PO:=
 match args with
 | .dat (.int k) x::c=>match pmm f k x c with
  |some z=>.val (.dat (.int k) z) st
  |none=>.bad
 |_=>.bad
def imax(x y:Int):Int:=if y>x then y else x
def F5(x y:Int):Int:=if y<x then y else x
def ID(st:AP)(s:Sh)(x:PV):Option (Bool×List s.T):=
 match x with
 | .nil=>some (true,[])
 | .dat (.list c) l=>(EX (.list c) (.list s) l).map fun r=>(true,r)
 | .sl id sz off len _=>match st.obj id with
  |some (.arr _ _ c l)=>bif zd sz c.sz then(EX (.list c) (.list s) l).map fun r=>(decide (off+len<=r.length),(r.drop off).take len)else none
  |_=>none
 | .dat .str l=>(EX (.list<|.int .u8) (.list s)<|List.map (fun b:UInt8=>(b.toNat:Int)) l).map fun r=>(true,r)
 |_=>none
def Ro(st:AP)(s:Sh)(x:PV):Option (Bool×List s.T):=ID st s<|lz x
def LIM:Nat:=281474976710656
def sV:Nat:=562949953421312
def VE:TypeDesc->Bool
 | .slice _=>true
 | .string=>true
 |_=>false
def U5(T:Co)(ts:Array TypeId)(args:List PV)(st:AP):PO:=
 match ts[0]?,ts[1]?,args with
 |some t,some f,[b,x]=>match T.und t,T.und f with
  |some (.slice e),some g=>bif VE g then match T.inf e,Zu T 9 e with
   |some i,some s=>
    bif zj 0 i.bytes&&zj 0 i.size&&zd i.zero.length i.size&&zd i.size s.sz then
     match Ro st s x with
     |some (c,new)=>match b with
      | .nil=>match x with
       | .nil=>.val .nil st
       | .dat _ _=>.ite (decide (0<new.length)) (.Jx (c&&decide ((3*new.length+2000)*i.bytes<=sV)) (.sl st.nx s.sz 0 new.length none)<|st.push<|.arr false e s new)<|.val .nil st
       | .sl _ _ _ _ (some _)=>.ite (decide (0<new.length)) (.Jx (c&&decide ((3*new.length+2000)*i.bytes<=sV)) (.sl st.nx s.sz 0 new.length none)<|st.push<|.arr false e s new)<|.Jx c .nil st
       |_=>.Jx (c&&decide (0<new.length)&&decide ((3*new.length+2000)*i.bytes<=sV)) (.sl st.nx s.sz 0 new.length none)<|st.push<|.arr false e s new
      | .sl id sz off len cap=>match st.obj id with
       |some (.arr false j d l)=>match EX (.list d) (.list s) l with
        |some l'=>bif zd e j&&zd sz s.sz then
          match cap with
          |none=>.Jx (c&&decide (off=0)&&decide (len=l'.length)&&decide ((3*(len+new.length)+2000)*i.bytes<=sV)) (.sl st.nx s.sz 0 (zm len new.length) none)<|(st.G5 id).push<|.arr false e s<|l'++new
          |some k=>.Jx (c&&decide (len+new.length<=k)&&decide (off+k<=l'.length)) (.sl id sz off (zm len new.length)<|some k) (st.setObj id<|.arr false e s<|l'.take (off+len)++(new++l'.drop (off+len+new.length)))
         else .bad
        |none=>.bad
       |_=>.bad
      |_=>.bad
     |none=>.bad
    else .bad
   |_,_=>.bad
   else .bad
  |_,_=>.bad
 |_,_,_=>.bad
def bN(T:Co)(ts:Array TypeId)(args:List PV)(st:AP):PO:=
 match ts[0]?,args with
 |some t,[x]=>match T.und t with
  |some (.slice e)=>match x with
   | .nil=>.val (.tup []) st
   | .sl id sz off len _=>match T.inf e,st.obj id with
    |some i,some (.arr false c s l)=>
     bif zd sz s.sz&&zj 0 i.zero.length&&zd i.zero.length s.sz&&Np V.one i.zero then
      match D1 s (i.zero.map Y0)with
      |some z=>.Jx (decide (off+len<=l.length)) (.tup [])<|st.setObj id<|.arr false c s<|l.take off++(yn len z++l.drop (off+len))
      |none=>.bad
     else .bad
    |_,_=>.bad
   |_=>.bad
  |_=>.bad
 |_,_=>.bad
def Za(args:List PV)(st:AP):PO:=
 match args with
 |[.sl id sz off len none]=>bif Jr (st.obj id)then .Jx (decide (0<len)) (.eptr id sz off 0) st else .bad
 |_=>.bad
def UY(l:List Int):Z:=l.map fun x=>UInt8.ofNat x.toNat
def TU(l:List Int):Bool:=l.all fun x=>decide (0<=x)&&decide (x<256)
def oV(T:Co)(ts:List TypeId)(args:List PV)(st:AP):PO:=
 match ts,args with
 |[pt,_],[.eptr id _ i 0,.dat (.int .i64) n]=>match T.und pt,st.obj id with
  |some (.pointer e),some (.arr false f s l)=>match T.inf e,EX (.list s) (.list<|.int .u8) l with
   |some d,some c=>bif zd d.size 1&&zd e f then
     .Jx (decide (i=0)&&decide (0<(n:Int))&&decide (zl n<=(c:List Int).length)&&decide (zl n<=9223372036854775807)&&TU c) (.dat .str<|UY<|(c:List Int).take<|zl n) (st.G5 id)
    else .bad
   |_,_=>.bad
  |_,_=>.bad
 |_,_=>.bad
def JJ(T:Co)(b:Builtin)(ts:Array TypeId)(args:List PV)(st:AP):PO:=
 match b with
 | .len=>Aam T ts args st
 | .append=>U5 T ts args st
 | .max=>PZ imax args st
 | .min=>PZ F5 args st
 | .clear=>bN T ts args st
 | .unsafeSliceData=>Za args st
 | .unsafeString=>oV T ts.toList args st
 |_=>.bad
def rune(s:Z)(pos:Nat):Int:=(yo (bytesOf s) pos).1
def Ll(s:Z)(pos:Nat):Nat:=(yo (bytesOf s) pos).2
def ZN(T:Co)(t:TypeId)(x:PV)(st:AP):PO:=
 match T.und t,x with
 |some .string,.dat .str s=>.val (.ptr st.nx 0)<|st.push<|.siter s 0
 |_,_=>.bad
def wS(x:PV)(c:Bool)(st:AP):PO:=
 match x,c with
 | .ptr id 0,true=>match st.obj id with
  |some (.siter s pos)=>.ite (decide (pos<s.length)) (.val (.tup [.bl true,.dat (.int .i64)<|Int.ofNat pos,.dat (.int .i32)<|rune s pos])<|st.setObj id<|.siter s<|zm pos<|Ll s pos)<|.val (.tup [.bl false]) st
  |_=>.bad
 |_,_=>.bad
def T6(st:AP)(place:Nat->Option (Nat×Nat))(cells:List PV):List (Nat×PV)->Option (List PV)
 |[]=>some cells
 |(i,v)::c=>match place i with
  |none=>none
  |some (off,size)=>match pcs st v with
   |some vs=>bif zd (Fb vs) size&&z8 (zm off size) (Fb cells)then T6 st place (CR off vs cells) c else none
   |none=>none
def aO(T:Co)(st:AP)(t:TypeId)(c:List (Nat×PV)):Option PV:=
 match T.inf t,T.und t with
 |some i,some (.struct fs)=>
  match fs.toList.mapM (fun f=>(T.inf f.type).map fun j=>(f.offset,j.size))with
  |some pl=>(T6 st (fun i=>pl[i]?) (i.zero.map Y0) c).map .agg
  |none=>none
 |some i,some (.array _ e)=>match T.inf e with
  |some j=>(T6 st (fun i=>some (i*j.size,j.size)) (i.zero.map Y0) c).map .agg
  |none=>none
 |_,_=>none
def RH(z:List PV):Nat->List PV
 |0=>[]
 |n+1=>z++RH z n
def CE(st:AP):PV->Option (Bool×PV)
 | .sl id sz off len _=>match st.obj id with
  |some (.arr _ _ s l)=>bif zd sz s.sz then some (decide (off+len<=l.length),.dat (.list s)<|(l.drop off).take len)else none
  |_=>none
 | .dat s x=>some (true,.dat s x)
 | .AV s x off=>some (true,.AV s x off)
 | .bl b=>some (true,.bl b)
 | .nil=>some (true,.nil)
 |_=>none
def Dt(st:AP):List PV->Option (Bool×List PV)
 |[]=>some (true,[])
 |v::vs=>match CE st v,Dt st vs with
  |some (c,x),some (d,e)=>some (c&&d,x::e)
  |_,_=>none
def BP(st:AP):PV->AP
 | .sl id _ _ _ _=>match st.obj id with
  |some (.arr _ e s l)=>st.setObj id<|.arr true e s l
  |_=>st
 |_=>st
def Bx:List PV->AP->AP
 |[],st=>st
 |v::vs,st=>Bx vs<|BP st v
def U4(T:Co)(t:TypeId)(len:Nat)(d:List (Nat×PV))(st:AP):PO:=
 match T.und t with
 |some (.slice e)=>match T.inf e,Zu T 9 e with
  |some i,some s=>
   bif z8 (yw len i.size) 16777216&&zj 0 i.zero.length&&zd i.zero.length i.size&&zd i.size s.sz then
    match T6 st (fun k=>some (k*i.size,i.size)) (RH (i.zero.map Y0) len) d with
    |some cs=>match chunk s len cs with
     |some l=>.val (.sl st.nx s.sz 0 len none)<|st.push<|.arr false e s l
     |none=>match Dt st cs with
      |some (c,cs')=>match chunk s len cs' with
       |some l=>.Jx c (.sl st.nx s.sz 0 len none)<|(Bx cs st).push<|.arr false e s l
       |none=>.bad
      |none=>.bad
    |none=>.bad
   else .bad
  |_,_=>.bad
 |_=>.bad
def sC(T:Co)(t:TypeId)(l c:PV)(st:AP):PO:=
 match T.und t,l,c with
 |some (.slice e),.dat (.int _) l,.dat (.int _) c=>match T.inf e,Zu T 9 e with
  |some i,some s=>
   bif zj 0 i.zero.length&&zd i.zero.length i.size&&zd i.size s.sz then
    match D1 s (i.zero.map Y0)with
    |some z=>.Jx (decide (0<=(l:Int))&&decide ((l:Int)=(c:Int))&&decide (i.bytes*zl l<=LIM)&&decide ((l:Int)<9223372036854775808)) (.sl st.nx s.sz 0 (zl l) none)<|st.push<|.arr false e s<|yn (zl l) z
    |none=>.bad
   else .bad
  |_,_=>.bad
 |_,_,_=>.bad
def kSh(T:Co)(t:TypeId):Option Sh:=match T.und t with
 |some (.int k)=>some<|.int k
 |some .string=>some .str
 |some .bool=>some .bool
 |_=>none
def Oj:PV->Bool
 | .agg _=>true
 |_=>false
def asV(s:Sh)(p:PV):Option s.T:=bif Oj p==s.Ps then D1 s p.cells else none
def bP(T:Co)(t:TypeId)(st:AP):PO:=match T.und t with
 |some (.map c e)=>match kSh T c,Zu T 9 e with
  |some ks,some vs=>.val (.mp st.nx)<|st.push<|.map ks vs []
  |_,_=>.bad
 |_=>.bad
def vA(st:AP)(ks vs:Sh)(m:PV):Option (List<|ks.T×vs.T):=match m with
 | .nilm=>some []
 | .mp id=>match st.obj id with
  |some (.map c d l)=>EX (.list<|.pair c d) (.list<|.pair ks vs) l
  |_=>none
 |_=>none
def vAg:V->Bool
 | .agg _=>true
 |_=>false
def plk(ks vs:Sh)(ok:Bool)(z:vs.T)(x:ks.T)(st:AP):List (ks.T×vs.T)->PO
 |[]=>.val (bif ok then .tup [Cx vs z,.bl false]else Cx vs z) st
 |(a,b)::l=>.ite (Y7 ks x a) (.val (bif ok then .tup [Cx vs b,.bl true]else Cx vs b) st)<|plk ks vs ok z x st l
def V4(T:Co)(t:TypeId)(m k:PV)(ok:Bool)(st:AP):PO:=match T.und t with
 |some (.map c e)=>match kSh T c,Zu T 9 e,T.inf e with
  |some ks,some vs,some i=>match asD ks k,vA st ks vs m,D1 vs (i.zero.map Y0)with
   |some x,some l,some z=>
    bif vAg i.zv==vs.Ps then bif vs.Ac7 then plk ks vs ok z x st l else
     (let v:=Cx vs ((Fa ks vs x l).getD z)
     .val (bif ok then .tup [v,.dat .bool (Fa ks vs x l).isSome]else v) st)
    else .bad
   |_,_,_=>.bad
  |_,_,_=>.bad
 |_=>.bad
def Vt(T:Co)(t:TypeId)(m k v:PV)(st:AP):PO:=match T.und t,m with
 |some (.map d _),.mp id=>match kSh T d,st.obj id with
  |some ks,some (.map c vs l)=>match asD ks k,EX (.list<|.pair c vs) (.list<|.pair ks vs) l,asV vs v with
   |some x,some l,some y=>.val (.tup [])<|st.setObj id<|.map ks vs<|Iq ks vs x y l
   |_,_,_=>.bad
  |_,_=>.bad
 |_,_=>.bad
def Vy(T:Co)(ts:Array TypeId)(args:List PV)(st:AP):PO:=match ts[0]?,args with
 |some t,[.mp id,k]=>match T.und t with
  |some (.map d _)=>match kSh T d,st.obj id with
   |some ks,some (.map c vs l)=>match asD ks k,EX (.list<|.pair c vs) (.list<|.pair ks vs) l with
    |some x,some l=>.val (.tup [])<|st.setObj id<|.map ks vs<|VY ks vs x l
    |_,_=>.bad
   |_,_=>.bad
  |_=>.bad
 |_,_=>.bad
abbrev ML:=Co->AP->PO
def v1(st:AP)(x:Operand)(k:PV->PO):PO:=match SO st x with|some v=>k v|none=>.bad
def Zg(x:Operand):ML:=fun _ st=>ov st<|SO st x
def zK(c a b:Operand):ML:=fun _ st=>v1 st c fun c=>v1 st a fun a=>v1 st b fun b=>tF c a b st
def AdK(T:Co)(t:TypeId):Bool:=
 match T.und t with
 |some (.struct fs)=>match fs[0]? with
  |some f=>match T.und f.type with
   |some (.pointer u)=>zd u t
   |_=>false
  |none=>false
 |_=>false
def Ux(t:TypeId):ML:=fun T st=>match AeO T t with
 |some (s,n)=>.val (.ptr st.nx 0)<|st.push<|.arr false t s<|yn n s.IP
 |none=>match sY T t with|some cs=>.val (.ptr st.nx 0) (st.push<|bif AdK T t then .tbox t cs else .box cs)|none=>.bad
def AdT(_:TypeId)(x:Operand):ML:=fun _ st=>v1 st x fun v=>match pcs st v with|some cs=>bif Np (MT st) cs then .val (.ptr st.nx 0) (st.push<|.box cs)else .bad|none=>.bad
def fN(t:TypeId)(ps:Array (Nat×Operand)):ML:=fun T st=>match mA st ps.toList with|some l=>ov st (aO T st t l)|none=>.bad
def Yx(t:TypeId)(n:Nat)(ps:Array (Nat×Operand)):ML:=fun T st=>match mA st ps.toList with|some l=>U4 T t n l st|none=>.bad
def yO(t:TypeId)(x:Operand):ML:=fun T st=>v1 st x fun a=>Pd T st t a
def dL(t:TypeId)(x y:Operand):ML:=fun T st=>v1 st x fun a=>v1 st y fun b=>aW T st t a b
def QH(x:Operand):ML:=fun _ st=>v1 st x fun a=>match a with| .ptr id _| .eptr id _ _ _=>bif Jr (st.obj id)then .val a st else .bad| .AV .. =>.val a st|_=>.bad
def Adt(T:Co)(op:BinOp)(t:TypeId)(x y:Operand)(a b:PV):Option Bool:=
 match op,a,b,T.und t with
 | .eql,.nili,.nili,some (.interface _)=>bif eQ x||eQ y then some true else none
 | .neq,.nili,.nili,some (.interface _)=>bif eQ x||eQ y then some false else none
 |_,_,_,_=>none
def Ad3(op:BinOp)(t:TypeId)(x y:Operand)(_:TypeId):ML:=fun T st=>v1 st x fun a=>v1 st y fun b=>match Adt T op t x y a b with|some r=>.val (.bl r) st|none=>Ae6 T op t a b st
def Aif(op:UnOp)(_:TypeId)(x:Operand):ML:=fun _ st=>v1 st x fun a=>pun op a st
def uL(s d:TypeId)(x:Operand):ML:=fun T st=>v1 st x fun a=>pB T s d a st
def oP(f:Fn)(a b:Array Operand):ML:=fun _ st=>match N8 st a.toList,N8 st b.toList with|some x,some y=>.val (.fn f x y) st|_,_=>.bad
def qU(t:TypeId)(l c:Operand):ML:=fun T st=>v1 st l fun a=>v1 st c fun b=>sC T t a b st
def o1(st:AP)(x:Option Operand)(k:Option PV->PO):PO:=match x with|none=>k none|some y=>v1 st y fun v=>k<|some v
def fF(t:TypeId)(x:Operand)(a b c:Option Operand):ML:=fun T st=>v1 st x fun v=>o1 st a fun l=>o1 st b fun h=>o1 st c fun m=>pR T t v l h m st
def dC(t:TypeId)(x:Operand)(f:Nat):ML:=fun T st=>v1 st x fun a=>aM T t a f st
def gQ(t:TypeId)(x:Operand)(f:Nat):ML:=fun T st=>v1 st x fun a=>ZC T t a f st
def gS(t:TypeId)(x i:Operand):ML:=fun T st=>v1 st x fun a=>v1 st i fun b=>sE T t a b st
def eX(t:TypeId)(x i:Operand):ML:=fun T st=>v1 st x fun a=>v1 st i fun b=>Zq T t a b st
def Ue(x:Operand)(i:Nat):ML:=fun _ st=>v1 st x fun a=>Sg a i st
def Wn(c:Call):ML:=fun T st=>
 match N8 st c.args.toList with
 |none=>.bad
 |some args=>match c.callee with
  | .builtin b=>match b with
   | .delete=>Vy T c.argTypes args st
   |_=>JJ T b c.argTypes args st
  |_=>.bad
def iK(t:TypeId)(r:Option Operand):ML:=fun T st=>match r with|none=>bP T t st|some _=>.bad
def WC(t:TypeId)(x i:Operand)(ok:Bool):ML:=fun T st=>v1 st x fun a=>v1 st i fun b=>V4 T t a b ok st
def Sm(t:TypeId)(m k x:Operand):ML:=fun T st=>v1 st m fun a=>v1 st k fun b=>v1 st x fun c=>Vt T t a b c st
def eI(t:TypeId)(x:Operand):ML:=fun T st=>v1 st x fun a=>ZN T t a st
def wA(x:Operand)(c:Bool):ML:=fun _ st=>v1 st x fun a=>wS a c st
def Lb:ML:=fun _ _=>.bad
def pop(o:Op):ML:=@Op.casesOn (fun _=>ML) o Zg Zg zK Ux AdT fN Yx Sm yO dL (fun _=>Lb) (fun _=>Lb) QH Ad3 Aif uL
 (fun _ _=>Lb) (fun _ _=>Lb) oP iK (fun _ _=>Lb) qU fF dC gQ gS eX WC Sm (fun _ _ _=>Lb) (fun _ _ _ _=>Lb)
 eI wA (fun _=>Lb) (fun _ _ _ _=>Lb) Ue Wn (fun _=>Lb) (fun _=>Lb) (fun _=>Lb) (fun _ _=>Lb) (fun _ _ _=>Lb) (fun _ _=>Lb)
theorem Pg{s:Z}{i:Nat}(h:i<s.length):(bytesOf s).get! i=s.getD i 0:=by
 unfold bytesOf;show(s.toArray)[i]! =_;simp[h]
theorem YC{s:Z}{i:Nat}(h:i<s.length)(c:(s.getD i 0).toNat<128):rune s i=((s.getD i 0).toNat:Int)/\Ll s i=1:=by
 unfold rune Ll yo;have e:=Pg h;simp only[yv,e,c,wk];simp
theorem Ug{s:Z}{i:Nat}(h:i<s.length)(f:128<=(s.getD i 0).toNat):128<=rune s i:=by
 unfold rune yo;have e:=Pg h;simp only[yv,e];rw[wc ae];have c:(128:Int)<=((Utf8.runeError:Nat):Int):=af
 split
 ·split
  ·rename_i d;simp only;omega
  ·exact c
 ·split
  ·split
   ·rename_i d;simp only[ge_iff_le,zc,w5]at d ⊢;omega
   ·exact c
  ·split
   ·split
    ·rename_i d;simp only[ge_iff_le,zc,w5]at d ⊢;omega
    ·exact c
   ·exact c
end Go.Pe
namespace Go.Sp
def letter(c:Int):Bool:=(decide (97<=c)&&decide (c<=122))||(decide (65<=c)&&decide (c<=90))
def mark(c:Int):Bool:=letter c||(decide (48<=c)&&decide (c<=57))||c==95
def isName:Z->Bool
 |[]=>false
 |c::s=>decide (s.length<=23)&&letter (c.toNat:Int)&&s.all fun c=>mark (c.toNat:Int)
end Go.Sp
namespace Go.Pe
open Go.Det
theorem PS(a b:Z):Y7 .str a b=decide (a=b):=by
 show(a==b)=_;by_cases h:a=b<;>simp[h]
theorem HK{v:Sh}(x k:Z)(b:v.T):∀m:List (Z×v.T),Fa .str v x (Iq .str v k b m)=if x=k then some b else Fa .str v x m
 |[]=>by
  show(bif Y7 .str x k then some b else none)=_;rw[PS];by_cases h:x=k<;>simp[h,Fa]
 |(a,c)::m=>by
  show Fa .str v x (bif Y7 .str k a then(k,b)::m else(a,c)::Iq .str v k b m)=_;rw[PS];by_cases h:k=a
  ·subst h;simp only[decide_true,we];show(bif Y7 .str x k then some b else Fa .str v x m)=if x=k then some b else(bif Y7 .str x k then some c else Fa .str v x m)
   rw[PS];by_cases d:x=k<;>simp[d]
  ·simp only[h,decide_false,wg];show(bif Y7 .str x a then some c else Fa .str v x<|Iq .str v k b m)=if x=k then some b else(bif Y7 .str x a then some c else Fa .str v x m)
   rw[PS,HK x k b m];by_cases d:x=a
   ·subst d;simp[Ne.symm h]
   ·simp[d]
def Jp(m:List (Z×Bool))(p:Z->Prop):Prop:=∀x,(Fa .str .bool x m).getD false=true↔p x
theorem Jp.nil:Jp [] (fun _=>False):=fun x=>by simp[Fa]
theorem Jp.add{m:List (Z×Bool)}{p:Z->Prop}(h:Jp m p)(k:Z):Jp (Iq .str .bool k true m) (fun x=>x=k\/p x):=fun x=>by
 rw[HK];by_cases e:x=k
 ·simp[e]
 ·rw[wc e,h x];simp[e]
theorem Jp.congr{m:List (Z×Bool)}{p q:Z->Prop}(h:Jp m p)(e:∀x,p x↔q x):Jp m q:=fun x=>(h x).trans<|e x
end Go.Pe
namespace Go.Det
section
abbrev Z7:=FuncId->Option (List V->H->Option (V×H))
def Md(P:Program)(s:Z7):Prop:=∀f q,s f=some q->∀(p:Pl) (h:H) (w:World) (args:List V) (args':Array Value) v h',R p h w->Gp p->AB p args args'.toList->q args h=some (v,h')->
 Calls P f args' w fun e w'=>∃v' p',e=.returned v'/\Ag p' v v'/\Ext p h w p' h' w'
def orS(a b:Z7):Z7:=fun f=>match a f with
 |some q=>some q
 |none=>b f
variable {P:Program}
theorem VJ{a b:Z7}(d:Md P a)(c:Md P b):Md P (orS a b):=by
 grind [orS,Md]
def cM(C:Ctx)(s:Z7):Ctx:={ C with spec:=s }
theorem YB{C:Ctx}(c:C.Ok P){s:Z7}(h:Md P s):(cM C s).Ok P where
 T:=c.T
 fn:=c.fn
 prim:=c.prim
 spec:=h
theorem Po{C:Ctx}(c:Hn C)(s:Z7):Hn (cM C s):=c
theorem iI{C:Ctx}(d:C.Ok P)(c:Hn C)(e:P.follows .mixedOrders=true){n:Nat}{L:CX}(h:A0 C n L=true):Md P (LQ L):=AbW (C':=C) d c e h
theorem AM{C:Ctx}{n:Nat}:∀ {a b:CX},A0 C n a=true->A0 C n b=true->A0 C n (a++b)=true
 |[],b,_,h=>h
 |(f,x,v)::a,b,h,k=>by
  simp only[A0,List.cons_append,zc]at h ⊢;exact⟨h.1,AM h.2 k⟩
def Me(C:Ctx)(n:Nat)(L:CX):Z7:=fun f=>match LQ L f with
 |none=>none
 |some q=>some fun args h=>match q args h with
  |some x=>some x
  |none=>match Bp C n (.fn f args) h with
   |some [x]=>some x
   |_=>none
theorem TX{C:Ctx}(s:C.Ok P)(g:Hn C)(o:P.follows .mixedOrders=true){n k:Nat}{L:CX}(u:A0 C k L=true):Md P (Me C n L):=by
 intro f q i p h w args args' v h' hr l c d;unfold Me at i;cases r:LQ L f with
 |none=>grind
 |some q0=>
  rw[r]at i;cases i;simp only at d;split at d
  case h_1=>rename_i x t;cases d;exact iI s g o u f q0 r p h w args args' v h' hr l c t
  case h_2=>
   split at d
   case h_2=>cases d
   rename_i x y;refine((JP s g o n).fn f args h _ y p w args' hr l c).mono ?_;rintro e w' ⟨v1,A,v',p',j,rfl,z,B⟩;grind
theorem NU{p:Pl}{h:H}{w w':World}(hr:R p h w)(c:Go.RowKit.Below w.heap.size w w'):Ext p h w p h w':=by
 obtain⟨g,e,d,f,i⟩:=c;refine⟨(by simp),⟨hr.len,fun b o c=>?_,hr.inj⟩,f,ah,ah,g,d,e,ah⟩;obtain⟨r,m,y,g1,g2,g3⟩:=hr.obj b o c;grind
end
end Go.Det
