import Derived.Test.YtknhdhchejmpgaaGreatDoorX08
/- A part of a proof (no law is stated here). Made by program out of texts by AI agents. -/
noncomputable section
open List renaming mem_singleton -> zc, getElem?_eq_some_iff -> zf, nodup_nil -> zl, mem_cons_of_mem -> zo, mem_cons_self -> zr, mem_append -> zt, mem_cons -> ya, all_cons -> yb, any_eq_true -> yd, map_cons -> yh, mem_map -> yj
open Nat renaming le_refl -> zd, le_trans -> zg, beq -> zh, eq_of_beq_eq_true -> zi, lt_of_lt_of_le -> zj, blt -> zu, le_of_ble_eq_true -> z6, lt_succ_self -> yc, beq_refl -> ye, add -> yi
open Bool renaming and_eq_true -> ze, and_true -> z7
open Option.some renaming injEq -> zk
open Go.Pe.PV renaming cells -> zq
open Go.Pe.Le renaming refl -> zw
open Go.Pe renaming apart -> z8
open Option renaming map_eq_some_iff -> yf
open Go.Det.V renaming beq -> yg
namespace Go.Pe
open Go.Det
section
variable {B:Nat}{h0:H0}{F:Fz}{ρ:D9}{N:Nat}{X:A0}{st st':AI}{fr:Fr}{h h':H}{Q:PV->Ob->Prop}{n:Nat}
@[simp] theorem C2(st:AI)(t:Nat)(p:PV)(s:Nat):(st.set t p).get s=if s=t then p else st.get s:=by
 unfold AI.get AI.set;simp only[PM.C2];split<;>rfl
theorem Rel.set(hr:Rel B h0 F ρ st fr h){t:Nat}{p:PV}{x:V}(hp:PR F ρ st.nx p x):Rel B h0 F ρ (st.set t p) ⟨fr.n,fr.m.set t (some x)⟩ h:=by
 refine⟨⟨hr.fp.n,fun s=>?_⟩,hr.sr⟩;rw[C2];unfold Fr.get;simp only[PM.C2];split
 ·exact hp
 ·exact hr.fp.slot s
theorem Rel.note(hr:Rel B h0 F ρ st fr h){t:Nat}{p:PV}(hp:PR F ρ st.nx p (fr.get t)):Rel B h0 F ρ (st.set t p) fr h:=by
 refine⟨⟨hr.fp.n,fun s=>?_⟩,hr.sr⟩;rw[C2];split
 ·rename_i e;subst e;exact hp
 ·exact hr.fp.slot s
theorem Rel.put(hr:Rel B h0 F ρ st fr h){d:Option Nat}{p:PV}{x:V}(hp:PR F ρ st.nx p x)(hd:st.put d p=some st'):∃fr',fr.put d x=some fr'/\Rel B h0 F ρ st' fr' h/\st'.nx=st.nx/\st'.ob=st.ob:=by
 unfold AI.put at hd;unfold Fr.put;cases d with
 |none=>cases hd;exact⟨fr,rfl,hr,rfl,rfl⟩
 |some t=>
  simp only at hd ⊢;have hn:st.n=fr.n:=hr.fp.n;rw[hn]at hd;cases hb:zu t fr.n with
  |false=>rw[hb]at hd;cases hd
  |true=>
   rw[hb]at hd;simp only[we,zk]at hd;subst hd;exact⟨_,rfl,hr.set hp,rfl,rfl⟩
structure C6(B:Nat)(h0:H0)(F:Fz)(ρ:D9)(N:Nat)(h:H)(st':AI)(fr':Fr)(h':H)(F':Fz)(ρ':D9):Prop where
 rel:Rel B h0 F' ρ' st' fr' h'
 le:Le F ρ N F' ρ' st'.nx
 nx:h.nx<=h'.nx
theorem C6.refl(hr:Rel B h0 F ρ st fr h):C6 B h0 F ρ st.nx h st fr h F ρ:=⟨hr,zw,zd _⟩
theorem C6.trans{F' F'':Fz}{ρ' ρ'':D9}{st'':AI}{fr' fr'':Fr}{h'':H}(a:C6 B h0 F ρ N h st' fr' h' F' ρ')(b:C6 B h0 F' ρ' st'.nx h' st'' fr'' h'' F'' ρ''):C6 B h0 F ρ N h st'' fr'' h'' F'' ρ'':=
 ⟨b.rel,a.le.trans b.le,zg a.nx b.nx⟩
def xS(X:A0)(ρ:D9)(h:H)(args':List V):vW->Cl->Prop
 | .fn g,c=>c=.fn g args'/\X.C.prim g=none/\∃i,X.C.fn g=some i
 | .rnd id,c=>∃b n ls,ρ id=some (b,n)/\h.get b=some (.loop ls)/\args'.length=ls.ps.size/\c=.rnd b ls (Gb ls.ps.toList args' ls.fr)
inductive Mq (X:A0) (ρ:D9) (h:H) (args':List V):vW->List (V×H)->Prop where
 |Bf {g:vW} {c:Cl} {l:List (V×H)} {M:Nat}:xS X ρ h args' g c->(∀m,M<=m->Det.Bf X.C m c h=some l)->Mq X ρ h args' g l
 |prim {g:FuncId} {q:List V->H->Option (V×H)} {x:V×H}:X.C.prim g=some q->q args' h=some x->Mq X ρ h args' (.fn g) [x]
def E2(B:Nat)(h0:H0)(X:A0)(nd:Bool)(call:FM):Prop:=
 ∀ {Q:PV->Ob->Prop} {n:Nat} {g:vW} {args:List PV} {st:AI} {k:PV->AI->Tr},Ev X Q n (call g args st k)->∀ {F:Fz} {ρ:D9} {fr:Fr} {h:H} {args':List V},Rel B h0 F ρ st fr h->Ba F ρ st.nx args args'->
  ∃l,Mq X ρ h args' g l/\(nd=false->∃x,l=[x])/\
   ∀x∈l,∃n',n'<=n/\∃r st',Ev X Q n' (k r st')/\∃F' ρ',PR F' ρ' st'.nx r x.1/\C6 B h0 F ρ st.nx h st' fr x.2 F' ρ'/\(∀gg,g=.fn gg->∀sp,X.sp gg=some sp->∀b,b<h.nx->x.2.get b=h.get b)
theorem Ev.EB{c:Bool}{a b:Tr}(he:Ev X Q n (.ite c a b)):(c=true/\Ev X Q n a)\/(c=false/\Ev X Q n b):=by
 cases he with
 |ite h1 h2=>
  cases c with
  |true=>exact .inl ⟨rfl,h1 rfl⟩
  |false=>exact .inr ⟨rfl,h2 rfl⟩
theorem Ev.T7{a b:Tr}(he:Ev X Q n (.both a b)):Ev X Q n a/\Ev X Q n b:=by
 cases he with
 |both h1 h2=>exact⟨h1,h2⟩
theorem Ev.AA:¬Ev X Q n .fail:=fun h=>by cases h
theorem Ev.Xr{v:PV}{ob:Ob}(he:Ev X Q n (.leaf v ob)):Q v ob:=by
 cases he with
 |leaf h=>exact h
theorem Mp(hr:Rel B h0 F ρ st fr h){ops:Array Oper}{o:Oper}{yes no:AI->Tr}(he:Ev X Q n (guarded ops o st yes no)):
  ∃st1,Rel B h0 F ρ st1 fr h/\st1.nx=st.nx/\st1.ob=st.ob/\((A9 fr ops o=true/\Ev X Q n (yes st1))\/(A9 fr ops o=false/\Ev X Q n (no st1))):=by
 unfold guarded at he;unfold A9;cases hg:o.guard with
 |none=>rw[hg]at he;exact⟨st,hr,rfl,rfl,.inl ⟨rfl,he⟩⟩
 |some jw=>
  obtain⟨j,want⟩:=jw;rw[hg]at he;simp only at he ⊢;cases hb:(ops[j]?).bind (·.dst)with
  |none=>rw[hb]at he;exact wh he Ev.AA
  |some t=>
   rw[hb]at he;simp only at he ⊢;rw[show st.n=fr.n from hr.fp.n]at he;cases hlt:zu t fr.n with
   |false=>rw[hlt]at he;exact wh he Ev.AA
   |true=>
    rw[hlt]at he;simp only[we]at he ⊢;have hs:=hr.fp.slot t;split at he
    case h_1=>
     rename_i b hb2;rw[hb2]at hs;rw[NI hs];refine⟨st,hr,rfl,rfl,?_⟩;cases hbw:(b==want)with
     |true=>rw[hbw]at he;exact .inl ⟨hbw,he⟩
     |false=>rw[hbw]at he;exact .inr ⟨hbw,he⟩
    case h_2=>
     rename_i b hb2;rw[hb2]at hs;have hv:=HC hs;have note:∀c:Bool,b=c->Rel B h0 F ρ (st.set t (.bl c)) fr h:=by
      rintro c rfl;exact hr.note (by rw[hv];exact Iw _)
     rw[hv];cases want with
     |true=>
      simp only[we]at he;rcases he.EB with⟨hb3,he⟩|⟨hb3,he⟩
      ·exact⟨_,note true hb3,rfl,rfl,.inl ⟨by rw[show b=true from hb3];rfl,he⟩⟩
      ·exact⟨_,note false hb3,rfl,rfl,.inr ⟨by rw[show b=false from hb3];rfl,he⟩⟩
     |false=>
      simp only[wg]at he;rcases he.EB with⟨hb3,he⟩|⟨hb3,he⟩
      ·exact⟨_,note true hb3,rfl,rfl,.inr ⟨by rw[show b=true from hb3];rfl,he⟩⟩
      ·exact⟨_,note false hb3,rfl,rfl,.inl ⟨by rw[show b=false from hb3];rfl,he⟩⟩
    case h_5=>exact wh he Ev.AA
    case h_4=>
     rename_i hb2;rw[hb2]at hs;simp only[PR]at hs;obtain⟨b,hv⟩:=hs;have note:∀c:Bool,b=c->Rel B h0 F ρ (st.set t (.bl c)) fr h:=by
      rintro c rfl;exact hr.note (by rw[hv];exact Iw _)
     obtain⟨he1,he2⟩:=he.T7;rw[hv];cases b with
     |true=>
      cases want with
      |true=>exact⟨_,note true rfl,rfl,rfl,.inl ⟨rfl,he1⟩⟩
      |false=>exact⟨_,note true rfl,rfl,rfl,.inr ⟨rfl,he1⟩⟩
     |false=>
      cases want with
      |true=>exact⟨_,note false rfl,rfl,rfl,.inr ⟨rfl,he2⟩⟩
      |false=>exact⟨_,note false rfl,rfl,rfl,.inl ⟨rfl,he2⟩⟩
    case h_3=>
     rename_i l hb2;rw[hb2]at hs;simp only[PR]at hs;obtain⟨cs,hv,_⟩:=hs;rw[hv];exact⟨st,hr,rfl,rfl,.inr ⟨rfl,he⟩⟩
theorem IM{d:Option Nat}{k:AI->Tr}:∀ {po:PO},Ev X Q n (Ov d k po)->∃u s st1,po.To u s/\s.put d u=some st1/\Ev X Q n (k st1)
 | .bad,he=>wh he Ev.AA
 | .val u s,he=>by
  simp only[Ov]at he;split at he
  ·rename_i s1 hs;exact⟨u,s,s1,.val,hs,he⟩
  ·exact wh he Ev.AA
 | .ite c a b,he=>by
  simp only[Ov]at he;rcases he.EB with⟨rfl,he2⟩|⟨rfl,he2⟩
  ·obtain⟨u,s,s1,h1,h2⟩:=IM he2;exact⟨u,s,s1,.tt h1,h2⟩
  ·obtain⟨u,s,s1,h1,h2⟩:=IM he2;exact⟨u,s,s1,.ff h1,h2⟩
inductive qI (X:A0) (fr:Fr) (h:H) (o:Oper):List (V×H)->Prop where
 |val {x:V} {h':H}:F5 X.C fr h o=some (.val x h')->qI X fr h o [(x,h')]
 |skip {h':H}:F5 X.C fr h o=some (.skip h')->qI X fr h o [(.tup [],h')]
 |alts {l:List (V×H)}:F5 X.C fr h o=some (.alts l)->qI X fr h o l
 |call {g:FuncId} {args:List V} {l:List (V×H)} {M:Nat}:F5 X.C fr h o=some (.enter g args)->(∀m,M<=m->Bf X.C m (.fn g args) h=some l)->qI X fr h o l
 |round {b:Nat} {ls:LS} {f:Fr} {l:List (V×H)} {M:Nat}:F5 X.C fr h o=some (.round b ls f)->(∀m,M<=m->Bf X.C m (.rnd b ls f) h=some l)->qI X fr h o l
theorem HF{nd:Bool}{call:FM}(hcall:E2 B h0 X nd call)(hr:Rel B h0 F ρ st fr h){o:Oper}{k:AI->Tr}(he:Ev X Q n (HB X.C.T call o st k)):
  ∃l,qI X fr h o l/\((nd=false->(∃x,l=[x])/\∀l',F5 X.C fr h o≠some (.alts l'))/\((∀id a,JY st o.op≠ .yes (.rnd id) a)->∀b ls f,F5 X.C fr h o≠some (.round b ls f)))/\∀x∈l,∃n',n'<=n/\∃st1,Ev X Q n' (k st1)/\∃F' ρ' fr',fr.put o.dst x.1=some fr'/\C6 B h0 F ρ st.nx h st1 fr' x.2 F' ρ'/\
   ∀ids,G4 X.sp st o.op=some ids->∀b,b<h.nx->x.2.get b=h.get b\/∃id∈ids,∃m,ρ id=some (b,m):=by
 unfold HB at he;split at he
 case h_2=>exact wh he Ev.AA
 case h_1=>
  rename_i g args hc;unfold JY at hc;split at hc
  case h_2=>cases hc
  rename_i c hop;split at hc
  case h_2=>cases hc
  rename_i f hcal;split at hc
  case h_3=>cases hc
  case h_2=>
   rename_i id ps hf hps;cases hc;obtain⟨fv,f1,f2⟩:=B4 (C:=X.C) hr.fp hf;obtain⟨av,a1,a2⟩:=EU (C:=X.C) hr.fp hps;simp only[PR]at f2;obtain⟨l,hcd,hnd,hall⟩:=hcall he hr a2;obtain⟨hcd1,hM⟩:=hcd;obtain⟨b,m,ls,c1,c2,c3,rfl⟩:=hcd1;obtain rfl:=f2.2 b m c1;have hdop:F5 X.C fr h o=some (.round b ls (Gb ls.ps.toList av ls.fr)):=by
    rw[CV];unfold GB;have hb:zh av.length ls.ps.size=true:=by rw[c3];exact ye _
    simp only[hop,hcal,a1,f1,Kp,c2,hb,we]
   refine⟨l,.round hdop hM,⟨fun e=>⟨hnd e,fun l'=>by rw[hdop];intro h;cases h⟩,fun hno=>?_⟩,fun x hx=>?_⟩
   ·exact wh (by unfold JY;simp only[hop,hcal,hf,hps]) (hno id args)
   obtain⟨n',hn,r,st',he',F',ρ',hp,hw,hsp⟩:=hall x hx;split at he'
   case h_2=>exact wh he' Ev.AA
   rename_i st1 hput;obtain⟨fr',g1,g2,g3,g4⟩:=hw.rel.put hp hput;refine⟨n',hn,st1,he',F',ρ',fr',g1,⟨g2,by rw[g3];exact hw.le,hw.nx⟩,fun ids hids b hb=>?_⟩;simp only[hop,G4,hcal,hf]at hids;cases hids
  rename_i g' first cap ps hf hps
  cases hc;obtain⟨fv,f1,f2⟩:=B4 (C:=X.C) hr.fp hf;obtain⟨av,a1,a2⟩:=EU (C:=X.C) hr.fp hps;simp only[PR]at f2;obtain⟨fa,fb,rfl,f3,f4⟩:=f2;have hargs:Ba F ρ st.nx (first++ps++cap) (fa++av++fb):=(f3.append a2).append f4;obtain⟨l,hcd,hnd,hall⟩:=hcall he hr hargs;have hdid:qI X fr h o l/\(∀l',F5 X.C fr h o≠some (.alts l'))/\∀b ls f,F5 X.C fr h o≠some (.round b ls f):=by
   cases hcd with
   |Bf hc hM=>
    obtain⟨rfl,hprim,i,hfn⟩:=hc;have hdop:F5 X.C fr h o=some (.enter g' (fa++av++fb)):=by
     rw[CV];unfold GB;simp only[hop,hcal,a1,f1,Kp,hprim,hfn]
    exact⟨.call hdop hM,fun l'=>(by rw[hdop];intro h;cases h),fun b ls f=>(by rw[hdop];intro h;cases h)⟩
   |prim hq hx=>
    rename_i q x;have hdop:F5 X.C fr h o=some (.val x.1 x.2):=by
     rw[CV];unfold GB;simp only[hop,hcal,a1,f1,Kp,hq,hx,E0]
    exact⟨.val hdop,fun l'=>(by rw[hdop];intro h;cases h),fun b ls f=>(by rw[hdop];intro h;cases h)⟩
  refine⟨l,hdid.1,⟨fun e=>⟨hnd e,hdid.2.1⟩,fun _=>hdid.2.2⟩,fun x hx=>?_⟩;obtain⟨n',hn,r,st',he',F',ρ',hp,hw,hsp⟩:=hall x hx;split at he'
  case h_2=>exact wh he' Ev.AA
  rename_i st1 hput;obtain⟨fr',g1,g2,g3,g4⟩:=hw.rel.put hp hput;refine⟨n',hn,st1,he',F',ρ',fr',g1,⟨g2,by rw[g3];exact hw.le,hw.nx⟩,fun ids hids b hb=>?_⟩;simp only[hop,G4,hcal,hf]at hids;cases hs:X.sp g' with
  |none=>rw[hs]at hids;cases hids
  |some sp=>exact .inl (hsp g' rfl sp hs b hb)
 case h_3=>
  obtain⟨u,s,st1,h1,h2,h3⟩:=IM he;obtain⟨tch,⟨v',h',F',ρ',g1,g2,g3,g4,g5,g6,g7,g8⟩,htch⟩:=mH (C:=X.C) hr h1;have hrs:Rel B h0 F' ρ' s fr h':=⟨⟨by rw[g6];exact hr.fp.n,fun t=>by
   have:s.get t=st.get t:=by unfold AI.get;rw[g5]
   rw[this];exact(hr.fp.slot t).mono g4⟩,g3⟩
  obtain⟨fr',k1,k2,k3,k4⟩:=hrs.put g2 h2;refine⟨[(v',h')],?_,⟨fun _=>⟨⟨_,rfl⟩,fun l'=>by rcases g1 with g1|⟨g1,_⟩<;>rw[g1]<;>intro h<;>cases h⟩,fun _ b ls f=>by rcases g1 with g1|⟨g1,_⟩<;>rw[g1]<;>intro h<;>cases h⟩,fun x hx=>?_⟩
  ·rcases g1 with g1|⟨g1,rfl⟩
   ·exact .val g1
   ·exact .skip g1
  ·cases zc.1 hx;refine⟨n,zd _,st1,h3,F',ρ',fr',k1,⟨k2,by rw[k3];exact g4,g7⟩,fun ids hids b hb=>?_⟩;rcases g8 b hb with e|⟨id,hi,m,e⟩
   ·exact .inl e
   ·exact .inr ⟨id,htch _ _ hids id hi,m,e⟩
theorem wP{α β:Type}{f:α->Option (List β)}{x:α}:bl [x] f=f x:=by
 unfold bl;cases f x<;>rfl
theorem KY{α β:Type}{f:Nat->Nat->α->Option (List β)}{P:β->Prop}{nd:Bool}{l:List α}(hone:nd=false->∃x,l=[x])(h:∀a∈l,∃r M,(∀m,M<=m->∀q,M<=q->f m q a=some r)/\(nd=false->∃x,r=[x])/\∀y∈r,P y):
  ∃r M,(∀m,M<=m->∀q,M<=q->bl l (f m q)=some r)/\(nd=false->∃x,r=[x])/\∀y∈r,P y:=by
 cases nd with
 |false=>
  obtain⟨x,rfl⟩:=hone rfl;obtain⟨r,M,h1,h2,h3⟩:=h x (zc.2 rfl);exact⟨r,M,fun m hm q hq=>by rw[wP];exact h1 m hm q hq,h2,h3⟩
 |true=>
  clear hone;suffices hs:∃r M,(∀m,M<=m->∀q,M<=q->bl l (f m q)=some r)/\∀y∈r,P y by
   obtain⟨r,M,h1,h2⟩:=hs;exact⟨r,M,h1,fun e=>(by cases e),h2⟩
  induction l with
  |nil=>exact⟨[],0,fun _ _ _ _=>rfl,fun y hy=>by cases hy⟩
  |cons a l ih=>
   obtain⟨r,M,h1,_,h2⟩:=h a zr;obtain⟨r2,M2,h3,h4⟩:=ih (fun x hx=>h x (zo _ hx));cases l with
   |nil=>exact⟨r,M,fun m hm q hq=>(by simp only[bl,h1 m hm q hq]),h2⟩
   |cons b l=>
    refine⟨r++r2,max M M2,fun m hm q hq=>?_,fun y hy=>?_⟩
    ·unfold bl;rw[h1 m (by omega) q (by omega)];simp only;rw[h3 m (by omega) q (by omega)]
    ·rcases zt.1 hy with hy|hy
     ·exact h2 y hy
     ·exact h4 y hy
theorem OJ{d:Option Nat}{P:Fr×H->Prop}:∀ {l:List (V×H)},(∀x∈l,∃fr',fr.put d x.1=some fr'/\P (fr',x.2))->∃r,HH fr d l=some r/\(∀y∈r,P y)/\((∃x,l=[x])->∃y,r=[y])
 |[],_=>⟨[],rfl,fun y hy=>(by cases hy),fun⟨x,h⟩=>by cases h⟩
 |x::l,h=>by
  obtain⟨fr',h1,h2⟩:=h x zr;obtain⟨r,h3,h4,_⟩:=OJ (l:=l) (fun y hy=>h y (zo _ hy));refine⟨(fr',x.2)::r,?_,fun y hy=>?_,fun⟨z,hz⟩=>?_⟩
  ·obtain⟨v,hv⟩:=x;unfold HH;rw[h1];simp only;rw[h3]
  ·rcases ya.1 hy with rfl|hy
   ·exact h2
   ·exact h4 y hy
  ·cases hz;cases h3;exact⟨_,rfl⟩
theorem qI.Aap{l:List (V×H)}{o:Oper}{ops:Array Oper}(hd:qI X fr h o l)(hw:A9 fr ops o=true){P:Fr×H->Prop}(hp:∀x∈l,∃fr',fr.put o.dst x.1=some fr'/\P (fr',x.2)):
  ∃r M,(∀m,M<=m->step1 X.C (Bf X.C m) ops o fr h=some r)/\((∃x,l=[x])->∃y,r=[y])/\∀y∈r,P y:=by
 obtain⟨r,h3,h4,h5⟩:=OJ hp;cases hd with
 |@val x h' hd=>
  obtain⟨fr',k1,k2⟩:=hp _ (zc.2 rfl);exact⟨[(fr',h')],0,fun m _=>(by simp only[step1,hw,we,H4,hd,k1]),fun _=>⟨_,rfl⟩,fun y hy=>by cases zc.1 hy;exact k2⟩
 |@skip h' hd=>
  obtain⟨fr',k1,k2⟩:=hp _ (zc.2 rfl);exact⟨[(fr',h')],0,fun m _=>(by simp only[step1,hw,we,H4,hd,k1]),fun _=>⟨_,rfl⟩,fun y hy=>by cases zc.1 hy;exact k2⟩
 |alts hd=>exact⟨r,0,fun m _=>by simp only[step1,hw,we,H4,hd,h3],h5,h4⟩
 |@call g args l M hd hM=>exact⟨r,M,fun m hm=>by simp only[step1,hw,we,H4,hd,hM m hm,h3],h5,h4⟩
 |@round b ls f l M hd hM=>exact⟨r,M,fun m hm=>by simp only[step1,hw,we,H4,hd,hM m hm,h3],h5,h4⟩
theorem Zj{T:BW}{h:H}{s d:TypeId}{b off:Nat}:FU T h s d (.ptr b off)=none:=by
 unfold FU;split<;>first|rfl|(rename_i e;cases e)
theorem eX(hr:Rel B h0 F ρ st fr h){o:Oper}{v:PV}(hb:sY X.C.T st o.op=some v):OK B h0 F ρ st h [] (H4 X.C fr h o) v st:=by
 have fin:∀ {s d:TypeId} {x:Operand} {b off:Nat} {u:V},o.op=.convert s d x->ev X.C fr x=some (.ptr b off)->FE X.C.T h s d (.ptr b off)=some u->PR F ρ st.nx v u->OK B h0 F ρ st h [] (H4 X.C fr h o) v st:=by
  intro s d x b off u hop g1 g2 g3;have hdop:F5 X.C fr h o=none:=by
   rw[CV];unfold GB;rw[hop];simp only[g1,Zj];rfl
  refine OK.pure hr.sr (v':=u) ?_ g3;unfold H4;rw[hdop,hop];simp only[g1,g2]
 unfold sY at hb;split at hb
 case h_2=>cases hb
 rename_i s d x hop;split at hb
 case h_3=>cases hb
 case h_1=>
  rename_i t id off hs hd hx;split at hb
  case h_2=>cases hb
  rename_i i tb cs hi ho;cases hc:(zu 0 i.size&&zu off (Det.Dj cs))with
  |false=>rw[hc]at hb;cases hb
  |true=>
   rw[hc]at hb;cases hb;obtain⟨y,g1,g2⟩:=B4 (C:=X.C) hr.fp hx;obtain⟨b,n,z,k1,k2,⟨bs,fz,rfl,k4,_⟩,_⟩:=hr.sr.at ho;have hy:=g2;simp only[PR]at hy;obtain rfl:=hy.2 b n k1;refine fin hop g1 ?_ g2;unfold FE;rw[hs,hd];simp only[hi,k2];rw[Cj,k4.len]at hc;rw[hc];rfl
 case h_2=>
  rename_i u id off hs hd hx;split at hb
  case h_2=>cases hb
  rename_i i e cs hi ho;cases hc:(zu 0 i.size&&Nat.ble i.size (Det.Dj cs)&&zh e u&&zh off 0)with
  |false=>rw[hc]at hb;cases hb
  |true=>
   rw[hc]at hb;cases hb;obtain⟨y,g1,g2⟩:=B4 (C:=X.C) hr.fp hx;obtain⟨b,n,z,k1,k2,⟨bs,fz,rfl,k4,_⟩,_⟩:=hr.sr.at ho;have hy:=g2;simp only[PR]at hy;obtain rfl:=hy.2 b n k1;have h0:off=0:=by
    simp only[ze]at hc;exact zi hc.2
   subst h0;refine fin hop g1 (u:=.ptr b 0) ?_ g2;unfold FE;rw[hs,hd];simp only[hi,k2];rw[Cj,k4.len]at hc;rw[hc];rfl
theorem Uh(hr:Rel B h0 F ρ st fr h){o:Oper}{v:PV}{stx:AI}(hb:Se X.C.T st o.op=some (v,stx)):OK B h0 F ρ st h [] (H4 X.C fr h o) v stx:=by
 unfold Se at hb;split at hb
 case h_2=>cases hb
 rename_i s d x hop;split at hb
 case h_2=>cases hb
 rename_i e l hs hd hx;split at hb
 case h_2=>cases hb
 rename_i he;cases hb;obtain⟨y,g1,g2⟩:=B4 (C:=X.C) hr.fp hx;obtain rfl:=EZ g2;have hdop:F5 X.C fr h o=none:=by
  rw[CV];unfold GB;rw[hop];simp only[g1,FU,hs,hd];rfl
 have hx:H4 X.C fr h o=E0 (some (.sl h.nx 0 l.length l.length 1,h.push (.cells (l.map fun b=>.int .u8 (.ofNat b.toNat)) e (0,0)))):=by
  have hpt:FE X.C.T h s d (.str l)=none:=by unfold FE;rw[hs,hd]
  unfold H4;rw[hdop,hop];simp only[g1,hpt,Sf,hs,hd,he]
 rw[hx];refine OK.new hr.sr (o:=.arr false e (.int .u8) (l.map fun b=>(b.toNat:Int))) (n:=l.length) rfl ⟨l.map fun b=>V.int .u8 (.ofNat b.toNat),(0,0),rfl,⟨by simp[Sh.sz],fun j hj=>?_⟩,zd _,by simp⟩ ?_
 ·have hj':j<l.length:=by simpa using hj
  have e1:((l.map fun b=>V.int .u8 (.ofNat b.toNat)).drop (j*1)).take 1=[V.int .u8 (.ofNat (l[j]).toNat)]:=by
   rw[Nat.mul_one,List.drop_eq_getElem_cons (by simpa using hj')];simp
  show DC _ (.int .u8) _ (((l.map fun b=>V.int .u8 (.ofNat b.toNat)).drop (j*1)).take 1);rw[e1];simp[DC]
 ·unfold PR;refine⟨yc _,fun b m hb=>.inl ⟨zd _,?_,1,.inr rfl,?_⟩⟩
  ·simp[BK]at hb;show 0+l.length<=m;omega
  ·simp[BK]at hb;rw[<-hb.1];simp
theorem WK(hr:Rel B h0 F ρ st fr h){o:Oper}{v:PV}{stx:AI}(hb:VW X.C.T st o.op=some (v,stx)):OK B h0 F ρ st h [] (H4 X.C fr h o) v stx:=by
 unfold VW at hb;split at hb
 case h_1=>rename_i r hr0;cases hb;exact Uh hr hr0
 case h_2=>
  split at hb
  case h_2=>cases hb
  rename_i u hu;cases hb;exact eX hr hu
theorem Uv{nd:Bool}{call:FM}(hcall:E2 B h0 X nd call){ops:Array Oper}:∀ {l:List Oper} {n:Nat} {st:AI} {F:Fz} {ρ:D9} {fr:Fr} {h:H} {k:AI->Tr},Rel B h0 F ρ st fr h->Ev X Q n (prun X.C.T call ops l st k)->
  ∃r M,(∀m,M<=m->R1 X.C (Bf X.C m) ops l fr h=some r)/\(nd=false->∃x,r=[x])/\∀x∈r,∃n',n'<=n/\∃st1,Ev X Q n' (k st1)/\∃F' ρ',C6 B h0 F ρ st.nx h st1 x.1 x.2 F' ρ'
 |[],n,st,F,ρ,fr,h,k,hr,he=>⟨[(fr,h)],0,fun _ _=>rfl,fun _=>⟨_,rfl⟩,fun x hx=>by cases zc.1 hx;exact⟨n,zd _,st,he,F,ρ,C6.refl hr⟩⟩
 |o::rest,n,st,F,ρ,fr,h,k,hr,he=>by
  unfold prun at he;obtain⟨st1,hr1,e1,e2,hcase⟩:=Mp hr he;have fin:∀ {l:List (Fr×H)},(∃M,∀m,M<=m->step1 X.C (Bf X.C m) ops o fr h=some l)->(nd=false->∃x,l=[x])->
    (∀y∈l,∃n',n'<=n/\∃st2,Ev X Q n' (prun X.C.T call ops rest st2 k)/\∃F' ρ',C6 B h0 F ρ st.nx h st2 y.1 y.2 F' ρ')->
    ∃r M,(∀m,M<=m->R1 X.C (Bf X.C m) ops (o::rest) fr h=some r)/\(nd=false->∃x,r=[x])/\∀x∈r,∃n',n'<=n/\∃st1,Ev X Q n' (k st1)/\∃F' ρ',C6 B h0 F ρ st.nx h st1 x.1 x.2 F' ρ':=by
   rintro l ⟨M1,hM1⟩ hone hl;obtain⟨r,M,h1,h2,h3⟩:=KY (f:=fun m _ (x:Fr×H)=>R1 X.C (Bf X.C m) ops rest x.1 x.2) (P:=fun x=>∃n',n'<=n/\∃st1,Ev X Q n' (k st1)/\∃F' ρ',C6 B h0 F ρ st.nx h st1 x.1 x.2 F' ρ') hone fun y hy=>by
    obtain⟨n1,hn1,st2,he2,F1,ρ1,hwent⟩:=hl y hy;obtain⟨r,M,h1,h3,h2⟩:=Uv hcall hwent.rel he2;refine⟨r,M,fun m hm _ _=>h1 m hm,h3,fun z hz=>?_⟩;obtain⟨n2,hn2,st3,he3,F2,ρ2,hwent2⟩:=h2 z hz;exact⟨n2,zg hn2 hn1,st3,he3,F2,ρ2,hwent.trans hwent2⟩
   refine⟨r,max M M1,fun m hm=>?_,h2,h3⟩;simp only[R1,hM1 m (by omega)];exact h1 m (by omega) m (by omega)
  rcases hcase with⟨hw,he⟩|⟨hw,he⟩
  ·unfold rZ at he;split at he
   case h_1=>
    rename_i v stx hb;split at he
    case h_2=>exact wh he Ev.AA
    rename_i st2 hput;obtain⟨v',h',F',ρ',g1,g2,g3,g4,g5,g6,g7,g8⟩:=WK hr1 hb;have hrs:Rel B h0 F' ρ' stx fr h':=⟨⟨by rw[g6];exact hr1.fp.n,fun t=>by
     have:stx.get t=st1.get t:=by unfold AI.get;rw[g5]
     rw[this];exact(hr1.fp.slot t).mono g4⟩,g3⟩
    have hpr:∃u,PR F' ρ' stx.nx v u/\∀fr',fr.put o.dst u=some fr'->∀m,step1 X.C (Bf X.C m) ops o fr h=some [(fr',h')]:=by
     rcases g1 with g1|⟨g1,rfl⟩
     ·exact⟨v',g2,fun fr' k1 m=>by simp only[step1,hw,we,g1,k1]⟩
     ·exact⟨.tup [],g2,fun fr' k1 m=>by simp only[step1,hw,we,g1,k1]⟩
    obtain⟨u,hu,DF⟩:=hpr;obtain⟨fr',k1,k2,k3,k4⟩:=hrs.put hu hput;refine fin (l:=[(fr',h')]) ⟨0,fun m _=>DF fr' k1 m⟩ (fun _=>⟨_,rfl⟩) fun y hy=>?_
    cases zc.1 hy;exact⟨n,zd _,st2,he,F',ρ',k2,by rw[k3, <-e1];exact g4,g7⟩
   obtain⟨l,hdid,hnd,hall⟩:=HF hcall hr1 he;obtain⟨r,M,h1,h3,h2⟩:=hdid.Aap (ops:=ops) (P:=fun y=>∃n',n'<=n/\∃st2,Ev X Q n' (prun X.C.T call ops rest st2 k)/\∃F' ρ',C6 B h0 F ρ st.nx h st2 y.1 y.2 F' ρ') hw fun x hx=>by
    obtain⟨n1,hn1,st2,he2,F1,ρ1,fr1,hput,hwent,_⟩:=hall x hx;rw[e1]at hwent;exact⟨fr1,hput,n1,hn1,st2,he2,F1,ρ1,hwent⟩
   exact fin ⟨M,h1⟩ (fun e=>h3 (hnd.1 e).1) h2
  ·unfold LX at he;split at he
   case h_2=>exact wh he Ev.AA
   rename_i st2 hput;obtain⟨fr1,g1,g2,g3,g4⟩:=hr1.put (x:=.tup []) (by simp[PR]) hput;refine fin (l:=[(fr1,h)]) ⟨0,fun m _=>by simp only[step1,hw,wg,g1]⟩ (fun _=>⟨_,rfl⟩) fun y hy=>?_
   cases zc.1 hy;exact⟨n,zd _,st2,he,F,ρ,g2,by rw[g3,e1];exact zw,zd _⟩
mutual
theorem Ma:∀v:V,yg v v=true
 | .bool b=>by simp[yg]
 | .int k n=>by simp[yg]
 | .str s=>by simp[yg]
 | .nilp=>rfl
 | .ptr a i=>by simp[yg]
 | .nils=>rfl
 | .sl a b c d e=>by simp[yg]
 | .esl=>rfl
 | .es0=>rfl
 | .junk=>rfl
 | .nilm=>rfl
 | .map a=>by simp[yg]
 | .yld a=>by simp[yg]
 | .nilf=>rfl
 | .nili=>rfl
 | .fn f a b=>by simp only[yg,FH a,FH b,z7,wj]
 | .iface t x=>by simp only[yg,Ma x,z7];exact ye t
 | .agg a=>by simp only[yg];exact FH a
 | .tup a=>by simp only[yg];exact FH a
theorem FH:∀vs:List V,V.Lm vs vs=true
 |[]=>rfl
 |v::vs=>by simp only[V.Lm,Ma v,FH vs,z7]
end
theorem jP{T:BW}{t:TypeId}{a x:V}(hd:EK T h t a=some x):∃b off o,a=.ptr b off/\h.get b=some o/\(∀g:H,g.get b=h.get b->EK T g t a=some x)/\
  ∀(g:H) cs t1 f1 t2 f2,h.get b=some (.cells cs t1 f1)->g.get b=some (.cells cs t2 f2)->EK T g t a=some x:=by
 unfold EK at hd;split at hd
 case h_2=>cases hd
 rename_i b off d i e1 e2;have hb:∃o,h.get b=some o:=by
  cases hg:h.get b with
  |some o=>exact⟨o,rfl⟩
  |none=>
   unfold rd at hd;rw[hg]at hd;cases DW d<;>simp at hd
 obtain⟨o,ho⟩:=hb;refine⟨b,off,o,rfl,ho,fun g hg=>?_,fun g cs t1 f1 t2 f2 k1 k2=>?_⟩
 ·unfold EK;simp only[e1,e2];unfold rd at hd ⊢;rw[hg];exact hd
 ·unfold EK;simp only[e1,e2];unfold rd at hd ⊢;rw[k1]at hd;rw[k2];exact hd
def SH(C:Ctx)(F:Fz)(bl:List Nat)(h:H)(fr:Fr)(o:Oper)(x:V):Prop:=
 ∀g:H,(∀b cs,F b=some cs->∃t fz,g.get b=some (.cells cs t fz))->(∀b∈bl,g.get b=h.get b)->∃z,F5 C fr g o=some (.val x z)
theorem VV:∀ {s:Sh} {x:s.T} {cs:List V} {b:Nat},DC F s x cs->V.map b∉cs
 | .int _,_,_,_,h,hm=>by simp only[DC]at h;subst h;cases zc.1 hm
 | .bool,_,_,_,h,hm=>by simp only[DC]at h;subst h;cases zc.1 hm
 | .str,_,_,_,h,hm=>by simp only[DC]at h;subst h;cases zc.1 hm
 | .list s,l,_,_,h,hm=>by
  simp only[DC]at h;obtain⟨v,rfl,h⟩:=h;obtain rfl:=zc.1 hm;rcases h with⟨_,h|h|h⟩|⟨b,off,cap,o,bs,h,_⟩<;>cases h
 | .pair a b,x,_,_,h,hm=>by
  simp only[DC]at h;obtain⟨c,d,rfl,h1,h2⟩:=h;rcases zt.1 hm with hm|hm
  ·exact VV h1 hm
  ·exact VV h2 hm
 | .unit,_,_,_,h,hm=>by simp only[DC]at h;subst h;cases hm
 | .fnv,x,_,_,h,hm=>by simp only[DC]at h;subst h;have:=zc.1 hm;revert this;cases (x:Option Fn)<;>intro h<;>cases h
 | .nlist s,l,_,_,h,hm=>by
  simp only[DC]at h;obtain⟨v,rfl,h⟩:=h;obtain rfl:=zc.1 hm;rcases h with⟨_,h⟩|⟨_,b,off,cap,o,bs,h,_⟩<;>cases h
theorem WJ{s:Sh}{x:s.T}{b:Nat}(hp:PR F ρ N (.dat s x) (.map b)):False:=by
 simp only[PR]at hp;exact VV hp (zc.2 rfl)
theorem Wp{b:Nat}(hp:PR F ρ N .nil (.map b)):False:=by
 simp only[PR]at hp;cases hp
theorem aW(hr:SR B h0 F ρ st.nx st.ob h){o:Oper}{c:Call}(hop:o.op=.call c)(hcal:c.callee=.builtin .len){id sz off len:Nat}{cap:Option Nat}(hps:LC st c.args.toList=some [.sl id sz off len cap]){u:PV}{s:AI}
  (ht:(pop o.op X.C.T st).To u s) {b:Nat} (hp:PR F ρ st.nx (.sl id sz off len cap) (.map b)):False:=by
 rw[hop]at ht;simp only[pop,R6,hps,hcal,ID,mO,Ub,yh,List.map_nil,lz]at ht;split at ht
 case h_2=>simp at ht
 rename_i t x _ he;cases he;split at ht
 case h_3=>
  rename_i he;cases he;cases hl:HU (st.obj id)with
  |false=>rw[hl]at ht;simp at ht
  |true=>
   obtain⟨b',n,h1⟩:=hr.live hl;simp only[PR]at hp;rcases hp.2 b' n h1 with⟨_,_,o,_,h⟩|⟨_,_,_,h|⟨_,h,_⟩⟩<;>cases h
 all_goals first|(simp at ht;done)|(rename_i he;cases he;done)|(rename_i he _;cases he)
theorem OU{T:BW}{ts:Array TypeId}{a:V}{g:H}(hnm:∀b,a≠ .map b)(h:H):FA T g ts [a]=FA T h ts [a]:=by
 unfold FA;cases ts[0]? with
 |none=>rfl
 |some t=>
  simp only;cases T.und t with
  |none=>cases a<;>rfl
  |some d=>cases d<;>cases a<;>first|rfl|(rename_i b;exact wh rfl (hnm b))|(rename_i b _;exact wh rfl (hnm b))|(rename_i b _ _;exact wh rfl (hnm b))
theorem Y3(hr:Rel B h0 F ρ st fr h){o:Oper}{x:V}(hd:F5 X.C fr h o=some (.val x h)){l:List Nat}(hl:nX st o.op=some l)(hto:∃u s,(pop o.op X.C.T st).To u s):
  ∃bl,SH X.C F bl h fr o x/\∀b∈bl,b<h.nx/\∃id∈l,id<st.nx/\∀y,ρ id=some y->y.1=b:=by
 unfold nX at hl;rw[CV]at hd;unfold GB at hd;split at hl
 case h_5=>cases hl
 case h_4 t y i ok hop=>
  simp only[hop]at hd;have hdop:∀g,F5 X.C fr g o=(match ev X.C fr y,ev X.C fr i with|some v,some u=>Bt g (Ez X.C.T g t v u ok)|_,_=>none):=fun g=>by rw[CV];unfold GB;simp only[hop];rfl
  cases hy:ev X.C fr y with
  |none=>rw[hy]at hd;cases hd
  |some a=>
   cases hi:ev X.C fr i with
   |none=>rw[hy,hi]at hd;cases hd
   |some u=>
    rw[hy,hi]at hd;simp only at hd;obtain⟨x',hx',he⟩:=Gi hd;cases he;have hloc:∀g:H,entries g a=entries h a->Ez X.C.T g t a u ok=some x:=by
     intro g hg;unfold Ez at hx' ⊢;rw[hg];exact hx'
    split at hl
    case h_3=>cases hl
    case h_1=>
     rename_i id hp;obtain⟨a',g1,g2⟩:=B4 (C:=X.C) hr.fp hp;rw[hy]at g1;cases g1;have hent:∃es,entries h a=some es:=by
      unfold Ez at hx';split at hx'
      case h_2=>cases hx'
      split at hx'
      case h_2=>cases hx'
      rename_i es _ he;exact⟨es,he⟩
     obtain⟨es,he⟩:=hent;cases hl;by_cases hmap:∃b,a=.map b
     ·obtain⟨b,rfl⟩:=hmap;have hb:∃ob,h.get b=some ob:=by
       cases hg:h.get b with
       |none=>simp[entries,hg]at he
       |some ob=>exact⟨ob,rfl⟩
      obtain⟨ob,hb⟩:=hb;simp only[PR]at g2;refine⟨[b],fun g _ hg=>⟨g,?_⟩,fun b' hb'=>?_⟩
      ·rw[hdop,hy,hi];simp only;rw[hloc g (by simp only[entries,hg b (zc.2 rfl)])];rfl
      ·cases zc.1 hb';refine⟨hr.sr.lt b ob hb,id,zc.2 rfl,g2.1,fun z hz=>?_⟩;have:=g2.2 z.1 z.2 hz;cases this;rfl
     ·refine⟨[],fun g _ hg=>⟨g,?_⟩,fun b' hb'=>by cases hb'⟩;rw[hdop,hy,hi];simp only;rw[hloc g ?_];rfl;cases a<;>first|rfl|(rename_i b;exact wh ⟨b,rfl⟩ hmap)
    case h_2=>
     rename_i hp;obtain⟨a',g1,g2⟩:=B4 (C:=X.C) hr.fp hp;rw[hy]at g1;cases g1;simp only[PR]at g2;subst g2;cases hl;refine⟨[],fun g _ hg=>⟨g,?_⟩,fun b' hb'=>by cases hb'⟩;rw[hdop,hy,hi];simp only;rw[hloc g rfl];rfl
 case h_1 t y hop=>
  simp only[hop]at hd;have hdop:∀g,F5 X.C fr g o=(match ev X.C fr y with|some v=>Bt g (EK X.C.T g t v)|none=>none):=fun g=>by rw[CV];unfold GB;simp only[hop];rfl
  cases hy:ev X.C fr y with
  |none=>rw[hy]at hd;cases hd
  |some a=>
   rw[hy]at hd;simp only at hd;obtain⟨x',hx',he⟩:=Gi hd;cases he;obtain⟨b,off,ob,rfl,hb,hloc,hfz⟩:=jP hx';have hblt:=hr.sr.lt b ob hb;have live:∀id,id<st.nx->(∀z,ρ id=some z->z.1=b)->l=[id]->∃bl,SH X.C F bl h fr o x/\∀b∈bl,b<h.nx/\∃id∈l,id<st.nx/\∀y,ρ id=some y->y.1=b:=by
    rintro id hlt hid rfl;refine⟨[b],fun g _ hg=>⟨g,?_⟩,fun b' hb'=>?_⟩
    ·rw[hdop,hy];simp only;rw[hloc g (hg b (zc.2 rfl))];rfl
    ·cases zc.1 hb';exact⟨hblt,id,zc.2 rfl,hlt,hid⟩
   split at hl
   case h_4=>cases hl
   case h_1=>
    rename_i id off' hp;obtain⟨a',g1,g2⟩:=B4 (C:=X.C) hr.fp hp;rw[hy]at g1;cases g1;simp only[PR]at g2;refine live id g2.1 (fun z hz=>?_) (by cases hl;rfl);have:=g2.2 z.1 z.2 hz;cases this;rfl
   case h_2=>
    rename_i id sz j off' hp;obtain⟨a',g1,g2⟩:=B4 (C:=X.C) hr.fp hp;rw[hy]at g1;cases g1;simp only[PR]at g2;refine live id g2.1 (fun z hz=>?_) (by cases hl;rfl);have:=g2.2 z.1 z.2 hz;cases this;rfl
   case h_3=>
    rename_i s y' off' hp;obtain⟨a',g1,g2⟩:=B4 (C:=X.C) hr.fp hp;rw[hy]at g1;cases g1;simp only[PR]at g2;obtain⟨b',o',cs,he,hF,_⟩:=g2;cases he;obtain⟨t1,f1,k1⟩:=hr.sr.frz b cs hF;refine⟨[],fun g hg _=>⟨g,?_⟩,fun b' hb'=>by cases hb'⟩;obtain⟨t2,f2,k2⟩:=hg b cs hF;rw[hdop,hy];simp only;rw[hfz g cs t1 f1 t2 f2 k1 k2];rfl
 case h_2 s d y hop=>
  simp only[hop]at hd;have hdop:∀g,F5 X.C fr g o=(match ev X.C fr y with|some v=>Bt g (FU X.C.T g s d v)|none=>none):=fun g=>by rw[CV];unfold GB;simp only[hop];rfl
  have fin:∀a,ev X.C fr y=some a->(∀g,FU X.C.T g s d a=FU X.C.T h s d a)->∃bl,SH X.C F bl h fr o x/\∀b∈bl,b<h.nx/\∃id∈l,id<st.nx/\∀y,ρ id=some y->y.1=b:=by
   intro a ha hg;rw[ha]at hd;simp only at hd;obtain⟨x',hx',he⟩:=Gi hd;cases he;exact⟨[],fun g _ _=>⟨g,by rw[hdop,ha];simp only;rw[hg,hx'];rfl⟩,fun b hb=>by cases hb⟩
  split at hl
  case h_3=>cases hl
  case h_1=>
   rename_i k z hp;obtain⟨a',g1,g2⟩:=B4 (C:=X.C) hr.fp hp;simp only[PR,DC,List.cons.injEq,wn]at g2;subst g2;exact fin _ g1 fun g=>by
    unfold FU;cases X.C.T.und s with
    |none=>rfl
    |some u=>cases X.C.T.und d with
     |none=>cases u<;>rfl
     |some w=>cases u<;>cases w<;>rfl
  case h_2=>
   rename_i z hp;obtain⟨a',g1,g2⟩:=B4 (C:=X.C) hr.fp hp;simp only[PR,DC,List.cons.injEq,wn]at g2;subst g2;exact fin _ g1 fun g=>by
    unfold FU;cases X.C.T.und s with
    |none=>rfl
    |some u=>cases X.C.T.und d with
     |none=>cases u<;>rfl
     |some w=>cases u<;>cases w<;>rfl
 case h_3 c hop=>
  simp only[hop]at hd;split at hl
  case h_5=>cases hl
  case h_4=>
   rename_i id hcal hps;obtain⟨Abz,g1,g2⟩:=EU (C:=X.C) hr.fp hps;simp only[Ba]at g2;obtain⟨a,as',rfl,g2,rfl⟩:=g2;have hdop:∀g,F5 X.C fr g o=Bt g (FA X.C.T g c.argTypes [a]):=fun g=>by rw[CV];unfold GB;simp only[hop,hcal,g1];rfl
   simp only[hcal,g1,Em]at hd;obtain⟨x',hx',he⟩:=Gi hd;cases he;cases hl;by_cases hmap:∃b,a=.map b
   ·obtain⟨b,rfl⟩:=hmap;simp only[PR]at g2;by_cases hb:∃ob,h.get b=some ob
    ·obtain⟨ob,hb⟩:=hb;refine⟨[b],fun g _ hg=>⟨g,?_⟩,fun b' hb'=>?_⟩
     ·rw[hdop];have:FA X.C.T g c.argTypes [.map b]=FA X.C.T h c.argTypes [.map b]:=by
       unfold FA;cases c.argTypes[0]? with
       |none=>rfl
       |some t=>
        simp only;cases X.C.T.und t with
        |none=>rfl
        |some d=>cases d<;>first|rfl|simp only[hg b (zc.2 rfl)]
      rw[this,hx'];rfl
     ·cases zc.1 hb';refine⟨hr.sr.lt b ob hb,id,zc.2 rfl,g2.1,fun z hz=>?_⟩;have:=g2.2 z.1 z.2 hz;cases this;rfl
    ·have hnone:h.get b=none:=by
      cases hg:h.get b with
      |none=>rfl
      |some ob=>exact wh ⟨ob,hg⟩ hb
     refine⟨[],fun g _ _=>⟨g,?_⟩,fun b' hb'=>by cases hb'⟩;obtain⟨uu,s,ht⟩:=hto;exfalso;rw[hop]at ht;simp only[pop,R6,hps,hcal,ID,mO,Ub,yh,List.map_nil,lz]at ht;split at ht
     case h_2=>simp at ht
     rename_i t x _ he;cases he;split at ht
     case h_5=>
      rename_i he;cases he;split at ht
      case h_2=>simp at ht
      rename_i ks vs l ho;obtain⟨b1,n1,o1,q1,q2,_⟩:=hr.sr.at ho;have:=g2.2 b1 n1 q1;cases this;rw[hnone]at q2;cases q2
     all_goals first|(simp at ht;done)|(rename_i he;cases he;done)|(rename_i he _;cases he)
   ·refine⟨[],fun g _ _=>⟨g,?_⟩,fun b hb=>by cases hb⟩;rw[hdop,OU (fun b e=>hmap ⟨b,e⟩) h,hx'];rfl
  all_goals
   rename_i hcal hps;obtain⟨Abz,g1,g2⟩:=EU (C:=X.C) hr.fp hps;simp only[Ba]at g2;obtain⟨a,as',rfl,g2,rfl⟩:=g2;have hdop:∀g,F5 X.C fr g o=Bt g (FA X.C.T g c.argTypes [a]):=fun g=>by rw[CV];unfold GB;simp only[hop,hcal,g1];rfl
   simp only[hcal,g1,Em]at hd;have hnm:∀b,a≠ .map b:=by
    intro b e;subst e;first
     |exact WJ g2
     |exact Wp g2
     |(obtain⟨u,s,ht⟩:=hto
       exact aW hr.sr hop hcal hps ht g2)
   obtain⟨x',hx',he⟩:=Gi hd;cases he;refine⟨[],fun g _ _=>⟨g,?_⟩,fun b hb=>by cases hb⟩;rw[hdop];rw[OU hnm h,hx'];rfl
structure kG(C:Ctx)(F:Fz)(ρ:D9)(N:Nat)(h:H)(r:Nat×Option (List Nat))(c:Rc):Prop where
 i:c.i=r.1
 k:∀l,r.2=some l->∃bl,SH C F bl h c.f c.o c.v/\∀b∈bl,b<h.nx/\∃id∈l,id<N/\∀y,ρ id=some y->y.1=b
def V8(C:Ctx)(F:Fz)(ρ:D9)(N:Nat)(h:H):Rs->List Rc->Prop
 |[],l=>l=[]
 |r::rs,l=>∃c cs,l=c::cs/\kG C F ρ N h r c/\V8 C F ρ N h rs cs
theorem kG.mono{F':Fz}{ρ':D9}{N':Nat}{r:Nat×Option (List Nat)}{c:Rc}(hk:kG X.C F ρ N h r c)(hl:Le F ρ N F' ρ' N')(hx:h.nx<=h'.nx)
  (hs:∀l,r.2=some l->∀b,b<h.nx->(∃id∈l,id<N/\∀y,ρ id=some y->y.1=b)->h'.get b=h.get b):kG X.C F' ρ' N' h' r c:=by
 refine⟨hk.i,fun l hl'=>?_⟩;obtain⟨bl,h1,h2⟩:=hk.k l hl';refine⟨bl,fun g hg hb=>h1 g (fun b cs hF=>hg b cs (hl.fz b cs hF)) (fun b hb'=>?_),fun b hb'=>?_⟩
 ·obtain⟨k1,k2⟩:=h2 b hb';rw[hb b hb',hs l hl' b k1 k2]
 ·obtain⟨k1,id,k2,k3,k4⟩:=h2 b hb';exact⟨zj k1 hx,id,k2,zj k3 hl.n,fun y hy=>k4 y (hl.at k3 hy)⟩
theorem V8.mono{F':Fz}{ρ':D9}{N':Nat}(hl:Le F ρ N F' ρ' N')(hx:h.nx<=h'.nx)(hs:∀b,b<h.nx->h'.get b=h.get b):∀ {rs:Rs} {cs:List Rc},V8 X.C F ρ N h rs cs->V8 X.C F' ρ' N' h' rs cs
 |[],_,hk=>hk
 |r::rs,_,hk=>by
  obtain⟨c,cs,rfl,h1,h2⟩:=hk;exact⟨c,cs,rfl,h1.mono hl hx (fun l _ b hb _=>hs b hb),V8.mono hl hx hs h2⟩
theorem V8.apart{F':Fz}{ρ':D9}{fr':Fr}{anc:Nat->Nat->Bool}{i:Nat}{t:Option (List Nat)}(hr:Rel B h0 F ρ st fr h)(hw:C6 B h0 F ρ st.nx h st' fr' h' F' ρ')
  (ht:∀ids,t=some ids->∀b,b<h.nx->h'.get b=h.get b\/∃id∈ids,∃m,ρ id=some (b,m)):
  ∀ {rs:Rs} {cs:List Rc},V8 X.C F ρ st.nx h rs cs->z8 anc i st t rs=true->cs.all (still X.C anc i h')=true/\V8 X.C F' ρ' st'.nx h' (behind st t rs) cs
 |[],_,hk,_=>by
  cases hk;exact⟨rfl,rfl⟩
 |r::rs,_,hk,ha=>by
  obtain⟨c,cs,rfl,h1,h2⟩:=hk;unfold z8 at ha;rw[yb,ze]at ha;obtain⟨h3,h4⟩:=V8.apart hr hw ht h2 (by unfold z8;exact ha.2);have key:(ZB r.2 t&&K3 st r.2)=true->∀l,r.2=some l->∀b,b<h.nx->(∃id∈l,id<st.nx/\∀y,ρ id=some y->y.1=b)->h'.get b=h.get b:=by
   rintro hd l hl b hb ⟨id,k1,k2,k3⟩;simp only[ze,hl]at hd;have hlive:=List.all_eq_true.1 hd.2 id k1;obtain⟨b1,m1,e1⟩:=hr.sr.live hlive;obtain rfl:b1=b:=k3 _ e1;cases t with
   |none=>
    cases l with
    |nil=>cases k1
    |cons a l=>cases hd.1
   |some ids=>
    rcases ht ids rfl b1 hb with e|⟨id',k4,m,e2⟩
    ·exact e
    ·exfalso;obtain⟨o1,g1⟩:=HX hlive;have g2:∃o2,AL st.ob id'=some o2:=by
      cases hg:AL st.ob id' with
      |some o2=>exact⟨o2,rfl⟩
      |none=>rw[hr.sr.dead id' hg]at e2;cases e2
     obtain⟨o2,g2⟩:=g2;obtain rfl:=hr.sr.inj id id' o1 o2 b1 m1 m g1 g2 e1 e2;have h5:=List.all_eq_true.1 hd.1 id k1;simp only[Bool.not_eq_true']at h5;have h6:ids.any (zh id)=true:=yd.2 ⟨id,k4,ye id⟩;rw[h6]at h5;cases h5
  refine⟨?_,c,cs,rfl,?_,h4⟩
  ·rw[yb,h3,z7];unfold still;rw[h1.i];cases han:anc i r.1 with
   |true=>rfl
   |false=>
    rw[han]at ha;simp only[Bool.false_or]at ha ⊢;have hd:=ha.1;have hl:∃l,r.2=some l:=by
     cases hr2:r.2 with
     |some l=>exact⟨l,rfl⟩
     |none=>rw[hr2]at hd;simp[ZB]at hd
    obtain⟨l,hl⟩:=hl;obtain⟨bl,k1,k2⟩:=h1.k l hl;obtain⟨z,hz⟩:=k1 h' (fun b cs hF=>hw.rel.sr.frz b cs (hw.le.fz b cs hF)) (fun b hb=>key hd l hl b (k2 b hb).1 (k2 b hb).2);rw[hz];simp only;exact Ma _
  ·show kG X.C F' ρ' st'.nx h' (bif ZB r.2 t&&K3 st r.2 then r else(r.1,none)) c;cases hd:(ZB r.2 t&&K3 st r.2)with
   |true=>exact h1.mono hw.le hw.nx (key hd)
   |false=>
    exact⟨h1.i,fun l hl=>by cases hl⟩
theorem NL{C:Ctx}{o:Oper}(ha:Co o=true){r:OR}(hd:F5 C fr h o=some r):∃ob f,aN C fr o=some (ob,f)/\r=.val (f h.nx) (h.push ob):=by
 rw[CV]at hd;unfold GB at hd;unfold Co at ha;unfold aN;split at ha
 case h_4=>cases ha
 case h_1 t hop=>
  simp only[hop]at hd ⊢;unfold Gz at hd;cases hi:C.T.inf t with
  |none=>rw[hi]at hd;cases hd
  |some i=>rw[hi]at hd;cases hd;exact⟨_,_,rfl,rfl⟩
 case h_2 t x hop=>
  simp only[hop]at hd ⊢;cases hx:ev C fr x with
  |none=>rw[hx]at hd;cases hd
  |some y=>rw[hx]at hd;cases hd;exact⟨_,_,rfl,rfl⟩
 case h_3 t n ps hop=>
  simp only[hop]at hd ⊢;cases hx:VG C fr ps.toList with
  |none=>rw[hx]at hd;cases hd
  |some y=>
   rw[hx]at hd;simp only at hd ⊢;unfold ED at hd;unfold Vj;split at hd
   case h_2=>cases hd
   rename_i e he;simp only[he];split at hd
   case h_2=>cases hd
   rename_i i hi;simp only[hi];cases hc:(Nat.ble (n*i.size) 16777216&&zu 0 (i.zero.length)&&zh i.zero.length i.size)with
   |false=>rw[hc]at hd;cases hd
   |true=>
    rw[hc]at hd;simp only[we]at hd ⊢;split at hd
    case h_2=>cases hd
    rename_i cs hcs;cases hd;simp only[hcs];exact⟨_,_,rfl,rfl⟩
theorem yD{T:BW}{call:FM}{st:AI}{o:Oper}{k:AI->Tr}(hrd:Eb o=true):HB T call o st k=Ov o.dst k (pop o.op T st):=by
 have:JY st o.op=.no:=by
  unfold Eb at hrd;unfold JY;cases hop:o.op<;>rw[hop]at hrd<;>first|rfl|skip
  case call c=>
   obtain⟨callee,args,ts⟩:=c;cases callee<;>first|rfl|(cases hrd)
 unfold HB;rw[this]
theorem wE{call:FM}(hcall:E2 B h0 X false call)(hr:Rel B h0 F ρ st fr h){o:Oper}(hrd:Eb o=true){k:AI->Tr}(he:Ev X Q n (HB X.C.T call o st k)):
  ∃n',n'<=n/\∃st1,Ev X Q n' (k st1)/\∃F' ρ' x fr',F5 X.C fr h o=some (.val x h)/\fr.put o.dst x=some fr'/\C6 B h0 F ρ st.nx h st1 fr' h F' ρ'/\∃u s,(pop o.op X.C.T st).To u s:=by
 obtain⟨l,hdid,hnd,hall⟩:=HF hcall hr he;obtain⟨⟨⟨x,h'⟩,rfl⟩,_⟩:=hnd.1 rfl;obtain⟨n',hn,st1,he1,F',ρ',fr',hput,hw,_⟩:=hall _ (zc.2 rfl);have hto:∃u s,(pop o.op X.C.T st).To u s:=by
  rw[yD hrd]at he;obtain⟨u,s,_,h1,_⟩:=IM he;exact⟨u,s,h1⟩
 cases hdid with
 |val hd=>
  obtain⟨y,hy⟩:=rd_val hrd hd;cases hy;exact⟨n',hn,st1,he1,F',ρ',x,fr',hd,hput,hw,hto⟩
 |skip hd=>obtain⟨y,hy⟩:=rd_val hrd hd;cases hy
 |call hd _=>obtain⟨y,hy⟩:=rd_val hrd hd;cases hy
 |round hd _=>obtain⟨y,hy⟩:=rd_val hrd hd;cases hy
 |alts hd=>obtain⟨y,hy⟩:=rd_val hrd hd;cases hy
theorem Ou{call:FM}(hcall:E2 B h0 X false call){ops:Array Oper}{anc:Nat->Nat->Bool}:∀ {L:List Nat} {n:Nat} {st:AI} {F:Fz} {ρ:D9} {fr:Fr} {h:H} {k:AI->Tr} {rs:Rs} {cs:List Rc},Rel B h0 F ρ st fr h->V8 X.C F ρ st.nx h rs cs->
  Ev X Q n (Jw X.C.T X.sp call ops anc L st rs k)->
  ∃n',n'<=n/\∃st1,Ev X Q n' (k st1)/\∃F' ρ' fr' h',C6 B h0 F ρ st.nx h st1 fr' h' F' ρ'/\∃M,∀m,M<=m->∃cs',Ts X.C (Bf X.C m) ops anc L ⟨fr,h,cs⟩=some ⟨fr',h',cs'⟩
 |[],n,st,F,ρ,fr,h,k,rs,cs,hr,_,he=>⟨n,zd _,st,he,F,ρ,fr,h,C6.refl hr,0,fun _ _=>⟨cs,rfl⟩⟩
 |i::is,n,st,F,ρ,fr,h,k,rs,cs,hr,hrs,he=>by
  unfold Jw at he;cases ho:ops[i]? with
  |none=>rw[ho]at he;exact wh he Ev.AA
  |some o=>
   rw[ho]at he;simp only at he;obtain⟨st1,hr1,e1,e2,hcase⟩:=Mp hr he;rw[<-e1]at hrs;have fin:∀ {n1:Nat} {st2:AI} {F1:Fz} {ρ1:D9} {fr1:Fr} {h1:H} {rs2:Rs} {cs2:List Rc},n1<=n->C6 B h0 F ρ st.nx h st2 fr1 h1 F1 ρ1->V8 X.C F1 ρ1 st2.nx h1 rs2 cs2->Ev X Q n1 (Jw X.C.T X.sp call ops anc is st2 rs2 k)->
     (∃M,∀m,M<=m->∃x,HR X.C (Bf X.C m) ops anc i ⟨fr,h,cs⟩=some (x,⟨fr1,h1,cs2⟩))->
     ∃n',n'<=n/\∃st1,Ev X Q n' (k st1)/\∃F' ρ' fr' h',C6 B h0 F ρ st.nx h st1 fr' h' F' ρ'/\∃M,∀m,M<=m->∃cs',Ts X.C (Bf X.C m) ops anc (i::is) ⟨fr,h,cs⟩=some ⟨fr',h',cs'⟩:=by
    rintro n1 st2 F1 ρ1 fr1 h1 rs2 cs2 hn1 hw hrs2 he2 ⟨M1,hM1⟩;obtain⟨n2,hn2,st3,he3,F2,ρ2,fr2,h2,hw2,M2,hM2⟩:=Ou hcall hw.rel hrs2 he2;refine⟨n2,zg hn2 hn1,st3,he3,F2,ρ2,fr2,h2,hw.trans hw2,max M1 M2,fun m hm=>?_⟩;obtain⟨x,hx⟩:=hM1 m (by omega);obtain⟨cs',hcs'⟩:=hM2 m (by omega);exact⟨cs',by unfold Ts;rw[hx];exact hcs'⟩
   rcases hcase with⟨hw,he⟩|⟨hw,he⟩
   ·cases hrd:Eb o with
    |true=>
     rw[hrd]at he;simp only[we]at he;obtain⟨n1,hn1,st2,he2,F1,ρ1,x,fr1,hd,hput,hwent,hto⟩:=wE hcall hr1 hrd he;rw[e1]at hwent;have hrs2:V8 X.C F1 ρ1 st2.nx h rs cs:=hrs.mono (by rw[e1];exact hwent.le) (zd _) (fun _ _=>rfl);cases hhd:O5 o with
     |false=>
      rw[hhd]at he2;refine fin (cs2:=cs) hn1 hwent hrs2 he2 ⟨0,fun m _=>⟨x,?_⟩⟩;unfold HR;simp only[ho,hw,we,hrd,hd,hput,hhd,wg]
     |true=>
      rw[hhd]at he2;refine fin (cs2:=⟨i,o,fr,x⟩::cs) (rs2:=(i,nX st1 o.op)::rs) hn1 hwent ⟨_,_,rfl,⟨rfl,fun l hl=>?_⟩,hrs2⟩ he2 ⟨0,fun m _=>⟨x,?_⟩⟩
      ·obtain⟨bl,k1,k2⟩:=Y3 hr1 hd hl hto;refine⟨bl,fun g hg hb=>k1 g (fun b cs hF=>hg b cs (hwent.le.fz b cs hF)) hb,fun b hb=>?_⟩;obtain⟨j1,id,j2,j3,j4⟩:=k2 b hb;rw[e1]at j3;exact⟨j1,id,j2,zj j3 hwent.le.n,fun y hy=>j4 y (hwent.le.at j3 hy)⟩
      ·unfold HR;simp only[ho,hw,we,hrd,hd,hput,hhd]
    |false=>
     rw[hrd]at he;simp only[wg]at he;cases hal:Co o with
     |true=>
      rw[hal]at he;simp only[we]at he;obtain⟨l,hdid,hnd,hall⟩:=HF hcall hr1 he;obtain⟨⟨⟨x,h1⟩,rfl⟩,hna⟩:=hnd.1 rfl;obtain⟨n1,hn1,st2,he2,F1,ρ1,fr1,hput,hwent,_⟩:=hall _ (zc.2 rfl);rw[e1]at hwent;simp only at hput hwent;have hv:∃ob f,aN X.C fr o=some (ob,f)/\x=f h.nx/\h1=h.push ob:=by
       cases hdid with
       |val hd=>obtain⟨ob,f,k1,k2⟩:=NL hal hd;cases k2;exact⟨ob,f,k1,rfl,rfl⟩
       |skip hd=>obtain⟨ob,f,k1,k2⟩:=NL hal hd;cases k2
       |call hd _=>obtain⟨ob,f,k1,k2⟩:=NL hal hd;cases k2
       |round hd _=>obtain⟨ob,f,k1,k2⟩:=NL hal hd;cases k2
       |alts hd=>obtain⟨ob,f,k1,k2⟩:=NL hal hd;cases k2
      obtain⟨ob1,f,k1,rfl,rfl⟩:=hv;have hrs2:V8 X.C F1 ρ1 st2.nx (h.push ob1) rs cs:=hrs.mono (by rw[e1];exact hwent.le) (by simp) (fun b hb=>by simp[Nat.ne_of_lt hb]);refine fin (cs2:=cs) hn1 hwent hrs2 he2 ⟨0,fun m _=>⟨f h.nx,?_⟩⟩;unfold HR;simp only[ho,hw,we,hrd,wg,hal,k1,hput]
     |false=>
      rw[hal]at he;simp only[wg]at he;cases hap2:(z8 anc i st1 (G4 X.sp st1 o.op) rs&&jH st1 o.op)with
      |false=>rw[hap2]at he;exact wh he Ev.AA
      |true=>
       rw[hap2]at he;simp only[we]at he;simp only[ze]at hap2;obtain⟨hap,hnr⟩:=hap2;obtain⟨l,hdid,hnd,hall⟩:=HF hcall hr1 he;obtain⟨⟨⟨x,h1⟩,rfl⟩,hna⟩:=hnd.1 rfl;obtain⟨n1,hn1,st2,he2,F1,ρ1,fr1,hput,hwent,htch⟩:=hall _ (zc.2 rfl);simp only at hput hwent htch;obtain⟨k1,k2⟩:=V8.apart hr1 hwent htch hrs hap;rw[e1]at hwent;refine fin hn1 hwent k2 he2 ?_;have hh:∃M,∀m,M<=m->DF X.C (Bf X.C m) fr h o=some (x,h1):=by
        cases hdid with
        |val hd=>exact⟨0,fun m _=>by unfold DF;rw[hd]⟩
        |skip hd=>exact⟨0,fun m _=>by unfold DF;rw[hd]⟩
        |alts hd=>exact wh hd (hna _)
        |round hd _=>exact wh hd (hnd.2 (fun id a e=>by unfold jH at hnr;rw[e]at hnr;cases hnr) _ _ _)
        |@call g args _ M hd hM=>exact⟨M,fun m hm=>by unfold DF;rw[hd];simp only[hM m hm]⟩
       obtain⟨M,hM⟩:=hh;refine⟨M,fun m hm=>⟨x,?_⟩⟩;unfold HR;simp only[ho,hw,we,hrd,wg,hal,hM m hm,hput,k1]
   ·cases hv:CC o with
    |false=>
     rw[hv]at he;simp only[wg]at he;unfold LX at he;split at he
     case h_2=>exact wh he Ev.AA
     rename_i st2 hput;obtain⟨fr1,g1,g2,g3,g4⟩:=hr1.put (x:=.tup []) (by simp[PR]) hput;refine fin (cs2:=cs) (zd _) ⟨g2,by rw[g3,e1];exact zw,zd _⟩ (by rw[g3];exact hrs) he ⟨0,fun m _=>⟨.tup [],?_⟩⟩;unfold HR;simp only[ho,hw,wg,g1,hv]
    |true=>
     rw[hv]at he;simp only[we]at he;cases hap:z8 anc i st1 (some []) rs with
     |false=>rw[hap]at he;exact wh he Ev.AA
     |true=>
      rw[hap]at he;simp only[we]at he;unfold LX at he;split at he
      case h_2=>exact wh he Ev.AA
      rename_i st2 hput;obtain⟨fr1,g1,g2,g3,g4⟩:=hr1.put (x:=.tup []) (by simp[PR]) hput;have hwent:C6 B h0 F ρ st1.nx h st2 fr1 h F ρ:=⟨g2,by rw[g3];exact zw,zd _⟩;obtain⟨k1,k2⟩:=V8.apart (t:=some []) hr1 hwent (fun ids _ b _=>.inl rfl) hrs hap;rw[e1]at hwent;refine fin (zd _) hwent k2 he ⟨0,fun m _=>⟨.tup [],?_⟩⟩;unfold HR;simp only[ho,hw,wg,g1,hv,we,k1]
theorem Y8{call:FM}(hcall:E2 B h0 X false call){ops:Array Oper}{k:AI->Tr}(hr:Rel B h0 F ρ st fr h)(he:Ev X Q n (Jw X.C.T X.sp call ops (Er ops).a (Er ops).ord st [] k)):
  ∃n',n'<=n/\∃st1,Ev X Q n' (k st1)/\∃F' ρ' fr' h',C6 B h0 F ρ st.nx h st1 fr' h' F' ρ'/\∃M,∀m,M<=m->IJ X.C (Bf X.C m) ops fr h=some (fr',h'):=by
 obtain⟨n',hn,st1,he1,F',ρ',fr',h',hw,M,hM⟩:=Ou (cs:=[]) hcall hr (by rfl) he;refine⟨n',hn,st1,he1,F',ρ',fr',h',hw,M,fun m hm=>?_⟩;obtain⟨cs',hcs'⟩:=hM m hm;unfold IJ;rw[hcs']
end
section
variable {B:Nat}{h0:H0}{F:Fz}{ρ ρ':D9}{N N':Nat}{f:Nat->Option Nat}
mutual
theorem NU(hf:∀i j,i<N->f i=some j->j<N'/\ρ' j=ρ i):∀ {p:PV} {v:V},PR F ρ N p v->PR F ρ' N' (FZ f p) v
 | .any,_,_=>by simp[FZ,PR]
 | .bl _,_,h=>by simpa only[FZ,PR]using h
 | .ub,_,h=>by simpa only[FZ,PR]using h
 | .dat _ _,_,h=>by simpa only[FZ,PR]using h
 | .nil,_,h| .nilp,_,h| .nilm,_,h| .nilf,_,h| .nili,_,h=>by simpa only[FZ,PR]using h
 | .FE _ _ _,_,h=>by simpa only[FZ,PR]using h
 | .agg l,_,h=>by simp only[FZ,PR]at h ⊢;obtain⟨cs,rfl,h1⟩:=h;exact⟨cs,rfl,Ey hf h1⟩
 | .tup l,_,h=>by simp only[FZ,PR]at h ⊢;obtain⟨cs,rfl,h1⟩:=h;exact⟨cs,rfl,Ey hf h1⟩
 | .fn g a b,_,h=>by simp only[FZ,PR]at h ⊢;obtain⟨x,y,rfl,h1,h2⟩:=h;exact⟨x,y,rfl,Ey hf h1,Ey hf h2⟩
 | .ptr i o,_,h=>by
  simp only[FZ];cases hi:f i with
  |none=>simp[PR]
  |some j=>
   simp only[PR]at h ⊢;obtain⟨h1,h2⟩:=hf i j h.1 hi;exact⟨h1,fun b n hb=>h.2 b n (by rw[<-h2];exact hb)⟩
 | .eptr i _ _ _,_,h=>by
  simp only[FZ];cases hi:f i with
  |none=>simp[PR]
  |some j=>
   simp only[PR]at h ⊢;obtain⟨h1,h2⟩:=hf i j h.1 hi;exact⟨h1,fun b n hb=>h.2 b n (by rw[<-h2];exact hb)⟩
 | .sl i _ _ _ _,_,h=>by
  simp only[FZ];cases hi:f i with
  |none=>simp[PR]
  |some j=>
   simp only[PR]at h ⊢;obtain⟨h1,h2⟩:=hf i j h.1 hi;exact⟨h1,fun b n hb=>h.2 b n (by rw[<-h2];exact hb)⟩
 | .yl i,_,h=>by
  simp only[FZ];cases hi:f i with
  |none=>simp[PR]
  |some j=>
   simp only[PR]at h ⊢;obtain⟨h1,h2⟩:=hf i j h.1 hi;exact⟨h1,fun b n hb=>h.2 b n (by rw[<-h2];exact hb)⟩
 | .mp i,_,h=>by
  simp only[FZ];cases hi:f i with
  |none=>simp[PR]
  |some j=>
   simp only[PR]at h ⊢;obtain⟨h1,h2⟩:=hf i j h.1 hi;exact⟨h1,fun b n hb=>h.2 b n (by rw[<-h2];exact hb)⟩
theorem Ey(hf:∀i j,i<N->f i=some j->j<N'/\ρ' j=ρ i):∀ {ps:List PV} {vs:List V},Ba F ρ N ps vs->Ba F ρ' N' (JG f ps) vs
 |[],_,h=>by simpa [JG]using h
 |p::ps,_,h=>by
  simp only[Ba]at h;obtain⟨v,vs,rfl,h1,h2⟩:=h;simp only[JG,A1];exact⟨NU hf h1,Ey hf h2⟩
end
theorem QR(f:PV->PV):∀(sl:List (Nat×PV)) (m m':PM PV),(∀t,m'.get t=(m.get t).map f)->∀t,((sl.map fun x=>(x.1,f x.2)).foldl (fun m x=>m.set x.1 (some x.2)) m').get t=((sl.foldl (fun m x=>m.set x.1 (some x.2)) m).get t).map f
 |[],_,_,h,t=>h t
 |x::sl,m,m',h,t=>by
  simp only[yh,List.foldl_cons];refine QR f sl _ _ (fun t=>?_) t;rw[PM.C2,PM.C2];split
  ·rfl
  ·exact h t
theorem VL(f:PV->PV)(hf:f .any=.any)(sl:List (Nat×PV))(t:Nat):Ss (sl.map fun x=>(x.1,f x.2)) t=f (Ss sl t):=by
 unfold Ss E7;rw[QR f sl .leaf .leaf (fun t=>by rw[PM.Da];rfl) t];cases (sl.foldl (fun m x=>m.set x.1 (some x.2)) PM.leaf).get t with
 |none=>exact hf.symm
 |some x=>rfl
theorem hI(hf:∀i j,i<N->f i=some j->j<N'/\ρ' j=ρ i){n:Nat}{o:Obj}{x:O}(h:Xp F ρ N n o x):Xp F ρ' N' n (R2 f o) x:=by
 cases o with
 |arr fz e s l=>exact h
 |box ps=>obtain⟨cs,t,fz,h1,h2,h3⟩:=h;exact⟨cs,t,fz,h1,Ey hf h2,h3⟩
 |tbox t ps=>obtain⟨cs,fz,h1,h2,h3⟩:=h;exact⟨cs,fz,h1,Ey hf h2,h3⟩
 |lp g r ps asg body s n sl=>
  obtain⟨ls,h1,h2,h3,h4,h5,h6,h7⟩:=h;refine⟨ls,h1,h2,h3,h4,h5,h6,fun t=>?_⟩;rw[VL (FZ f) (by simp[FZ])];exact NU hf (h7 t)
 |map ks vs l=>exact h
 |siter s p=>exact h
theorem TA(o:Obj):(R2 f o).frozen=o.frozen:=by cases o<;>rfl
theorem Jd{st:AI}{base:Nat}:∀(n:Nat) (is acc:List Nat),(∀i∈acc,base<=i/\(st.obj i).isSome=true)->acc.Nodup->(∀i∈H2 st base n is acc,base<=i/\(st.obj i).isSome=true)/\(H2 st base n is acc).Nodup
 |0,_,acc,h1,h2=>⟨h1,h2⟩
 |n+1,[],acc,h1,h2=>⟨h1,h2⟩
 |n+1,i::is,acc,h1,h2=>by
  unfold H2;cases hc:(zu i base||acc.any (zh i))with
  |true=>simp only[we];exact Jd n is acc h1 h2
  |false=>
   simp only[wg];cases ho:st.obj i with
   |none=>simp only;exact Jd n is acc h1 h2
   |some o=>
    simp only;simp only[Bool.or_eq_false_iff]at hc;have hb:base<=i:=by
     rcases Nat.lt_or_ge i base with h|h
     ·have:=hc.1;rw[DD h]at this;cases this
     ·exact h
    have hni:i∉acc:=by
     intro hi;have:acc.any (zh i)=true:=yd.2 ⟨i,hi,ye i⟩;rw[hc.2]at this;cases this
    refine Jd n _ _ (fun j hj=>?_) ?_
    ·rcases zt.1 hj with hj|hj
     ·exact h1 j hj
     ·cases zc.1 hj;exact⟨hb,by rw[ho];rfl⟩
    ·rw[List.nodup_append];exact⟨h2,by simp,fun a ha b hb'=>by cases zc.1 hb';exact fun e=>hni (e▸ha)⟩
theorem OS{base:Nat}:∀(ids:List Nat) (n i j:Nat),ids.Nodup->Oj base ids n i=some j->(∃k,ids[k]?=some i/\j=n+k)\/(i∉ids/\i<base/\j=i)
 |[],n,i,j,_,h=>by
  unfold Oj at h;cases hb:zu i base with
  |false=>rw[hb]at h;cases h
  |true=>rw[hb]at h;cases h;exact .inr ⟨by simp,z6 hb,rfl⟩
 |a::ids,n,i,j,hn,h=>by
  unfold Oj at h;rw[Bm]at h;by_cases e:i=a
  ·subst e;simp only[decide_true,we,zk]at h;exact .inl ⟨0,rfl,by omega⟩
  ·simp only[e,decide_false,wg]at h;have hn':=List.nodup_cons.1 hn;rcases OS ids (yi n 1) i j hn'.2 h with⟨k,h1,h2⟩|⟨h1,h2,h3⟩
   ·exact .inl ⟨k+1,by simpa using h1,by rw[h2];show n+1+k=_;omega⟩
   ·exact .inr ⟨by simp[e,h1],h2,h3⟩
theorem Xj(f:Nat->Option Nat)(base:Nat):∀(l:Ob) (j:Nat),AL (low f base l) j=if j<base then(AL l j).map (R2 f)else none
 |[],j=>by simp[low,AL]
 |(i,o)::l,j=>by
  simp only[low];have ih:=Xj f base l j;by_cases hi:i<base
  ·rw[DD hi];simp only[we,AL,Bm];by_cases e:i=j
   ·subst e;simp[hi]
   ·simp only[e,decide_false,wg];exact ih
  ·have:zu i base=false:=by
    cases hb:zu i base with
    |false=>rfl
    |true=>exact wh (z6 hb) hi
   rw[this];simp only[wg,AL,Bm];rw[ih];by_cases e:i=j
   ·subst e;simp[hi]
   ·simp[e]
theorem Ue{st:AI}(f:Nat->Option Nat):∀(ids:List Nat) (n:Nat) (acc:Ob) (j:Nat),(∀i∈ids,(st.obj i).isSome=true)->AL (kept st f ids n acc) j=(if n<=j/\j<n+ids.length then(ids[j-n]?).bind fun i=>(st.obj i).map (R2 f)else AL acc j)
 |[],n,acc,j,_=>by simp only[kept,List.length_nil];rw[wc (by omega)]
 |i::ids,n,acc,j,h=>by
  obtain⟨o,ho⟩:=Option.isSome_iff_exists.1 (h i (by simp));unfold kept;rw[ho];simp only;rw[Ue f ids (yi n 1) _ j (fun k hk=>h k (by simp[hk]))];have ea:yi n 1=n+1:=rfl;rw[ea];by_cases h1:n+1<=j/\j<n+1+ids.length
  ·rw[wd h1,wd (by simp;omega)];have:j-n=(j-(n+1))+1:=by omega
   rw[this];simp
  ·rw[wc h1];simp only[AL,Bm];by_cases e:n=j
   ·subst e;rw[wd (by simp)];simp[ho]
   ·rw[wc (by simp;omega)];simp[e]
theorem IF:∀(vs:List (Nat×PV)) (m:PM PV) (t:Nat) (p:PV),(vs.foldl (fun m x=>m.set x.1 (some x.2)) m).get t=some p->(t,p)∈vs\/m.get t=some p
 |[],m,t,p,h=>.inr h
 |x::vs,m,t,p,h=>by
  rcases IF vs _ t p h with h1|h1
  ·exact .inl (zo _ h1)
  ·rw[PM.C2]at h1;split at h1
   ·rename_i e;cases h1;exact .inl (by rw[e];exact zr)
   ·exact .inr h1
theorem ZA{st:AI}{fr:Fr}{h:H}(hr:Rel B h0 F ρ st fr h)(base:Nat)(L:List Nat)(_hb:base<=st.nx):
  ∃ρ',Rel B h0 F ρ' (canon base L st) fr h/\base<=(canon base L st).nx/\∀id,id<base->ρ' id=ρ id:=by
 generalize hids:H2 st base 100 (Jx ((L.map fun t=>(t,st.get t)).map (·.2))++PY base st.ob) []=ids;have hok:=Jd (st:=st) (base:=base) 100 (Jx ((L.map fun t=>(t,st.get t)).map (·.2))++PY base st.ob) [] (fun i hi=>by cases hi) zl;rw[hids]at hok;obtain⟨hal,hnd⟩:=hok;let g:=Oj base ids base
 let ρ1:D9:=fun id=>if id<base then ρ id else(ids[id-base]?).bind ρ
 have hlow:∀id,id<base->ρ1 id=ρ id:=fun id h=>by show(if id<base then ρ id else _)=_;rw[wd h]
 have hhigh:∀k i,ids[k]?=some i->ρ1 (base+k)=ρ i:=by
  intro k i hk;show(if base+k<base then ρ (base+k)else(ids[base+k-base]?).bind ρ)=ρ i;rw[wc (by omega),Nat.add_sub_cancel_left,hk];rfl
 have hc:canon base L st=AD st.n ((L.map fun t=>(t,st.get t)).map fun x=>(x.1,FZ g x.2)) (kept st g ids base (low g base st.ob)) (base+ids.length):=by
  rw[show g=Oj base ids base from rfl, <-hids];rfl
 have hg:∀i j,i<st.nx->g i=some j->j<base+ids.length/\ρ1 j=ρ i:=by
  intro i j _ hij;rcases OS ids base i j hnd hij with⟨k,h1,rfl⟩|⟨_,h2,rfl⟩
  ·have:=(zf.1 h1).1;exact⟨by omega,hhigh k i h1⟩
  ·exact⟨by omega,hlow _ h2⟩
 have hob:∀j,AL (kept st g ids base (low g base st.ob)) j=if j<base then(AL st.ob j).map (R2 g)else(ids[j-base]?).bind fun i=>(st.obj i).map (R2 g):=by
  intro j;rw[Ue g ids base _ j (fun i hi=>(hal i hi).2),Xj];by_cases h1:j<base
  ·rw[wc (by omega),wd h1,wd h1]
  ·by_cases h2:j<base+ids.length
   ·rw[wd (by omega),wc h1]
   ·rw[wc (by omega),wc h1,wc h1,List.getElem?_eq_none (by omega)];rfl
 have src:∀j o',AL (kept st g ids base (low g base st.ob)) j=some o'->∃i o,AL st.ob i=some o/\o'=R2 g o/\ρ1 j=ρ i/\j<base+ids.length/\((j<base/\i=j)\/(base<=j/\ids[j-base]?=some i/\base<=i)):=by
  intro j o' hj;rw[hob]at hj;by_cases h1:j<base
  ·rw[wd h1,yf]at hj;obtain⟨o,h2,rfl⟩:=hj;exact⟨j,o,h2,rfl,hlow j h1,by omega,.inl ⟨h1,rfl⟩⟩
  ·rw[wc h1]at hj;cases hk:ids[j-base]? with
   |none=>rw[hk]at hj;cases hj
   |some i=>
    rw[hk]at hj;simp only[Option.bind_some,yf]at hj;obtain⟨o,h2,rfl⟩:=hj;have hlt:=(zf.1 hk).1;have:=hhigh (j-base) i hk;rw[show base+(j-base)=j from by omega]at this;exact⟨i,o,h2,rfl,this,by omega,.inr ⟨by omega,by first|exact hk|rfl,(hal i (List.mem_of_getElem? hk)).1⟩⟩
 refine⟨ρ1,?_,by rw[hc];show base<=base+ids.length;omega,hlow⟩;rw[hc];refine⟨⟨hr.fp.n,fun t=>?_⟩,⟨fun j o' hj=>?_,fun i j oi oj c m m' hi hj h1 h2=>?_,hr.sr.frz,fun id b m hbm=>?_,fun j hj=>?_,hr.sr.old,hr.sr.lt,hr.sr.le,hr.sr.fo,hr.sr.gl,fun c hc=>?_⟩⟩
 ·generalize hvs:((L.map fun t=>(t,st.get t)).map fun x=>(x.1,FZ g x.2))=vs;show PR F ρ1 (base+ids.length) (((E7 vs).get t).getD .any) (fr.get t);cases hp:(E7 vs).get t with
  |none=>show PR F ρ1 (base+ids.length) PV.any (fr.get t);simp[PR]
  |some p=>
   show PR F ρ1 (base+ids.length) p (fr.get t);rcases IF vs .leaf t p hp with h1|h1
   ·rw[<-hvs]at h1;simp only[List.map_map,yj,Function.comp]at h1;obtain⟨s,_,h2⟩:=h1;cases h2;exact NU hg (hr.fp.slot _)
   ·simp at h1
 ·obtain⟨i,o,h1,rfl,h2,h3,_⟩:=src j o' hj;obtain⟨b,m,x,k1,k2,k3,k4⟩:=hr.sr.obj i o h1;exact⟨b,m,x,h2.trans k1,k2,hI hg k3,by rw[TA];exact k4⟩
 ·obtain⟨a,o,g1,_,g2,_,g3⟩:=src i oi hi;obtain⟨a',o',g4,_,g5,_,g6⟩:=src j oj hj;rw[g2]at h1;rw[g5]at h2;have hab:=hr.sr.inj a a' o o' c m m' g1 g4 h1 h2;subst hab;rcases g3 with⟨e1,e2⟩|⟨e1,e2,e3⟩<;>rcases g6 with⟨f1,f2⟩|⟨f1,f2,f3⟩
  ·omega
  ·omega
  ·omega
  ·have i1:=zf.1 e2;have i2:=zf.1 f2;have:=(List.getElem?_inj i1.1 hnd).1 (e2.trans f2.symm);omega
 ·have hbm:(if id<base then ρ id else(ids[id-base]?).bind ρ)=some (b,m):=hbm;by_cases h1:id<base
  ·rw[wd h1]at hbm;exact⟨by show id<base+ids.length;omega,(hr.sr.own id b m hbm).2⟩
  ·rw[wc h1]at hbm;cases hk:ids[id-base]? with
   |none=>rw[hk]at hbm;cases hbm
   |some i=>
    rw[hk]at hbm;have:=(zf.1 hk).1;exact⟨by show id<base+ids.length;omega,(hr.sr.own i b m hbm).2⟩
 ·have hj':AL (kept st g ids base (low g base st.ob)) j=none:=hj;rw[hob]at hj';show(if j<base then ρ j else(ids[j-base]?).bind ρ)=none;by_cases h1:j<base
  ·rw[wd h1]at hj' ⊢;exact hr.sr.dead j (by simpa using hj')
  ·rw[wc h1]at hj' ⊢;cases hk:ids[j-base]? with
   |none=>rfl
   |some i=>
    rw[hk]at hj';simp only[Option.bind_some,Option.map_eq_none_iff]at hj' ⊢;exact hr.sr.dead i hj'
 ·obtain⟨g1,g2,g3⟩:=hr.sr.pn c hc;refine⟨g1,g2,fun id m e=>?_⟩;have e:(if id<base then ρ id else(ids[id-base]?).bind ρ)=some (c,m):=e;by_cases h1:id<base
  ·rw[wd h1]at e;exact g3 id m e
  ·rw[wc h1]at e;cases hk:ids[id-base]? with
   |none=>rw[hk]at e;cases e
   |some i=>rw[hk]at e;exact g3 i m e
end
section
variable {B:Nat}{h0:H0}{X:A0}{F:Fz}{ρ:D9}{N:Nat}{h:H}
theorem QX(h0:H0)(a b:List Nat):(h0.pins a).pins b=h0.pins (b++a):=by unfold H0.pins;simp
theorem SR.bK{ob:Ob}{ps:List Nat}(hr:SR B (h0.pins ps) F ρ N ob h):SR B h0 F ρ N ob h:=
 ⟨hr.obj,hr.inj,hr.frz,hr.own,hr.dead,hr.old,hr.lt,hr.le,hr.fo,hr.gl,fun b hb=>hr.pn b (List.mem_append_right _ hb)⟩
theorem SR.mark{ob:Ob}(hr:SR B h0 F ρ N ob h):SR B (h0.pins [h.nx]) F ρ N ob (h.push (.defd true)):=by
 have hnew:∀b y,h.get b=some y->b≠h.nx:=fun b y hb=>by have:=hr.lt b y hb;omega
 have hget:∀b y,h.get b=some y->(h.push (.defd true)).get b=some y:=fun b y hb=>by rw[H.BH,wc (hnew b y hb)];exact hb
 refine⟨fun j oj hj=>?_,hr.inj,fun c cs hc=>?_,hr.own,hr.dead,fun c hc he=>?_,fun c oc hc=>?_,?_,hr.fo,hr.gl,fun c hc=>?_⟩
 ·obtain⟨c,m,y,h1,h2,h3⟩:=hr.obj j oj hj;exact⟨c,m,y,h1,hget c y h2,h3⟩
 ·obtain⟨t,fz,hg⟩:=hr.frz c cs hc;exact⟨t,fz,hget _ _ hg⟩
 ·have:=hr.le;rw[H.BH,wc (by omega)];exact hr.old c hc he
 ·rw[H.BH]at hc;by_cases e:c=h.nx
  ·subst e;exact yc _
  ·rw[wc e]at hc;have:=hr.lt c oc hc;show c<h.nx+1;omega
 ·have:=hr.le;show B<=h.nx+1;omega
 ·rcases zt.1 hc with hc|hc
  ·cases zc.1 hc;refine⟨by rw[H.BH,wd rfl],hr.le,fun id n e=>?_⟩;by_cases hob:∃o,AL ob id=some o
   ·obtain⟨o,ho⟩:=hob;obtain⟨c,m,y,g1,g2,_⟩:=hr.obj id o ho;rw[e]at g1;cases g1;exact hnew _ _ g2 rfl
   ·have:AL ob id=none:=by
     cases hh:AL ob id with
     |none=>rfl
     |some o=>exact wh ⟨o,hh⟩ hob
    rw[hr.dead id this]at e;cases e
  ·obtain⟨g1,g2,g3⟩:=hr.pn c hc;exact⟨hget _ _ g1,g2,g3⟩
theorem SR.kR{ob:Ob}(hr:SR B h0 F ρ N ob h){b:Nat}{x y:O}(h1:∀id o n,AL ob id=some o->ρ id≠some (b,n))(h2:F b=none)(h3:h0.Zq B b)(h4:b∉h0.pin)(hg:h.get b=some x):SR B h0 F ρ N ob (h.put b y):=by
 refine⟨fun j oj hj=>?_,hr.inj,fun c cs hc=>?_,hr.own,hr.dead,fun c hc he=>?_,fun c oc hc=>?_,hr.le,hr.fo,hr.gl,fun c hc=>?_⟩
 ·obtain⟨c,m,y,g1,g2,g3⟩:=hr.obj j oj hj;have:c≠b:=fun e=>h1 j oj m hj (e▸g1)
  exact⟨c,m,y,g1,by rw[H.A8,wc this];exact g2,g3⟩
 ·have:c≠b:=fun e=>by rw[e,h2]at hc;cases hc
  rw[H.A8,wc this];exact hr.frz c cs hc
 ·have:c≠b:=NC h3 hc he;rw[H.A8,wc this];exact hr.old c hc he
 ·rw[H.A8]at hc;split at hc
  ·rename_i e;subst e;exact hr.lt _ _ hg
  ·exact hr.lt c oc hc
 ·obtain⟨g1,g2,g3⟩:=hr.pn c hc;have hne:c≠b:=fun e=>h4 (e▸hc)
  exact⟨by rw[H.A8,wc hne];exact g1,g2,g3⟩
theorem SR.leave{ob:Ob}:∀ {ps:List Nat} {h:H},ps.Nodup->(∀b∈ps,b∉h0.pin)->SR B (h0.pins ps) F ρ N ob h->∃h1,FC ps h=some h1/\SR B h0 F ρ N ob h1/\h1.nx=h.nx/\∀b,b∉ps->h1.get b=h.get b
 |[],h,_,_,hr=>⟨h,rfl,hr,rfl,fun _ _=>rfl⟩
 |p::ps,h,hn,hd,hr=>by
  obtain⟨g1,g2,g3⟩:=hr.pn p (by simp[H0.pins]);rw[List.nodup_cons]at hn;have hr1:SR B ((h0.pins ps).pins [p]) F ρ N ob h:=by rw[QX];exact hr
  have hp:SR B (h0.pins ps) F ρ N ob (h.put p (.defd false)):=by
   refine SR.kR hr1.bK (fun id o n _=>g3 id n) ?_ (.inl g2) ?_ g1
   ·cases hF:F p with
    |none=>rfl
    |some cs=>obtain⟨t,fz,k⟩:=hr.frz p cs hF;rw[g1]at k;cases k
   ·intro h;rcases zt.1 h with h|h
    ·exact hn.1 h
    ·exact hd p (by simp) h
  obtain⟨h1,k1,k2,k3,k4⟩:=SR.leave hn.2 (fun b hb=>hd b (by simp[hb])) hp;refine⟨h1,?_,k2,k3,fun b hb=>?_⟩
  ·show(match h.get p with|some (.defd true)=>FC ps (h.put p (.defd false))|_=>none)=_;rw[g1];exact k1
  ·simp only[ya,not_or]at hb;rw[k4 b hb.2,H.A8,wc hb.1]
theorem cW{st:AI}{fr:Fr}(hr:Rel B h0 F ρ st fr h)(base:Nat)(x:Nat×Sh):∃F1 ρ1,Rel B h0 F1 ρ1 (oM base x st) fr h/\(oM base x st).nx=st.nx/\(∀id,id<base->ρ1 id=ρ id)/\∀b cs,F b=some cs->F1 b=some cs:=by
 have hs:=hr.fp.slot x.1;unfold oM;split
 case h_1=>
  rename_i hg;rw[hg]at hs;simp only[PR]at hs;exact⟨F,ρ,hr.note (by rw[hs];simp[PR,DC]),rfl,fun _ _=>rfl,fun _ _ h=>h⟩
 case h_4=>exact⟨F,ρ,hr,rfl,fun _ _=>rfl,fun _ _ h=>h⟩
 case h_3=>
  rename_i id hg;cases hb:Nat.ble base id with
  |false=>exact⟨F,ρ,hr,rfl,fun _ _=>rfl,fun _ _ h=>h⟩
  |true=>
  simp only[we];have hb:=z6 hb;split
  case h_2=>exact⟨F,ρ,hr,rfl,fun _ _=>rfl,fun _ _ h=>h⟩
  rename_i ps ho;split
  case h_2=>exact⟨F,ρ,hr,rfl,fun _ _=>rfl,fun _ _ h=>h⟩
  rename_i v hv;rw[hg]at hs;obtain⟨b,n,y,h1,h2,h3,h7,-⟩:=hr.sr.at ho;obtain⟨cs,t,fz,rfl,h4,h5⟩:=h3;have hFb:F b=none:=h7 rfl;have hmono:∀c cs',F c=some cs'->(fun c=>if c=b then some cs else F c) c=some cs':=by
   intro c cs' hc;have:c≠b:=fun e=>by rw[e,hFb]at hc;cases hc
   simp[this,hc]
  have hdc:=(CQ h4 hv);have hlen:=hdc.len;have hle:Le F ρ st.nx (fun c=>if c=b then some cs else F c) (BK ρ id none) st.nx:=(Le.Z5 hmono).trans (Le.Ni id);have hle2:Le F (BK ρ id none) st.nx (fun c=>if c=b then some cs else F c) (BK ρ id none) st.nx:=Le.Z5 hmono;have hd:=hr.sr.del id;have notb:∀j m,BK ρ id none j=some (b,m)->∀oj,AL (Gj st.ob id) j=some oj->False:=by
   intro j m g1 oj hj;rw[D4]at hj;split at hj
   ·cases hj
   ·rename_i ej;simp only[BK,ej,ve]at g1;exact ej (hr.sr.inj j id oj _ b m n hj ho g1 h1)
  have hsr:SR B h0 (fun c=>if c=b then some cs else F c) (BK ρ id none) st.nx (Gj st.ob id) h:=by
   refine⟨fun j oj hj=>?_,hd.inj,fun c cs' hc=>?_,hd.own,hd.dead,hd.old,hd.lt,hd.le,fun c cs' hc=>?_,hd.gl,hd.pn⟩
   ·obtain⟨c,m,z,g1,g2,g3,g4,g5⟩:=hd.obj j oj hj;have hne:c≠b:=fun ec=>notb j m (ec▸g1) oj hj
    exact⟨c,m,z,g1,g2,g3.mono hle2,fun e=>by simp[hne,g4 e],fun e=>by obtain⟨a1,a2,a3,a4,a5⟩:=g5 e;exact⟨a1,a2,a3,a4,by simp[hne,a5]⟩⟩
   ·split at hc
    ·rename_i ec;cases hc;subst ec;exact⟨_,_,h2⟩
    ·exact hd.frz c cs' hc
   ·split at hc
    ·rename_i ec;subst ec;exact .inr (hr.sr.own id c n h1).2
    ·exact hd.fo c cs' hc
  have hr1:Rel B h0 (fun c=>if c=b then some cs else F c) (BK ρ id none) (st.Pz id) fr h:=⟨⟨hr.fp.n,fun t=>(hr.fp.slot t).mono hle⟩,hsr⟩;refine⟨_,_,hr1.note ?_,rfl,fun j hj=>by unfold BK;rw[wc (by omega)],hmono⟩;simp only[PR]at hs ⊢;have hv2:=hs.2 b n h1;exact⟨b,0,cs,by rw[hv2],by simp,by omega,by rw[List.drop_zero,List.take_of_length_le (by omega)];exact hdc.mono hmono⟩
 rename_i id sz off len cap hg;split
 case h_2=>exact⟨F,ρ,hr,rfl,fun _ _=>rfl,fun _ _ h=>h⟩
 rename_i fz e s l ho;cases hz:zh sz s.sz with
 |false=>exact⟨F,ρ,hr,rfl,fun _ _=>rfl,fun _ _ h=>h⟩
 |true=>
 simp only[we];rw[hg]at hs;obtain⟨F1,g1,g2,g3⟩:=MC hr.sr hs;have hfr:Bw st (.sl id sz off len cap)=st.setObj id (.arr true e s l):=by simp[Bw,ho]
 rw[hfr]at g1;have hle:Le F ρ st.nx F1 ρ st.nx:=⟨g2,fun _ _=>.inl rfl,zd _⟩;have hoff:off+len<=l.length:=by
  obtain⟨b,n,y,h1,_,⟨_,_,_,_,_,h6⟩,-⟩:=hr.sr.at ho;simp only[PR]at hs;rcases hs.2 b n h1 with⟨a1,a2,_⟩|⟨a1,_,a3,_⟩
  ·omega
  ·omega
 have hbv:CI st (.sl id sz off len cap)=some (true,.dat (.list s) ((l.drop off).take len)):=by
  simp only[CI,ho,hz,we,w4 hoff]
 have hpc:=g3 _ hbv;have hr1:Rel B h0 F1 ρ (st.setObj id (.arr true e s l)) fr h:=⟨⟨hr.fp.n,fun t=>(hr.fp.slot t).mono hle⟩,g1⟩;exact⟨F1,ρ,hr1.note (hpc ρ _),rfl,fun _ _=>rfl,g2⟩
theorem Ul{fr:Fr}(base:Nat):∀(l:List (Nat×Sh)) {st:AI} {F:Fz} {ρ:D9},Rel B h0 F ρ st fr h->∃F1 ρ1,Rel B h0 F1 ρ1 (mD base l st) fr h/\(mD base l st).nx=st.nx/\(∀id,id<base->ρ1 id=ρ id)/\∀b cs,F b=some cs->F1 b=some cs
 |[],st,F,ρ,hr=>⟨F,ρ,hr,rfl,fun _ _=>rfl,fun _ _ h=>h⟩
 |x::l,st,F,ρ,hr=>by
  obtain⟨F1,ρ1,h1,h2,h0',h3⟩:=cW hr base x;obtain⟨F2,ρ2,h4,h5,h0'',h6⟩:=Ul base l h1;exact⟨F2,ρ2,h4,h5.trans h2,fun id hid=>(h0'' id hid).trans (h0' id hid),fun b cs hb=>h6 b cs (h3 b cs hb)⟩
theorem Py{st:AI}{fr:Fr}{base:Nat}(hr:Rel B h0 F ρ st fr h)(f:FuncId)(r:Nat)(hb:base<=st.nx):
  ∃F1 ρ',Rel B h0 F1 ρ' (OL X f r base st) fr h/\base<=(OL X f r base st).nx/\(∀id,id<base->ρ' id=ρ id)/\∀b cs,F b=some cs->F1 b=some cs:=by
 obtain⟨F1,ρ1,h1,h2,h0',h3⟩:=Ul base (X.fz f r) hr;obtain⟨ρ',g1,g2,g3⟩:=ZA h1 base (X.pl f r) (by rw[h2];exact hb);exact⟨F1,ρ',g1,g2,fun id hid=>(g3 id hid).trans (h0' id hid),h3⟩
def Gx(B:Nat)(h0:H0)(X:A0)(base n:Nat)(Q:PV->Ob->Prop)(k:DX->AI->Tr)(F:Fz)(ρ:D9)(h:H)(nd:Bool)(run:Nat->Nat->Option (List Det.X))(ds:List Nat):Prop:=
 ∃l M,(∀m,M<=m->∀q,M<=q->run m q=some l)/\(nd=false->∃x,l=[x])/\∀x∈l,∃ps,(x.ds=ps++ds/\ps.Nodup/\∀b∈ps,h.nx<=b)/\∃n',n'<=n/\∃st1,Ev X Q n' (k x.e st1)/\∃F' ρ',Rel B (h0.pins ps) F' ρ' st1 x.fr x.h/\base<=st1.nx/\Le F ρ base F' ρ' base/\h.nx<=x.h.nx
theorem Le.low{F F':Fz}{ρ ρ':D9}{N N' base:Nat}(hl:Le F ρ N F' ρ' N')(hb:base<=N):Le F ρ base F' ρ' base:=
 ⟨hl.fz,fun id h=>hl.rho id (zj h hb),zd _⟩
theorem Ox{nd ro:Bool}{d:Nat}{f:FuncId}{base:Nat}{rv:Option Nat}{ct:Bool}(hrv:ro=false->rv=none/\ct=true)(hcall:∀h0,E2 B h0 X nd (Cp X nd d))(hcallD:∀h0,E2 B h0 X false (Cp X false d)){Q:PV->Ob->Prop}:∀(n:Nat) (c:Code) {h0:H0} {st:AI} {k:DX->AI->Tr} {F:Fz} {ρ:D9} {fr:Fr} {h:H} (ds:List Nat),base<=st.nx->Rel B h0 F ρ st fr h->
  Ev X Q n (exec X (Cp X nd d) (Cp X false d) nd ro d f base c st k)->Gx B h0 X base n Q k F ρ h nd (fun m q=>BD X.C (Bf X.C m) rv ct q c fr h ds) ds:=by
 intro n;induction n using Nat.strongRecOn with
 |_ n IH=>
 have one:∀ {h0:H0} {e:DX} {st:AI} {k:DX->AI->Tr} {F:Fz} {ρ:D9} {fr:Fr} {h:H} {ds:List Nat} {c:Code},base<=st.nx->Rel B h0 F ρ st fr h->Ev X Q n (k e st)->(∀m q,1<=q->BD X.C (Bf X.C m) rv ct q c fr h ds=some [⟨e,fr,h,ds⟩])->
   Gx B h0 X base n Q k F ρ h nd (fun m q=>BD X.C (Bf X.C m) rv ct q c fr h ds) ds:=by
  intro h0 e st k F ρ fr h ds c hb hr he hd;exact⟨[⟨e,fr,h,ds⟩],1,fun m _ q hq=>hd m q hq,fun _=>⟨_,rfl⟩,fun x hx=>by
   cases zc.1 hx;exact⟨[],⟨rfl,zl,fun _ hb=>(by cases hb)⟩,n,zd _,st,he,F,ρ,hr,hb,zw,zd _⟩⟩
 have fuel:∀ {q:Nat},1<=q->∃q',q=q'+1:=fun h=>⟨_,(Nat.succ_pred_eq_of_pos h).symm⟩
 have chain:∀ {h0:H0} {F:Fz} {ρ:D9} {h:H} {ds:List Nat} {k k2:DX->AI->Tr} {n1:Nat} {run:Nat->Nat->Option (List Det.X)} {run2:Nat->Nat->Det.X->Option (List Det.X)},n1<=n->Gx B h0 X base n1 Q k2 F ρ h nd run ds->
   (∀(x:Det.X) (ps:List Nat),∀n1',n1'<=n1->∀st1,Ev X Q n1' (k2 x.e st1)->∀F' ρ',Rel B (h0.pins ps) F' ρ' st1 x.fr x.h->base<=st1.nx->Gx B (h0.pins ps) X base n Q k F' ρ' x.h nd (fun m q=>run2 m q x) x.ds)->
   Gx B h0 X base n Q k F ρ h nd (fun m q=>match run m q with|some l=>bl l (run2 m q)|none=>none) ds:=by
  rintro h0 F ρ h ds k k2 n1 run run2 hn1 ⟨l,M,h1,h2,h3⟩ hnext;obtain⟨r,M2,g1,g2,g3⟩:=KY (f:=run2) (P:=fun x=>∃ps,(x.ds=ps++ds/\ps.Nodup/\∀b∈ps,h.nx<=b)/\∃n',n'<=n/\∃st1,Ev X Q n' (k x.e st1)/\∃F' ρ',Rel B (h0.pins ps) F' ρ' st1 x.fr x.h/\base<=st1.nx/\Le F ρ base F' ρ' base/\h.nx<=x.h.nx) h2 fun x hx=>by
   obtain⟨ps1,⟨k0,kn,kl⟩,n',k1,st1,k2',F',ρ',k3,k4,k5,k6⟩:=h3 x hx;obtain⟨r,M,j1,j2,j3⟩:=hnext x ps1 n' k1 st1 k2' F' ρ' k3 k4;refine⟨r,M,j1,j2,fun y hy=>?_⟩;obtain⟨ps2,⟨i0,i0n,i0l⟩,n2,i1,st2,i2,F2,ρ2,i3,i4,i5,i6⟩:=j3 y hy;refine⟨ps2++ps1,⟨by rw[i0,k0,List.append_assoc],?_,fun b hb=>?_⟩,n2,i1,st2,i2,F2,ρ2,by rw[<-QX];exact i3,i4,k5.trans i5,zg k6 i6⟩
   ·rw[List.nodup_append];refine⟨i0n,kn,fun a ha b hb e=>?_⟩;have h1:=i0l a ha;have h2:=k3.sr.lt b _ (k3.sr.pn b (List.mem_append_left _ hb)).1;omega
   ·rcases zt.1 hb with hb|hb
    ·exact zg k6 (i0l b hb)
    ·exact kl b hb
  exact⟨r,max M M2,fun m hm q hq=>by simp only;rw[h1 m (by omega) q (by omega)];exact g1 m (by omega) q (by omega),g2,g3⟩
 have stepq:∀ {h0:H0} {F:Fz} {ρ:D9} {h:H} {ds:List Nat} {k:DX->AI->Tr} {run run':Nat->Nat->Option (List Det.X)},Gx B h0 X base n Q k F ρ h nd run ds->(∀m q,run' m (q+1)=run m q)->Gx B h0 X base n Q k F ρ h nd run' ds:=by
  rintro h0 F ρ h ds k run run' ⟨l,M,h1,h2,h3⟩ he;refine⟨l,M+1,fun m hm q hq=>?_,h2,h3⟩;obtain⟨q',rfl⟩:=fuel (show 1<=q by omega);rw[he];exact h1 m (by omega) q' (by omega)
 intro c;induction c with
 |skip=>
  intro h0 st k F ρ fr h ds hb hr he;exact one hb hr he (fun m q hq=>by obtain⟨q',rfl⟩:=fuel hq;rfl)
 |label l=>
  intro h0 st k F ρ fr h ds hb hr he;exact one hb hr he (fun m q hq=>by obtain⟨q',rfl⟩:=fuel hq;rfl)
 |exit i=>
  intro h0 st k F ρ fr h ds hb hr he;exact one hb hr he (fun m q hq=>by obtain⟨q',rfl⟩:=fuel hq;rfl)
 |ret=>
  intro h0 st k F ρ fr h ds hb hr he;exact one hb hr he (fun m q hq=>by obtain⟨q',rfl⟩:=fuel hq;rfl)
 |region id ops dr=>
  intro h0 st k F ρ fr h ds hb hr he;unfold exec at he;cases dr with
  |true=>
   simp only[we]at he;cases hst:(!ro||HP ops (Er ops))with
   |false=>rw[hst]at he;exact wh he Ev.AA
   |true=>
   rw[hst]at he;simp only[we]at he;have hdd:∀call,(bif ct then IJ X.C call ops fr h else Tu X.C call ops fr h)=IJ X.C call ops fr h:=by
    intro call;cases hro:ro with
    |false=>rw[(hrv hro).2];rfl
    |true=>
     rw[hro]at hst;have hst:HP ops (Er ops)=true:=hst;cases ct with
     |true=>rfl
     |false=>simp only[wg,Tu,hst,we]
   obtain⟨n',hn,st1,he1,F',ρ',fr',h',hw,M,hM⟩:=Y8 (hcallD h0) hr he;refine⟨[⟨.normal,fr',h',ds⟩],M+1,fun m hm q hq=>?_,fun _=>⟨_,rfl⟩,fun x hx=>?_⟩
   ·obtain⟨q',rfl⟩:=fuel (show 1<=q by omega);have:=hM m (by omega);simp only[BD,we];rw[hdd,this]
   ·cases zc.1 hx;exact⟨[],⟨rfl,zl,fun _ hb=>(by cases hb)⟩,n',hn,st1,he1,F',ρ',hw.rel,zg hb hw.le.n,hw.le.low hb,hw.nx⟩
  |false=>
   simp only[wg]at he;obtain⟨r,M,hM,hone,hall⟩:=Uv (hcall h0) hr he;refine⟨r.map fun x=>⟨.normal,x.1,x.2,ds⟩,M+1,fun m hm q hq=>?_,fun e=>?_,fun x hx=>?_⟩
   ·obtain⟨q',rfl⟩:=fuel (show 1<=q by omega);simp only[BD,wg,hM m (by omega)]
   ·obtain⟨y,rfl⟩:=hone e;exact⟨_,rfl⟩
   ·obtain⟨y,hy,rfl⟩:=yj.1 hx;obtain⟨n',hn,st1,he1,F',ρ',hw⟩:=hall y hy;exact⟨[],⟨rfl,zl,fun _ hb=>(by cases hb)⟩,n',hn,st1,he1,F',ρ',hw.rel,zg hb hw.le.n,hw.le.low hb,hw.nx⟩
 |seq a b iha ihb=>
  intro h0 st k F ρ fr h ds hb hr he;unfold exec at he;refine stepq (chain (run2:=fun m q x=>match x.e with| .normal=>BD X.C (Bf X.C m) rv ct q b x.fr x.h x.ds|_=>some [x]) (zd n) (iha ds hb hr he) fun x ps1 n1 hn1 st1 he1 F' ρ' hr1 hb1=>?_) (fun m q=>rfl);obtain⟨e,fr1,h1,ds1⟩:=x;cases e with
  |normal=>
   have rest:∀ {st2:AI} {F2:Fz} {ρ2:D9} {n2:Nat},n2<=n->Rel B (h0.pins ps1) F2 ρ2 st2 fr1 h1->base<=st2.nx->(∀id,id<base->ρ2 id=ρ' id)->(∀b cs,F' b=some cs->F2 b=some cs)->Ev X Q n2 (exec X (Cp X nd d) (Cp X false d) nd ro d f base b st2 k)->
     Gx B (h0.pins ps1) X base n Q k F' ρ' h1 nd (fun m q=>BD X.C (Bf X.C m) rv ct q b fr1 h1 ds1) ds1:=by
    intro st2 F2 ρ2 n2 hn2 hr2 hb2 hρ2 hF2 he2;have hl0:Le F' ρ' base F2 ρ2 base:=⟨hF2,fun id hi=>.inl (hρ2 id hi),zd _⟩;have hc:Gx B (h0.pins ps1) X base n Q k F2 ρ2 h1 nd (fun m q=>BD X.C (Bf X.C m) rv ct q b fr1 h1 ds1) ds1:=by
     by_cases hlt:n2<n
     ·obtain⟨l,M,h1,h2,h3⟩:=IH n2 hlt b ds1 hb2 hr2 he2;exact⟨l,M,h1,h2,fun x hx=>by obtain⟨ps,k0,n2,k1,k2⟩:=h3 x hx;exact⟨ps,k0,n2,by omega,k2⟩⟩
     ·have:n2=n:=by omega
      subst this;exact ihb ds1 hb2 hr2 he2
    obtain⟨l,M,h1,h2,h3⟩:=hc;exact⟨l,M,h1,h2,fun x hx=>by
     obtain⟨ps,k0,n3,k1,st3,k2,F3,ρ3,k3,k4,k5,k6⟩:=h3 x hx;exact⟨ps,k0,n3,k1,st3,k2,F3,ρ3,k3,k4,hl0.trans k5,k6⟩⟩
   simp only at he1;cases hct:X.ct f (Df b)with
   |false=>rw[hct]at he1;exact rest hn1 hr1 hb1 (fun _ _=>rfl) (fun _ _ h=>h) he1
   |true=>
    rw[hct]at he1;simp only[we]at he1;cases he1 with
    |cut he1=>
     obtain⟨F2,ρ0,hr0,hb0,hρ0,hF⟩:=Py hr1 f (Df b) hb1;exact rest hn1 hr0 hb0 hρ0 hF he1
  |exit i=>exact⟨[⟨.exit i,fr1,h1,ds1⟩],0,fun _ _ _ _=>rfl,fun _=>⟨_,rfl⟩,fun x hx=>by cases zc.1 hx;exact⟨[],⟨rfl,zl,fun _ hb=>(by cases hb)⟩,n1,hn1,st1,he1,F',ρ',hr1,hb1,zw,zd _⟩⟩
  |ret=>exact⟨[⟨.ret,fr1,h1,ds1⟩],0,fun _ _ _ _=>rfl,fun _=>⟨_,rfl⟩,fun x hx=>by cases zc.1 hx;exact⟨[],⟨rfl,zl,fun _ hb=>(by cases hb)⟩,n1,hn1,st1,he1,F',ρ',hr1,hb1,zw,zd _⟩⟩
 |cond x a b iha ihb=>
  intro h0 st k F ρ fr h ds hb hr he;unfold exec at he;have go:∀ {t:Bool} {st1:AI},ev X.C fr x=some (.bool t)->Rel B h0 F ρ st1 fr h->base<=st1.nx->Ev X Q n (bif t then exec X (Cp X nd d) (Cp X false d) nd ro d f base a st1 k else exec X (Cp X nd d) (Cp X false d) nd ro d f base b st1 k)->Gx B h0 X base n Q k F ρ h nd (fun m q=>BD X.C (Bf X.C m) rv ct q (.cond x a b) fr h ds) ds:=by
   intro t st1 hx hr1 hb1 he;cases t with
   |true=>exact stepq (iha ds hb1 hr1 he) (fun m q=>by simp only[BD,hx])
   |false=>exact stepq (ihb ds hb1 hr1 he) (fun m q=>by simp only[BD,hx])
  split at he
  case h_4=>exact wh he Ev.AA
  case h_3=>
   rename_i ht;obtain⟨y,g1,g2⟩:=B4 (C:=X.C) hr.fp ht;simp only[PR]at g2;obtain⟨t,rfl⟩:=g2;split at he
   case h_2=>exact wh he Ev.AA
   rename_i s;have hs:fr.get s=.bool t:=by simpa [ev]using g1
   obtain⟨he1,he2⟩:=he.T7;cases t with
   |true=>exact go g1 (hr.note (by rw[hs];exact Iw _)) hb he1
   |false=>exact go g1 (hr.note (by rw[hs];exact Iw _)) hb he2
  case h_1=>
   rename_i t ht;obtain⟨y,g1,g2⟩:=B4 (C:=X.C) hr.fp ht;obtain rfl:=NI g2;exact go g1 hr hb he
  case h_2=>
   rename_i t ht;obtain⟨y,g1,g2⟩:=B4 (C:=X.C) hr.fp ht;obtain rfl:=HC g2;split at he
   case h_1=>
    rename_i s;have hs:fr.get s=.bool t:=by simpa [ev]using g1
    rcases he.EB with⟨ht1,he2⟩|⟨ht1,he2⟩
    ·have ht1:t=true:=ht1;subst ht1;exact go g1 (hr.note (by rw[hs];exact Iw _)) hb he2
    ·have ht1:t=false:=ht1;subst ht1;exact go g1 (hr.note (by rw[hs];exact Iw _)) hb he2
   case h_2=>
    rcases he.EB with⟨ht1,he2⟩|⟨ht1,he2⟩
    ·have ht1:t=true:=ht1;subst ht1;exact go g1 hr hb he2
    ·have ht1:t=false:=ht1;subst ht1;exact go g1 hr hb he2
 |block id b ih=>
  intro h0 st k F ρ fr h ds hb hr he;unfold exec at he;obtain⟨l,M,h1,h2,h3⟩:=ih ds hb hr he;refine⟨l.map fun x=>match x.e with
    | .exit i=>bif zh i id then { x with e:=.normal }else x
    |_=>x,M+1,fun m hm q hq=>?_,fun e=>?_,fun y hy=>?_⟩
  ·obtain⟨q',rfl⟩:=fuel (show 1<=q by omega);have g1:=h1 m (by omega) q' (by omega);simp only at g1;simp only[BD,g1];rfl
  ·obtain⟨y,rfl⟩:=h2 e;exact⟨_,rfl⟩
  ·obtain⟨⟨e,fr1,hh1,ds1⟩,hx,rfl⟩:=yj.1 hy;obtain⟨ps,k0,n1,k1,st1,he1,F',ρ',k3,k4,k5,k6⟩:=h3 _ hx;cases e with
   |normal=>exact⟨ps,k0,n1,k1,st1,he1,F',ρ',k3,k4,k5,k6⟩
   |ret=>exact⟨ps,k0,n1,k1,st1,he1,F',ρ',k3,k4,k5,k6⟩
   |exit i=>
    simp only at he1 ⊢;cases hbe:zh i id with
    |true=>rw[hbe]at he1;exact⟨ps,k0,n1,k1,st1,he1,F',ρ',k3,k4,k5,k6⟩
    |false=>rw[hbe]at he1;exact⟨ps,k0,n1,k1,st1,he1,F',ρ',k3,k4,k5,k6⟩
 |loop b ih=>
  intro h0 st k F ρ fr h ds hb hr he;unfold exec at he;cases he with
  |@loop n0 _ _ _ _ _ _ _ _ he=>
  obtain⟨F0,ρ0,hr0,hb0,hρ0,hF0⟩:=Py hr f (Df b) hb;have hl0:Le F ρ base F0 ρ0 base:=⟨hF0,fun id hi=>.inl (hρ0 id hi),zd _⟩;unfold body at he;have hbody:=IH n0 (yc _) b ds hb0 hr0 he;have hch:Gx B h0 X base (n0+1) Q k F0 ρ0 h nd (fun m q=>match BD X.C (Bf X.C m) rv ct q b fr h ds with|some l=>bl l (fun x=>match x.e with| .normal=>BD X.C (Bf X.C m) rv ct q (.loop b) x.fr x.h x.ds|_=>some [x])|none=>none) ds:=by
   refine chain (run2:=fun m q x=>match x.e with| .normal=>BD X.C (Bf X.C m) rv ct q (.loop b) x.fr x.h x.ds|_=>some [x]) (Nat.le_succ n0) hbody fun x ps1 n1 hn1 st1 he1 F' ρ' hr1 hb1=>?_
   obtain⟨e,fr1,h1,ds1⟩:=x;cases e with
   |normal=>
    have he1':Ev X Q n1 (exec X (Cp X nd d) (Cp X false d) nd ro d f base (.loop b) st1 k):=by unfold exec;exact he1
    obtain⟨l,M,h1,h2,h3⟩:=IH n1 (by omega) (.loop b) ds1 hb1 hr1 he1';exact⟨l,M,h1,h2,fun x hx=>by obtain⟨ps,k0,n2,k1,k2⟩:=h3 x hx;exact⟨ps,k0,n2,by omega,k2⟩⟩
   |exit i=>exact⟨[⟨.exit i,fr1,h1,ds1⟩],0,fun _ _ _ _=>rfl,fun _=>⟨_,rfl⟩,fun x hx=>by cases zc.1 hx;exact⟨[],⟨rfl,zl,fun _ hb=>(by cases hb)⟩,n1,by omega,st1,he1,F',ρ',hr1,hb1,zw,zd _⟩⟩
   |ret=>exact⟨[⟨.ret,fr1,h1,ds1⟩],0,fun _ _ _ _=>rfl,fun _=>⟨_,rfl⟩,fun x hx=>by cases zc.1 hx;exact⟨[],⟨rfl,zl,fun _ hb=>(by cases hb)⟩,n1,by omega,st1,he1,F',ρ',hr1,hb1,zw,zd _⟩⟩
  obtain⟨l,M,g1,g2,g3⟩:=stepq (run':=fun m q=>BD X.C (Bf X.C m) rv ct q (.loop b) fr h ds) hch (fun m q=>rfl);refine⟨l,M,g1,g2,fun x hx=>?_⟩;obtain⟨ps,k0,n2,k1,st2,k2,F2,ρ2,k3,k4,k5,k6⟩:=g3 x hx;exact⟨ps,k0,n2,k1,st2,k2,F2,ρ2,k3,k4,hl0.trans k5,k6⟩
 |scope b ih=>
  intro h0 st k F ρ fr h ds hb hr he;unfold exec at he;exact stepq (ih ds hb hr he) (fun m q=>rfl)
 |rangeFunc g ps a b _ _=>
  intro h0 st k F ρ fr h ds hb hr he;unfold exec at he;exact wh he Ev.AA
 |goto l=>intro h0 st k F ρ fr h ds hb hr he;exact wh he Ev.AA
 |refuse s=>intro h0 st k F ρ fr h ds hb hr he;exact wh he Ev.AA
end
section
variable {B:Nat}{h0:H0}{X:A0}{F:Fz}{ρ:D9}{N:Nat}{st st':AI}{fr:Fr}{h:H}
theorem Kd:∀ {ps:List PV} {i t:Nat} {p:PV},(t,p)∈Ef ps i->∃k,t=i+k/\ps[k]?=some p
 |[],i,t,p,h=>by cases h
 |q::ps,i,t,p,h=>by
  unfold Ef at h;rcases ya.1 h with h|h
  ·cases h;exact⟨0,rfl,rfl⟩
  ·obtain⟨k,h1,h2⟩:=Kd h;exact⟨k+1,by rw[h1];show i+1+k=_;omega,by simpa using h2⟩
theorem nC{ps:List PV}{vs:List V}(hp:Ba F ρ N ps vs)(n:Nat)(ob:Ob)(nx:Nat)(_hnx:nx=N):FP F ρ N (AD (yi ps.length (Nat.sub n ps.length)) (Ef ps 0) ob nx) (MF n vs):=by
 refine⟨by show ps.length+(n-ps.length)=vs.length+(n-vs.length);rw[hp.len],fun t=>?_⟩;show PR F ρ N (((E7 (Ef ps 0)).get t).getD .any) _;cases hg:(E7 (Ef ps 0)).get t with
 |none=>show PR F ρ N .any _;simp[PR]
 |some p=>
  show PR F ρ N p _;rcases IF _ .leaf t p hg with h1|h1
  ·obtain⟨k,h2,h3⟩:=Kd h1;obtain rfl:t=k:=by omega
   obtain⟨v,h4,h5⟩:=hp.get h3;have hlt:=(zf.1 h4).1;unfold MF Fr.get;simp only;rw[LF,wd (by omega),Nat.sub_zero,h4];exact h5
  ·simp at h1
theorem gY{T:BW}{st s:AI}{t:TypeId}{a p:PV}(h:(My T st t a).To p s):s=st:=by
 unfold My at h;split at h
 case h_2=>exact wh h (by simp)
 split at h
 case h_4=>exact wh h (by simp)
 ·split at h
  case h_4=>exact wh h (by simp)
  case h_3=>simp only[Ki]at h;exact h.2.symm
  ·simp only[Ki]at h;exact h.2.symm
  ·rename_i s' l _;cases hc:(zh _ 0&&zh s'.sz 1)with
   |false=>rw[hc]at h;exact wh h (by simp)
   |true=>rw[hc]at h;simp only[we,N4]at h;exact h.2.2.symm
 ·split at h
  case h_2=>exact wh h (by simp)
  rename_i sz j off _ _ _ s' l _;cases hc:(zh sz s'.sz)with
  |false=>rw[hc]at h;exact wh h (by simp)
  |true=>rw[hc]at h;simp only[we,N4]at h;exact h.2.2.symm
 ·simp only[Ki]at h;exact h.2.symm
theorem OZ{Q:PV->Ob->Prop}{n:Nat}{t:Tr}:∀ {cs:List Bool},Ev X Q n (Pk cs t)->(∀c∈cs,c=true)/\Ev X Q n t
 |[],h=>⟨fun c hc=>(by cases hc),h⟩
 |c::cs,h=>by
  unfold Pk at h;rcases h.EB with⟨hc,h1⟩|⟨_,h1⟩
  ·obtain⟨h2,h3⟩:=OZ h1;exact⟨fun d hd=>by
    rcases ya.1 hd with rfl|hd
    ·exact hc
    ·exact h2 d hd,h3⟩
  ·exact wh h1 Ev.AA
theorem Uo:∀ {rs:List ResultVar} {ps:List PV} {F:Fz} {ρ:D9},Rel B h0 F ρ st fr h->cL X.C.T st rs=some ps->(∀c∈KX X.C.T st rs,c=true)->
  ∃vs F' ρ',Oe X.C fr h rs=some vs/\Ba F' ρ' st.nx ps vs/\Rel B h0 F' ρ' st fr h/\Le F ρ st.nx F' ρ' st.nx
 |[],ps,F,ρ,hr,hp,_=>by cases hp;exact⟨[],F,ρ,rfl,by simp,hr,zw⟩
 |r::rs,ps,F,ρ,hr,hp,hall=>by
  unfold cL at hp;split at hp
  case h_2=>cases hp
  rename_i p ps' h1 h2;cases hp;have key:∃v F1 ρ1,YH X.C fr h r=some v/\PR F1 ρ1 st.nx p v/\Rel B h0 F1 ρ1 st fr h/\Le F ρ st.nx F1 ρ1 st.nx:=by
   cases r with
   |tmp t=>
    simp only[kB,zk]at h1;subst h1;exact⟨_,F,ρ,rfl,hr.fp.slot t,hr,zw⟩
   |cell a t=>
    have ht:∃s,(My X.C.T st t (st.get a)).To p s:=by
     simp only[kB]at h1;split at h1
     case h_3=>cases h1
     ·rename_i u s hl;cases h1;exact⟨s,by rw[hl];exact .val⟩
     ·rename_i c u s hl;cases h1;refine⟨s,?_⟩;have:=hall c (by unfold KX;rw[hl];exact zr);rw[hl,this];show(PO.FT true p s).To p s;rw[BI];exact⟨rfl,rfl,rfl⟩
    obtain⟨s,ht⟩:=ht;have hs:s=st:=gY ht;subst hs;obtain⟨v',h',F',ρ',g1,g2,g3,g4,g5,g6,g7,g8⟩:=gX (C:=X.C) hr.sr (hr.fp.slot a) ht;cases hd:EK X.C.T h t (fr.get a)with
    |none=>rw[hd]at g1;rcases g1 with g1|⟨g1,_⟩<;>cases g1
    |some w=>
     rw[hd]at g1;rcases g1 with g1|⟨g1,_⟩
     ·simp only[Bt,zk,OR.val.injEq]at g1;obtain⟨rfl,rfl⟩:=g1;exact⟨w,F',ρ',hd,g2,⟨hr.fp.mono g4,g3⟩,g4⟩
     ·cases g1
  obtain⟨v,F1,ρ1,k1,k2,k3,k4⟩:=key;obtain⟨vs,F2,ρ2,k5,k6,k7,k8⟩:=Uo k3 h2 (fun c hc=>hall c (by
   cases r with
   |tmp t=>unfold KX;exact hc
   |cell a t=>
    unfold KX;split
    ·exact zo _ hc
    ·exact hc))
  exact⟨v::vs,F2,ρ2,by simp[Oe,k1,k5],by simp only[A1];exact⟨k2.mono k8,k6⟩,k7,k4.trans k8⟩
theorem I6{nd:Bool}{d:Nat}(hcall:∀h0,E2 B h0 X nd (Cp X nd d))(hcallD:∀h0,E2 B h0 X false (Cp X false d))(hmg:X.C.mg=false){g:FuncId}(hsp:X.C.spec g=none)(hprim:X.C.prim g=none)(hno:X.sp g=none){Q:PV->Ob->Prop}{n:Nat}{args:List PV}{k:PV->AI->Tr}{args':List V}
  (he:Ev X Q n (enter X (Cp X nd d) (Cp X false d) nd d g args st k)) (hr:Rel B h0 F ρ st fr h) (ha:Ba F ρ st.nx args args'):
  (X.C.prim g=none/\∃i,X.C.fn g=some i)/\∃l M,(∀m,M<=m->Bf X.C m (.fn g args') h=some l)/\(nd=false->∃x,l=[x])/\
   ∀x∈l,∃n',n'<=n/\∃r st',Ev X Q n' (k r st')/\∃F' ρ',PR F' ρ' st'.nx r x.1/\C6 B h0 F ρ st.nx h st' fr x.2 F' ρ'/\(∀sp,X.sp g=some sp->∀b,b<h.nx->x.2.get b=h.get b):=by
 unfold enter at he;split at he
 case h_1=>exact wh he Ev.AA
 rename_i i hi;cases hc:i.cert with
 |false=>rw[hc]at he;exact wh he Ev.AA
 |true=>
  rw[hc]at he;simp only[we]at he;have hr0:Rel B h0 F ρ (AD (yi args.length (Nat.sub i.ntmps args.length)) (Ef args 0) st.ob st.nx) (MF i.ntmps args') h:=⟨nC ha i.ntmps st.ob st.nx rfl,hr.sr⟩;obtain⟨l,M,hM,hone,hall⟩:=Ox (ro:=false) (rv:=none) (ct:=true) (fun _=>⟨rfl,rfl⟩) hcall hcallD n i.body (st:=AD (yi args.length (Nat.sub i.ntmps args.length)) (Ef args 0) st.ob st.nx) [] (zd st.nx) hr0 he;have fin:∀x∈l,∃(r:List (V×H)) (M:Nat),(∀m:Nat,M<=m->∀q:Nat,M<=q->(match x.e with
      | .exit _=>none
      |_=>match FC x.ds x.h with
       |some h1=>match OG X.C x.fr h1 i.results.toList with
        |some v=>some [(v,h1)]
        |none=>none
       |none=>none)=some r)/\(nd=false->∃x,r=[x])/\∀x∈r,∃n',n'<=n/\∃r st',Ev X Q n' (k r st')/\∃F' ρ',PR F' ρ' st'.nx r x.1/\C6 B h0 F ρ st.nx h st' fr x.2 F' ρ'/\(∀sp,X.sp g=some sp->∀b,b<h.nx->x.2.get b=h.get b):=by
   intro x hx;obtain⟨ps,⟨hds,hnodup,hge⟩,n1,hn1,st1,he1,F1,ρ1,hr1',hb1,hl1,hx1'⟩:=hall x hx;obtain⟨e,fr1,hx0,ds1⟩:=x;simp only at hds he1 hr1' hx1' ⊢;obtain⟨h1,hlv,hsr1,hnx1,_⟩:=SR.leave hnodup (fun b hb hp=>by
    have k1:=hge b hb;have k2:=hr.sr.lt b _ (hr.sr.pn b hp).1;omega) hr1'.sr
   have hr1:Rel B h0 F1 ρ1 st1 fr1 h1:=⟨hr1'.fp,hsr1⟩;have hx1:h.nx<=h1.nx:=by rw[hnx1];exact hx1'
   rw[List.append_nil]at hds;subst hds;have go:(∀j,e≠ .exit j)->Ev X Q n1 (match cL X.C.T st1 i.results.toList with|some vs=>Pk (KX X.C.T st1 i.results.toList) (k (Go.Pe.one vs) ⟨st.n,st.fr,st1.ob,st1.nx⟩)|none=>.fail)->
     ∃v',OG X.C fr1 h1 i.results.toList=some v'/\∃n',n'<=n/\∃r st',Ev X Q n' (k r st')/\∃F' ρ',PR F' ρ' st'.nx r v'/\C6 B h0 F ρ st.nx h st' fr h1 F' ρ'/\(∀sp,X.sp g=some sp->∀b,b<h.nx->h1.get b=h.get b):=by
    intro hne he2;split at he2
    case h_2=>exact wh he2 Ev.AA
    rename_i ps hps;obtain⟨hcond,he2⟩:=OZ he2;obtain⟨vs,F2,ρ2,k1,k2,k3,k4⟩:=Uo hr1 hps hcond;have hle:Le F ρ st.nx F2 ρ2 st1.nx:=⟨fun b cs hb=>k4.fz _ _ (hl1.fz _ _ hb),fun id hid=>by
     rcases k4.rho id (zj hid hb1)with e|e
     ·rw[e];exact hl1.rho id hid
     ·exact .inr e,hb1⟩
    have hres:∃r',OG X.C fr1 h1 i.results.toList=some r'/\PR F2 ρ2 st1.nx (Go.Pe.one ps) r':=by
     unfold OG;rw[k1];cases ps with
     |nil=>simp at k2;subst k2;exact⟨_,rfl,by simp[Go.Pe.one,PR]⟩
     |cons p ps=>
      simp only[Ba]at k2;obtain⟨v1,vs1,rfl,g1,g2⟩:=k2;cases ps with
      |nil=>simp at g2;subst g2;exact⟨_,rfl,g1⟩
      |cons q qs=>
       have g2':=g2;simp only[Ba]at g2;obtain⟨v2,vs2,rfl,_,_⟩:=g2;refine⟨_,rfl,?_⟩;show PR F2 ρ2 st1.nx (.tup (p::q::qs)) _;unfold PR;exact⟨_,rfl,by simp only[A1];exact⟨g1,by simpa only[A1]using g2'⟩⟩
    obtain⟨r',q1,q2⟩:=hres;exact⟨r',q1,n1,hn1,_,_,he2,F2,ρ2,q2,⟨⟨⟨hr.fp.n,fun t=>(hr.fp.slot t).mono hle⟩,k3.sr⟩,hle,hx1⟩,fun sp h=>(by rw[hno]at h;cases h)⟩
   cases e with
   |normal=>
    obtain⟨v',q1,q2⟩:=go (fun j=>by simp) he1;exact⟨[(v',h1)],0,fun m _ q _=>(by simp only[hlv,q1]),fun _=>⟨_,rfl⟩,fun y hy=>by cases zc.1 hy;exact q2⟩
   |ret=>
    obtain⟨v',q1,q2⟩:=go (fun j=>by simp) he1;exact⟨[(v',h1)],0,fun m _ q _=>(by simp only[hlv,q1]),fun _=>⟨_,rfl⟩,fun y hy=>by cases zc.1 hy;exact q2⟩
   |exit j=>exact wh he1 Ev.AA
  obtain⟨r,M2,g1,g2,g3⟩:=KY (f:=fun _ _ (x:Det.X)=>match x.e with
      | .exit _=>none
      |_=>match FC x.ds x.h with
       |some h1=>match OG X.C x.fr h1 i.results.toList with
        |some v=>some [(v,h1)]
        |none=>none
       |none=>none) (P:=fun x=>∃n',n'<=n/\∃r st',Ev X Q n' (k r st')/\∃F' ρ',PR F' ρ' st'.nx r x.1/\C6 B h0 F ρ st.nx h st' fr x.2 F' ρ'/\(∀sp,X.sp g=some sp->∀b,b<h.nx->x.2.get b=h.get b)) hone fin
  refine⟨⟨hprim,i,hi⟩,r,max M M2+1,fun m hm=>?_,g2,g3⟩;obtain⟨m',rfl⟩:∃m',m=m'+1:=⟨m-1,by omega⟩;have hd:=hM m' (by omega) m' (by omega);have hg:=g1 m' (by omega) m' (by omega);simp only at hd;have:Bf X.C (m'+1) (.fn g args') h=(match BD X.C (Bf X.C m') none i.cert m' i.body (MF i.ntmps args') h []with
    |none=>none
    |some l=>match (bl l fun x=>match x.e with
     | .exit _=>none
     |_=>match FC x.ds x.h with
      |some h1=>match OG X.C x.fr h1 i.results.toList with
       |some v=>some [(v,h1)]
       |none=>none
      |none=>none)with
     |some r=>some (bif X.C.mg then OM h.nx r else r)
     |none=>none):=by
   rw[Bf];simp only[hsp,hi];rfl
  rw[this,hc,hd];simp only;have hg':(bl l fun x=>match x.e with
     | .exit _=>none
     |_=>match FC x.ds x.h with
      |some h1=>match OG X.C x.fr h1 i.results.toList with
       |some v=>some [(v,h1)]
       |none=>none
      |none=>none)=some r:=hg
  rw[hg',hmg];rfl
theorem QH{nd:Bool}{d:Nat}(hcall:∀h0,E2 B h0 X nd (Cp X nd d))(hcallD:∀h0,E2 B h0 X false (Cp X false d)){id:Nat}{Q:PV->Ob->Prop}{n:Nat}{args:List PV}{k:PV->AI->Tr}{args':List V}
  (he:Ev X Q n (iY X (Cp X nd d) (Cp X false d) nd d id args st k)) (hr:Rel B h0 F ρ st fr h) (ha:Ba F ρ st.nx args args'):
  ∃c,xS X ρ h args' (.rnd id) c/\∃l M,(∀m,M<=m->Bf X.C m c h=some l)/\(nd=false->∃x,l=[x])/\
   ∀x∈l,∃n',n'<=n/\∃r st',Ev X Q n' (k r st')/\∃F' ρ',PR F' ρ' st'.nx r x.1/\C6 B h0 F ρ st.nx h st' fr x.2 F' ρ':=by
 unfold iY at he;split at he
 case h_2=>exact wh he Ev.AA
 rename_i f r ps asg b n0 sl hob;obtain⟨bb,m0,y,k1,k2,⟨ls,rfl,rfl,rfl,rfl,⟨l1,l2⟩,rfl,l4⟩,-⟩:=hr.sr.at hob;cases hsz:zh args.length ls.ps.size with
 |false=>rw[hsz]at he;exact wh he Ev.AA
 |true=>
 rw[hsz]at he;simp only[we]at he;have hlen:args'.length=ls.ps.size:=by rw[<-ha.len];exact zi hsz
 have hid:id<st.nx:=(hr.sr.own _ _ _ k1).1;have hr0:Rel B h0 F ρ (MH ls.ps.toList args (AD ls.fr.n sl st.ob st.nx)) (Gb ls.ps.toList args' ls.fr) h:=by
  have base0:Rel B h0 F ρ (AD ls.fr.n sl st.ob st.nx) ls.fr h:=⟨⟨rfl,fun t=>l4 t⟩,hr.sr⟩;have go:∀(ts:List Tmp) (Abz:List PV) (as':List V) (s:AI) (f:Fr),s.nx=st.nx->Ba F ρ st.nx Abz as'->Rel B h0 F ρ s f h->Rel B h0 F ρ (MH ts Abz s) (Gb ts as' f) h:=by
   intro ts;induction ts with
   |nil=>intro Abz as' s f _ _ hs;cases Abz<;>exact hs
   |cons t ts ih=>
    intro Abz as' s f hn hp hs;cases Abz with
    |nil=>simp only[B3]at hp;subst hp;exact hs
    |cons a Abz=>
     simp only[Ba]at hp;obtain⟨v,vs,rfl,p1,p2⟩:=hp;simp only[MH,Gb];refine ih Abz vs _ _ ?_ p2 ?_
     ·cases zu t s.n<;>exact hn
     ·unfold Fr.Zg;rw[show s.n=f.n from hs.fp.n];cases zu t f.n with
      |false=>exact hs
      |true=>exact hs.set (by rw[hn];exact p1)
  exact go _ _ _ _ _ rfl ha base0
 have hnx0:st.nx<=(MH ls.ps.toList args (AD ls.fr.n sl st.ob st.nx)).nx:=by
  have go:∀(ts:List Tmp) (Abz:List PV) (s:AI),(MH ts Abz s).nx=s.nx:=by
   intro ts;induction ts with
   |nil=>intro Abz s;cases Abz<;>rfl
   |cons t ts ih=>
    intro Abz s;cases Abz with
    |nil=>rfl
    |cons a Abz=>simp only[MH];rw[ih];cases zu t s.n<;>rfl
  rw[go];exact zd _
 obtain⟨L,M1,hM1,hone1,hall1⟩:=Ox (ro:=true) (rv:=some bb) (ct:=false) (fun e=>by cases e) hcall hcallD n ls.asg [] hnx0 hr0 he;refine⟨_,⟨bb,m0,ls,k1,k2,hlen,rfl⟩,?_⟩;have fin:∀x∈L,∃(r:List (V×H)) (M:Nat),(∀m:Nat,M<=m->∀q:Nat,M<=q->(match x.e,x.h.get bb with
   | .normal,some (.loop l1)=>match l1.st with
    | .ready=>match BD X.C (Bf X.C m) (some bb) false q ls.body x.fr (x.h.put bb (.loop { l1 with st:=.busy })) x.ds with
     |some l2=>bl l2 fun y=>match y.h.get bb with
      |some (.loop l3)=>match y.e with
       | .normal=>some [(V.bool true,y.h.put bb (.loop { l3 with st:=.ready,pend:=none }))]
       | .ret=>some [(V.bool false,y.h.put bb (.loop { l3 with st:=.done,pend:=some .ret }))]
       | .exit i=>some [(V.bool false,y.h.put bb (.loop { l3 with st:=.done,pend:=some (.exit i) }))]
      |_=>none
     |none=>none
    |_=>none
   |_,_=>none)=some r)/\(nd=false->∃x,r=[x])/\∀x∈r,∃n',n'<=n/\∃r st',Ev X Q n' (k r st')/\∃F' ρ',PR F' ρ' st'.nx r x.1/\C6 B h0 F ρ st.nx h st' fr x.2 F' ρ':=by
  intro x hx;obtain⟨ps1,_,n1,hn1,s,he1,F1,ρ1,hr1,hb1,hl1,hx1⟩:=hall1 x hx;obtain⟨e,fr1,h1,ds1⟩:=x;simp only at he1 hr1 hx1 ⊢;cases e with
  |exit i=>exact wh he1 Ev.AA
  |ret=>exact wh he1 Ev.AA
  |normal=>
  simp only at he1;split at he1
  case h_2=>exact wh he1 Ev.AA
  rename_i f' r' ps' asg' b' n' sl' hob1;have hs1:SR B h0 F1 ρ1 s.nx s.ob h1:=hr1.sr.bK;obtain⟨c1,m1,y1,q1,q2,⟨la,rfl,rfl,rfl,rfl,⟨la1,la2⟩,rfl,la4⟩,-⟩:=hs1.at hob1;obtain⟨rfl,rfl⟩:c1=bb/\m1=m0:=by
   have:=hl1.at hid q1;rw[k1]at this;cases this;exact⟨rfl,rfl⟩
  have hr2:Rel B h0 F1 ρ1 (s.setObj id (.lp f' r' la.ps la.asg la.body .busy la.fr.n sl')) fr1 (h1.put c1 (.loop { la with st:=.busy })):=
   ⟨⟨hr1.fp.n,fun t=>hr1.fp.slot t⟩,hs1.set hob1 q1 q2 rfl rfl (o':=.lp f' r' la.ps la.asg la.body .busy la.fr.n sl') ⟨_,rfl,rfl,rfl,rfl,rfl,rfl,la4⟩⟩
  obtain⟨L2,M2,hM2,hone2,hall2⟩:=Ox (ro:=true) (rv:=some c1) (ct:=false) (fun e=>by cases e) hcall hcallD n1 ls.body ds1 (show st.nx<=(s.setObj id (.lp f' r' la.ps la.asg la.body .busy la.fr.n sl')).nx from hb1) hr2 he1;have fin2:∀y∈L2,∃(r:List (V×H)) (M:Nat),(∀m:Nat,M<=m->∀q:Nat,M<=q->(match y.h.get c1 with
    |some (.loop l3)=>match y.e with
     | .normal=>some [(V.bool true,y.h.put c1 (.loop { l3 with st:=.ready,pend:=none }))]
     | .ret=>some [(V.bool false,y.h.put c1 (.loop { l3 with st:=.done,pend:=some .ret }))]
     | .exit i=>some [(V.bool false,y.h.put c1 (.loop { l3 with st:=.done,pend:=some (.exit i) }))]
    |_=>none)=some r)/\(nd=false->∃x,r=[x])/\∀x∈r,∃n',n'<=n/\∃r st',Ev X Q n' (k r st')/\∃F' ρ',PR F' ρ' st'.nx r x.1/\C6 B h0 F ρ st.nx h st' fr x.2 F' ρ':=by
   intro y hy;obtain⟨ps2,_,n2,hn2,s2,he2,F2,ρ2,hr3,hb2,hl2,hx2⟩:=hall2 y hy;obtain⟨e2,fr2,h2,ds2⟩:=y;simp only at he2 hr3 hx2 ⊢;split at he2
   case h_2=>exact wh he2 Ev.AA
   rename_i f2 r2 pp2 aa2 bb2 ss2 nn2 sl2 hob2;have hs3:SR B h0 F2 ρ2 s2.nx s2.ob h2:=hr3.sr.bK;obtain⟨c2,m2,y2,w1,w2,⟨lb,rfl,rfl,rfl,rfl,_,rfl,lb4⟩,-⟩:=hs3.at hob2;have hle:Le F ρ st.nx F2 ρ2 s2.nx:=by
    have h:=hl1.trans hl2;exact⟨h.fz,h.rho,hb2⟩
   obtain⟨rfl,rfl⟩:c2=c1/\m2=m1:=by
    have:=hle.at hid w1;rw[k1]at this;cases this;exact⟨rfl,rfl⟩
   have hnx:h.nx<=h2.nx:=zg hx1 hx2;have done:∀(sb:LpS) (lst:LoopState) (pe:Option Code) (rb:Bool),LpR sb lst pe->Ev X Q n2 (k (.bl rb) ⟨st.n,st.fr,(s2.setObj id (.lp f2 r2 lb.ps lb.asg lb.body sb lb.fr.n sl2)).ob,s2.nx⟩)->
     ∃n',n'<=n/\∃r st',Ev X Q n' (k r st')/\∃F' ρ',PR F' ρ' st'.nx r (V.bool rb)/\C6 B h0 F ρ st.nx h st' fr (h2.put c2 (.loop { lb with st:=lst,pend:=pe })) F' ρ':=by
    intro sb lst pe rb hlr he3;refine⟨n2,zg hn2 hn1,_,_,he3,F2,ρ2,Iw _,⟨⟨⟨hr.fp.n,fun t=>(hr.fp.slot t).mono hle⟩,?_⟩,hle,hnx⟩⟩;exact hs3.set hob2 w1 w2 rfl rfl (o':=.lp f2 r2 lb.ps lb.asg lb.body sb lb.fr.n sl2) ⟨_,rfl,rfl,rfl,rfl,hlr,rfl,lb4⟩
   cases e2 with
   |normal=>exact⟨[(.bool true,h2.put c2 (.loop { lb with st:=.ready,pend:=none }))],0,fun m _ q _=>(by simp only[w2]),fun _=>⟨_,rfl⟩,fun z hz=>by cases zc.1 hz;exact done .ready _ _ true ⟨rfl,rfl⟩ he2⟩
   |ret=>exact⟨[(.bool false,h2.put c2 (.loop { lb with st:=.done,pend:=some .ret }))],0,fun m _ q _=>(by simp only[w2]),fun _=>⟨_,rfl⟩,fun z hz=>by cases zc.1 hz;exact done .ret _ _ false ⟨rfl,rfl⟩ he2⟩
   |exit i=>exact⟨[(.bool false,h2.put c2 (.loop { lb with st:=.done,pend:=some (.exit i) }))],0,fun m _ q _=>(by simp only[w2]),fun _=>⟨_,rfl⟩,fun z hz=>by cases zc.1 hz;exact done (.exit i) _ _ false ⟨rfl,rfl⟩ he2⟩
  obtain⟨r,M3,j1,j2,j3⟩:=KY hone2 fin2;refine⟨r,max M2 M3,fun m hm q hq=>?_,j2,j3⟩;have a1:=hM2 m (by omega) q (by omega);simp only at a1;have a2:=j1 m (by omega) q (by omega);simp only[q2,la1];rw[a1];exact a2
 obtain⟨r,M4,j1,j2,j3⟩:=KY hone1 fin;refine⟨r,max M1 M4+1,fun m hm=>?_,j2,j3⟩;obtain⟨m',rfl⟩:∃m',m=m'+1:=⟨m-1,by omega⟩;have a1:=hM1 m' (by omega) m' (by omega);simp only at a1;have a2:=j1 m' (by omega) m' (by omega);rw[Bf];simp only[RI];rw[a1];exact a2
end
section
variable {B:Nat}{h0:H0}{X:A0}{F F1 F':Fz}{ρ:D9}{N:Nat}{st st':AI}{fr:Fr}{h h':H}
theorem YY{p:PV}{v:V}(hp:PR F ρ N p v):∃w,Ba F ρ N p.cells w/\(J8 p=true->v=.agg w)/\(J8 p=false->w=[v]):=by
 cases p with
 |agg l=>simp only[PR]at hp;obtain⟨cs,rfl,h1⟩:=hp;exact⟨cs,h1,fun _=>rfl,fun e=>by cases e⟩
 |_=>exact⟨[v],by simp only[zq,A1,B3,wn];exact hp,fun e=>(by cases e),fun _=>rfl⟩
theorem QI{st:AI}{s:Sh}{p:PV}{x:s.T}{v:V}{w:List V}(ha:H5 st s p=some (true,x))(h1:J8 p=true->v=.agg w)(h2:J8 p=false->w=[v])(hw:∀xs,Es st p.cells=some (true,xs)->LU F xs w):PC F (B8 s x) v:=by
 unfold H5 at ha;cases hb:(J8 p==s.P5)with
 |false=>rw[hb]at ha;cases ha
 |true=>
  rw[hb]at ha;simp only[we]at ha;split at ha
  case h_2=>cases ha
  rename_i c cs hcs;split at ha
  case h_2=>cases ha
  rename_i y hy;simp only[zk,Prod.mk.injEq,ze]at ha;obtain⟨⟨hco,rfl⟩,rfl⟩:=ha;have hdc:=LU.dc (fun ρ N=>QV (hw cs hcs ρ N) hco) hy;have hk:=PC.B8 hdc;have hb:J8 p=s.P5:=by simpa using hb
  cases hp:s.P5 with
  |true=>rw[hp]at hb;rw[h1 hb];exact hk.1 hp
  |false=>rw[hp]at hb;exact hk.2 hp v (h2 hb)
theorem handed:∀ {ps:List PV} {vs:List V} {st:AI} {F:Fz},SR B h0 F ρ st.nx st.ob h->Ba F ρ st.nx ps vs->
  ∃F1,SR B h0 F1 ρ (Bn (ps.flatMap zq) st).nx (Bn (ps.flatMap zq) st).ob h/\(∀b cs,F b=some cs->F1 b=some cs)/\∀l i,Ec st l ps=some (true,i)->LU F1 (Af l i) vs
 |[],vs,st,F,hr,hp=>⟨F,hr,fun _ _ h=>h,fun l i hi=>by
  have hv:vs=[]:=by simpa using hp
  subst hv;match l,i,hi with
  |[],_,_=>intro ρ' N';simp[Af]
  |[a],_,hi=>cases hi
  |a::b::l,_,hi=>cases hi⟩
 |p::ps,vs,st,F,hr,hp=>by
  simp only[Ba]at hp;obtain⟨v,vs,rfl,h1,h2⟩:=hp;obtain⟨w,c1,c2,c3⟩:=YY h1;obtain⟨F1,g1,g2,g3⟩:=IL hr c1;have h2':Ba F1 ρ (Bn p.cells st).nx ps vs:=by rw[(Dn p.cells st).1];exact h2.mono (Le.Z5 g2)
  obtain⟨F2,k1,k2,k3⟩:=handed g1 h2';rw[List.flatMap_cons,Ir];refine⟨F2,k1,fun b cs hb=>k2 b cs (g2 b cs hb),fun l i hi=>?_⟩;match l,i,hi with
  |[],_,hi=>cases hi
  |[a],i,hi=>
   cases ps with
   |cons q qs=>cases hi
   |nil=>
    have hv:vs=[]:=by simpa using h2
    subst hv;have:=(QI (st:=st) (F:=F1) (by simpa [Ec]using hi) c2 c3 g3).mono k2;intro ρ' N';simp only[Af,A1,B3,wn];exact this ρ' N'
  |a::b::l,i,hi=>
   unfold Ec at hi;split at hi
   case h_2=>cases hi
   rename_i c x d y e1 e2;simp only[zk,Prod.mk.injEq,ze]at hi;obtain⟨⟨rfl,rfl⟩,rfl⟩:=hi;unfold Af;exact LU.cons ((QI e1 c2 c3 g3).mono k2) (k3 (b::l) y (by rw[Mf (Mz p.cells st)];exact e2))
theorem SR.after{ob:Ob}(hr:SR B h0 F ρ N ob h)(hs:∀b,b<h.nx->h'.get b=h.get b)(hx:h.nx<=h'.nx)(hlt:∀b o,h'.get b=some o->b<h'.nx)(hF:∀b cs,F b=some cs->F' b=some cs)
  (hN:∀b cs,F' b=some cs->F b=some cs\/h.nx<=b) (hfr:∀b cs,F' b=some cs->∃t fz,h'.get b=some (.cells cs t fz)):SR B h0 F' ρ N ob h':=by
 refine⟨fun id o ho=>?_,hr.inj,hfr,hr.own,hr.dead,fun b hb he=>?_,hlt,zg hr.le hx,fun b cs hb=>?_,hr.gl,fun b hb=>by obtain⟨g1,g2,g3⟩:=hr.pn b hb;exact⟨by rw[hs b (hr.lt b _ g1)];exact g1,g2,g3⟩⟩
 ·obtain⟨b,n,x,h1,h2,h3,h4,h5⟩:=hr.obj id o ho;have hb:=hr.lt b x h2;refine⟨b,n,x,h1,by rw[hs b hb];exact h2,h3.mono (Le.Z5 (ρ:=ρ) hF),fun e=>?_,fun e=>?_⟩
  ·cases hc:F' b with
   |none=>rfl
   |some cs=>
    rcases hN b cs hc with h6|h6
    ·rw[h4 e]at h6;cases h6
    ·omega
  ·obtain⟨cs,t,fz,k1,k2⟩:=h5 e;exact⟨cs,t,fz,k1,hF _ _ k2⟩
 ·rw[hs b (zj hb hr.le)];exact hr.old b hb he
 ·rcases hN b cs hb with h1|h1
  ·exact hr.fo b cs h1
  ·exact .inr (.inl (zg hr.le h1))
theorem SR.gh{ob:Ob}(hr:SR B h0 F ρ N ob h):Gh h:=fun x hx=>by
 obtain⟨a,b,c⟩:=hr.gl x hx;rw[hr.old _ a b];exact c
structure SO(C:Ctx)(f:FuncId)(sp:Ao):Prop where
 prim:C.prim f=none
 fn:∃i,C.fn f=some i
 run:∀(F:Fz) (h:H) (args:List V) (i:(Bz sp.ins).T),(∀b cs,F b=some cs->∃t fz,h.get b=some (.cells cs t fz))->(∀b o,h.get b=some o->b<h.nx)->Gh h->LU F (Af sp.ins i) args->sp.pre i=true->
  ∃l M,(∀m,M<=m->Bf C m (.fn f args) h=some l)/\(sp.nd=false->∃x,l=[x])/\∀x∈l,h.nx<=x.2.nx/\(∀b,b<h.nx->x.2.get b=h.get b)/\(∀b o,x.2.get b=some o->b<x.2.nx)/\
   ∃F':Fz,(∀b cs,F b=some cs->F' b=some cs)/\(∀b cs,F' b=some cs->F b=some cs\/h.nx<=b)/\(∀b cs,F' b=some cs->∃t fz,x.2.get b=some (.cells cs t fz))/\
    PC F' (one (Af sp.outs (sp.f i))) x.1
structure vC(C:Ctx)(f:FuncId)(sp:Ao):Prop where
 run:∃q,C.prim f=some q/\∀(F:Fz) (h:H) (args:List V) (i:(Bz sp.ins).T),LU F (Af sp.ins i) args->sp.pre i=true->∃v,q args h=some (v,h)/\PC F (one (Af sp.outs (sp.f i))) v
def Ag(C:Ctx)(f:FuncId)(sp:Ao):Prop:=SO C f sp\/vC C f sp
theorem Ag.zZ{C:Ctx}{f:FuncId}{sp:Ao}(h:SO C f sp):Ag C f sp:=.inl h
theorem Ag.zero{C:Ctx}{f:FuncId}{sp:Ao}(h:Ag C f sp)(hp:C.prim f=none):SO C f sp:=by
 rcases h with h|⟨q,hq,_⟩
 ·exact h
 ·rw[hp]at hq;cases hq
theorem Ag.go{C:Ctx}{f:FuncId}{sp:Ao}(ok:Ag C f sp)(F:Fz)(h:H)(args:List V)(i:(Bz sp.ins).T)(hfz:∀b cs,F b=some cs->∃t fz,h.get b=some (.cells cs t fz))(hlt:∀b o,h.get b=some o->b<h.nx)(hgh:Gh h)(ha:LU F (Af sp.ins i) args)(hp:sp.pre i=true):
  ∃l,(((C.prim f=none/\∃i,C.fn f=some i)/\∃M,∀m,M<=m->Bf C m (.fn f args) h=some l)\/∃q x,C.prim f=some q/\q args h=some x/\l=[x])/\(sp.nd=false->∃x,l=[x])/\∀x∈l,h.nx<=x.2.nx/\(∀b,b<h.nx->x.2.get b=h.get b)/\(∀b o,x.2.get b=some o->b<x.2.nx)/\
   ∃F':Fz,(∀b cs,F b=some cs->F' b=some cs)/\(∀b cs,F' b=some cs->F b=some cs\/h.nx<=b)/\(∀b cs,F' b=some cs->∃t fz,x.2.get b=some (.cells cs t fz))/\
    PC F' (one (Af sp.outs (sp.f i))) x.1:=by
 rcases ok with ok|⟨q,hq,hrun⟩
 ·obtain⟨l,M,h1,h2,h3⟩:=ok.run F h args i hfz hlt hgh ha hp;exact⟨l,.inl ⟨⟨ok.prim,ok.fn⟩,M,h1⟩,h2,h3⟩
 ·obtain⟨v,h1,h2⟩:=hrun F h args i ha hp;refine⟨[(v,h)],.inr ⟨q,(v,h),hq,h1,rfl⟩,fun _=>⟨_,rfl⟩,fun x hx=>?_⟩;cases zc.1 hx;exact⟨zd _,fun _ _=>rfl,hlt,F,fun _ _ h=>h,fun _ _ h=>.inl h,hfz,h2⟩
theorem DC.sc:∀ {s:Sh} {x:s.T} {cs:List V},s.sc=true->DC F s x cs->DC F' s x cs
 | .int _,_,_,_,h=>by simpa only[DC]using h
 | .bool,_,_,_,h=>by simpa only[DC]using h
 | .str,_,_,_,h=>by simpa only[DC]using h
 | .list s,l,_,e,h=>by cases e
 | .pair a b,x,_,e,h=>by
  simp only[DC]at h ⊢;simp only[Sh.sc,ze]at e;obtain⟨c,d,rfl,h1,h2⟩:=h;exact⟨c,d,rfl,h1.sc e.1,h2.sc e.2⟩
 | .unit,_,_,_,h=>by simpa only[DC]using h
 | .nlist s,l,_,e,h=>by cases e
 | .fnv,_,_,_,h=>by simpa only[DC]using h
theorem RG:∀ {s:Sh} {x:s.T} {cs:List V},s.sc=true->Ba F ρ N (flat s x) cs->LU F' (flat s x) cs
 | .int k,x,cs,_,h=>fun ρ' N'=>by
  simp only[flat,Ba]at h ⊢;obtain⟨v,vs,rfl,h1,rfl⟩:=h;exact⟨v,[],rfl,by simp only[PR]at h1 ⊢;exact h1.sc rfl,rfl⟩
 | .bool,x,cs,_,h=>fun ρ' N'=>by
  simp only[flat,Ba]at h ⊢;obtain⟨v,vs,rfl,h1,rfl⟩:=h;exact⟨v,[],rfl,by simp only[PR]at h1 ⊢;exact h1.sc rfl,rfl⟩
 | .str,x,cs,_,h=>fun ρ' N'=>by
  simp only[flat,Ba]at h ⊢;obtain⟨v,vs,rfl,h1,rfl⟩:=h;exact⟨v,[],rfl,by simp only[PR]at h1 ⊢;exact h1.sc rfl,rfl⟩
 | .list s,x,cs,e,h=>by cases e
 | .pair a b,(x,y),cs,e,h=>fun ρ' N'=>by
  simp only[Sh.sc,ze]at e;have key:∀(ps qs:List PV) (l:List V),Ba F ρ N (ps++qs) l->∃c d,l=c++d/\Ba F ρ N ps c/\Ba F ρ N qs d:=by
   intro ps;induction ps with
   |nil=>intro qs l hl;exact⟨[],l,rfl,by simp,hl⟩
   |cons p ps ih=>
    intro qs l hl;simp only[List.cons_append,Ba]at hl;obtain⟨v,vs,rfl,h1,h2⟩:=hl;obtain⟨c,d,rfl,h3,h4⟩:=ih qs vs h2;exact⟨v::c,d,rfl,by simp only[A1];exact⟨h1,h3⟩,h4⟩
  obtain⟨c,d,rfl,h1,h2⟩:=key _ _ _ h;exact(RG e.1 h1 ρ' N').append (RG e.2 h2 ρ' N')
 | .unit,_,cs,_,h=>fun ρ' N'=>by simpa [flat]using h
 | .nlist s,x,cs,e,h=>by cases e
 | .fnv,x,cs,_,h=>fun ρ' N'=>by
  simp only[flat,Ba]at h ⊢;obtain⟨v,vs,rfl,h1,rfl⟩:=h;refine⟨v,[],rfl,?_,rfl⟩;cases (x:Option Fn)<;>simp only[PR,B3]at h1 ⊢<;>exact h1
theorem Yv{s:Sh}{x:s.T}{v:V}(e:s.sc=true)(h:PC F (B8 s x) v):PC F' (B8 s x) v:=by
 intro ρ' N';have h:=h ρ' N';cases s with
 |pair a b=>
  unfold Pe.B8 PR at h ⊢;obtain⟨cs,rfl,h1⟩:=h;exact⟨cs,rfl,RG e h1 ρ' N'⟩
 |unit=>unfold Pe.B8 PR at h ⊢;obtain⟨cs,rfl,h1⟩:=h;exact⟨cs,rfl,by simpa using h1⟩
 |int k=>unfold Pe.B8 PR at h ⊢;exact h.sc rfl
 |bool=>unfold Pe.B8 PR at h ⊢;exact h.sc rfl
 |str=>unfold Pe.B8 PR at h ⊢;exact h.sc rfl
 |list s=>cases e
 |nlist s=>cases e
 |fnv=>
  unfold Pe.B8 at h ⊢;cases (x:Option Fn)<;>simp only[PR,B3]at h ⊢<;>exact h
theorem YB:∀ {l:List Sh} {x:(Bz l).T} {vs:List V},l.all Sh.sc=true->LU F (Af l x) vs->LU F' (Af l x) vs
 |[],_,vs,_,h=>fun ρ' N'=>by have:=h ρ' N';simpa [Af]using this
 |[a],x,vs,e,h=>fun ρ' N'=>by
  have h1:=h ρ' N';simp only[Af,Ba]at h1;obtain⟨v,vs',rfl,h2,rfl⟩:=h1;simp only[yb,List.all_nil,z7]at e;simp only[Af,A1,B3,wn];refine Yv (F:=F) e (fun ρ2 N2=>?_) ρ' N';have:=h ρ2 N2;simpa only[Af,A1,B3,wn]using this
 |a::b::l,x,vs,e,h=>by
  have h1:=h (fun _=>none) 0;simp only[Af,Ba]at h1;obtain⟨v,vs',rfl,_,_⟩:=h1;have e':a.sc=true/\(b::l).all Sh.sc=true:=by simpa [yb,Bool.and_assoc]using e
  unfold Af at h ⊢;exact LU.cons (Yv e'.1 fun ρ2 N2=>((A1 ..).1 (h ρ2 N2)).1) (YB e'.2 fun ρ2 N2=>((A1 ..).1 (h ρ2 N2)).2)
theorem OA{l:List Sh}{x:(Bz l).T}{v:V}:PC F (one (Af l x)) v↔∃vs,LU F (Af l x) vs/\v=(match vs with|[u]=>u|us=>.tup us):=by
 have tupc:∀ps:List PV,(∀u,ps≠[u])->(PC F (one ps) v↔∃vs,LU F ps vs/\v=(match vs with|[u]=>u|us=>.tup us)):=by
  intro ps hne;have h1:one ps=.tup ps:=by
   unfold one;split
   ·rename_i u;exact wh rfl (hne u)
   ·rfl
  rw[h1];constructor
  ·intro h;have h2:=h (fun _=>none) 0;unfold PR at h2;obtain⟨cs,rfl,h3⟩:=h2;refine⟨cs,fun ρ N=>?_,?_⟩
   ·have h4:=h ρ N;unfold PR at h4;obtain⟨cs',e,h5⟩:=h4;cases e;exact h5
   ·have hl:=h3.len;split
    ·rename_i u;cases ps with
     |nil=>cases hl
     |cons q qs=>cases qs with
      |nil=>exact wh rfl (hne q)
      |cons _ _=>cases hl
    ·rfl
  ·rintro⟨vs,h2,rfl⟩ ρ N;unfold PR;have hl:=(h2 ρ N).len;split
   ·rename_i u;cases ps with
    |nil=>cases hl
    |cons q qs=>cases qs with
     |nil=>exact wh rfl (hne q)
     |cons _ _=>cases hl
   ·exact⟨_,rfl,h2 ρ N⟩
 match l,x with
 |[],x=>exact tupc [] (fun u e=>by cases e)
 |[a],x=>
  simp only[Af,one];constructor
  ·intro h;exact⟨[v],fun ρ N=>by simp only[A1,B3,wn];exact h ρ N,rfl⟩
  ·rintro⟨vs,h2,rfl⟩ ρ N;have h3:=h2 ρ N;simp only[Ba]at h3;obtain⟨u,us,rfl,h4,rfl⟩:=h3;exact h4
 |a::b::l,x=>
  refine tupc _ (fun u e=>?_);unfold Af at e;cases l<;>cases e
theorem Zy{nd:Bool}{g:FuncId}{sp:Ao}(_hsp:X.sp g=some sp)(hok:Ag X.C g sp)(hnd:nd=false->sp.nd=false){Q:PV->Ob->Prop}{n:Nat}{args:List PV}{k:PV->AI->Tr}{args':List V}(he:Ev X Q n (eZ sp args st k))(hr:Rel B h0 F ρ st fr h)(ha:Ba F ρ st.nx args args'):
  ∃l,Mq X ρ h args' (.fn g) l/\(nd=false->∃x,l=[x])/\
   ∀x∈l,∃n',n'<=n/\∃r st',Ev X Q n' (k r st')/\∃F' ρ',PR F' ρ' st'.nx r x.1/\C6 B h0 F ρ st.nx h st' fr x.2 F' ρ'/\(∀sp,X.sp g=some sp->∀b,b<h.nx->x.2.get b=h.get b):=by
 unfold eZ at he;split at he
 case h_2=>exact wh he Ev.AA
 rename_i c i hi;rcases he.EB with⟨hc,he1⟩|⟨_,he1⟩
 case inr=>exact wh he1 Ev.AA
 simp only[ze]at hc;obtain⟨rfl,hpre⟩:=hc;obtain⟨F1,g1,g2,g3⟩:=handed hr.sr ha;obtain⟨l,hM,hone,hall⟩:=hok.go F1 h args' i g1.frz hr.sr.lt hr.sr.gh (g3 _ i hi) hpre;have hcd:Mq X ρ h args' (.fn g) l:=by
  rcases hM with⟨h1,M,hM⟩|⟨q,x,h1,h2,rfl⟩
  ·exact .Bf ⟨rfl,h1⟩ hM
  ·exact .prim h1 h2
 refine⟨l,hcd,fun e=>hone (hnd e),fun x hx=>?_⟩;obtain⟨k1,k2,k3,F',k4,k5,k6,k7⟩:=hall x hx;refine⟨n,zd _,_,_,he1,?_⟩;cases hsc:sp.outs.all Sh.sc with
 |true=>
  simp only[we];have hv:PC F (one (Af sp.outs (sp.f i))) x.1:=by
   obtain⟨vs,h1,h2⟩:=OA.1 k7;exact OA.2 ⟨vs,YB hsc h1,h2⟩
  refine⟨F,ρ,hv ρ _,⟨⟨hr.fp,?_⟩,zw,k1⟩,fun _ _ b hb=>k2 b hb⟩;refine hr.sr.after k2 k1 k3 (fun _ _ h=>h) (fun _ _ h=>.inl h) (fun b cs hb=>?_);obtain⟨t,fz,hg⟩:=hr.sr.frz b cs hb;exact⟨t,fz,by rw[k2 b (hr.sr.lt b _ hg)];exact hg⟩
 |false=>
  simp only[wg];obtain⟨e1,e2,e3⟩:=Dn (args.flatMap zq) st;have hle:Le F ρ st.nx F' ρ (Bn (args.flatMap zq) st).nx:=by
   rw[e1];exact Le.Z5 fun b cs hb=>k4 b cs (g2 b cs hb)
  refine⟨F',ρ,k7 ρ _,⟨⟨⟨e3.trans hr.fp.n,fun t=>?_⟩,?_⟩,hle,k1⟩,fun _ _ b hb=>k2 b hb⟩
  ·have:(Bn (args.flatMap zq) st).get t=st.get t:=by unfold AI.get;rw[e2]
   rw[this];exact(hr.fp.slot t).mono hle
  ·exact g1.after k2 k1 k3 k4 k5 k6
structure E6(C:Ctx)(f:FuncId)(w:Kv):Prop where
 prim:C.prim f=none
 fn:∃i,C.fn f=some i
 len:∀i l,w.pre i l=true->(w.g i l).length=l.length
 run:∀(F:Fz) (h:H) (args:List V) (i:(Bz w.ins).T) (l:List w.el.T) (b:Nat) (cs:List V) (fz:Nat×Nat) (o:Nat),(∀b cs,F b=some cs->∃t fz,h.get b=some (.cells cs t fz))->(∀b o,h.get b=some o->b<h.nx)->Gh h->LU F (Af w.ins i) args->w.pre i l=true->
  h.get b=some (.cells cs w.ty fz)->D6 F w.el l cs->fz.2<=fz.1->F b=none->(o=0\/o=w.el.sz)->
  ∃x M,(∀m,M<=m->Bf C m (.fn f (args++[.sl b 0 l.length l.length o])) h=some [x])/\x.1=.tup []/\h.nx<=x.2.nx/\(∀c,c<h.nx->c≠b->x.2.get c=h.get c)/\(∀c y,x.2.get c=some y->c<x.2.nx)/\
   ∃F':Fz,(∀b cs,F b=some cs->F' b=some cs)/\(∀b cs,F' b=some cs->F b=some cs\/h.nx<=b)/\(∀b cs,F' b=some cs->∃t fz,x.2.get b=some (.cells cs t fz))/\
    ∃cs' fz',x.2.get b=some (.cells cs' w.ty fz')/\D6 F' w.el (w.g i l) cs'/\fz'.2<=fz'.1
 nils:∀(F:Fz) (h:H) (args:List V) (i:(Bz w.ins).T),(∀b cs,F b=some cs->∃t fz,h.get b=some (.cells cs t fz))->(∀b o,h.get b=some o->b<h.nx)->Gh h->LU F (Af w.ins i) args->w.pre i []=true->
  ∃x M,(∀m,M<=m->Bf C m (.fn f (args++[.nils])) h=some [x])/\x.1=.tup []/\h.nx<=x.2.nx/\(∀c,c<h.nx->x.2.get c=h.get c)/\(∀c y,x.2.get c=some y->c<x.2.nx)/\
   ∃F':Fz,(∀b cs,F b=some cs->F' b=some cs)/\(∀b cs,F' b=some cs->F b=some cs\/h.nx<=b)/\(∀b cs,F' b=some cs->∃t fz,x.2.get b=some (.cells cs t fz))
theorem Ba.split:∀ {a b:List PV} {vs:List V},Ba F ρ N (a++b) vs->∃x y,vs=x++y/\Ba F ρ N a x/\Ba F ρ N b y
 |[],b,vs,h=>⟨[],vs,rfl,by simp,h⟩
 |p::a,b,vs,h=>by
  simp only[List.cons_append,Ba]at h;obtain⟨v,vs,rfl,h1,h2⟩:=h;obtain⟨x,y,rfl,h3,h4⟩:=h2.split;exact⟨v::x,y,rfl,by simp only[A1];exact⟨h1,h3⟩,h4⟩
theorem SR.wrote{ob:Ob}(hr:SR B h0 F ρ N ob h){id b n:Nat}{o o':Obj}{x':O}(ho:AL ob id=some o)(hb:ρ id=some (b,n))(hbn:b<h.nx)(hFb:F b=none)(hf':o'.frozen=false)(hg':h'.get b=some x')(hx':Xp F' ρ N n o' x')
  (hs:∀c,c<h.nx->c≠b->h'.get c=h.get c) (hx:h.nx<=h'.nx) (hlt:∀b o,h'.get b=some o->b<h'.nx) (hF:∀b cs,F b=some cs->F' b=some cs)
  (hN:∀b cs,F' b=some cs->F b=some cs\/h.nx<=b) (hfr:∀b cs,F' b=some cs->∃t fz,h'.get b=some (.cells cs t fz)):SR B h0 F' ρ N (Dx ob id o') h':=by
 have hset:∀j,AL (Dx ob id o') j=if j=id then some o' else AL ob j:=fun j=>GL _ _ _ _ (by rw[ho];rfl)
 have none':∀c,c<h.nx->F c=none->F' c=none:=fun c hc hn=>by
  cases h1:F' c with
  |none=>rfl
  |some cs=>
   rcases hN c cs h1 with h2|h2
   ·rw[hn]at h2;cases h2
   ·omega
 refine⟨fun j oj hj=>?_,fun i j oi oj c m m' hi hj h1 h2=>?_,hfr,hr.own,fun j hj=>?_,fun c hc he=>?_,hlt,zg hr.le hx,fun c cs hc=>?_,hr.gl,fun c hc=>?_⟩
 ·rw[hset]at hj;by_cases e:j=id
  ·subst e;simp only[wk,zk]at hj;subst hj;exact⟨b,n,x',hb,hg',hx',fun _=>none' b hbn hFb,fun e=>by rw[hf']at e;cases e⟩
  ·rw[wc e]at hj;obtain⟨c,m,y,h1,h2,h3,h4,h5⟩:=hr.obj j oj hj;have hne:c≠b:=fun ec=>e (hr.inj j id oj o c m n hj ho h1 (ec▸hb))
   have hc:=hr.lt c y h2;refine⟨c,m,y,h1,by rw[hs c hc hne];exact h2,h3.mono (Le.Z5 (ρ:=ρ) hF),fun e=>none' c hc (h4 e),fun e=>?_⟩;obtain⟨cs,t,fz,k1,k2⟩:=h5 e;exact⟨cs,t,fz,k1,hF _ _ k2⟩
 ·have get':∀k ok,AL (Dx ob id o') k=some ok->∃o2,AL ob k=some o2:=by
   intro k ok hk;rw[hset]at hk;by_cases e:k=id
   ·exact⟨o,e▸ho⟩
   ·rw[wc e]at hk;exact⟨ok,hk⟩
  obtain⟨_,g1⟩:=get' i oi hi;obtain⟨_,g2⟩:=get' j oj hj;exact hr.inj i j _ _ c m m' g1 g2 h1 h2
 ·rw[hset]at hj;by_cases e:j=id
  ·rw[wd e]at hj;cases hj
  ·rw[wc e]at hj;exact hr.dead j hj
 ·rw[hs c (zj hc hr.le) (NC (hr.own id b n hb).2 hc he)];exact hr.old c hc he
 ·rcases hN c cs hc with h1|h1
  ·exact hr.fo c cs h1
  ·exact .inr (.inl (zg hr.le h1))
 ·obtain⟨g1,g2,g3⟩:=hr.pn c hc;have hne:c≠b:=fun e=>g3 id n (e▸hb)
  exact⟨by rw[hs c (hr.lt c _ g1) hne];exact g1,g2,g3⟩
theorem rev_eq{α:Type}{a:List α}{x:α}{r:List α}(h:a.reverse=x::r):a=r.reverse++[x]:=by
 have:=wi List.reverse h;simpa using this
theorem VS{nd:Bool}{g:FuncId}{w:Kv}(hno:X.sp g=none)(hok:E6 X.C g w){Q:PV->Ob->Prop}{n:Nat}{args:List PV}{k:PV->AI->Tr}{args':List V}(he:Ev X Q n (VO w args st k))(hr:Rel B h0 F ρ st fr h)(ha:Ba F ρ st.nx args args'):
  ∃l,Mq X ρ h args' (.fn g) l/\(nd=false->∃x,l=[x])/\
   ∀x∈l,∃n',n'<=n/\∃r st',Ev X Q n' (k r st')/\∃F' ρ',PR F' ρ' st'.nx r x.1/\C6 B h0 F ρ st.nx h st' fr x.2 F' ρ'/\(∀sp,X.sp g=some sp->∀b,b<h.nx->x.2.get b=h.get b):=by
 unfold VO at he;split at he
 ·rename_i id sz nn r hrev;rw[rev_eq hrev]at ha;obtain⟨a1,a2,rfl,ha1,ha2⟩:=ha.split;simp only[Ba]at ha2;obtain⟨v,_,rfl,hv,rfl⟩:=ha2;obtain⟨F1,g1,g2,g3⟩:=handed hr.sr ha1;split at he
  case h_2=>exact wh he Ev.AA
  rename_i c i t s l hi ho;cases hty:zh t w.ty with
  |false=>rw[hty]at he;exact wh he Ev.AA
  |true=>
  rw[hty]at he;simp only[we]at he;have hty:=zi hty;split at he
  case h_2=>exact wh he Ev.AA
  rename_i l' hl';obtain⟨e,rfl⟩:=CF hl';cases e;rcases he.EB with⟨hc,he1⟩|⟨_,he1⟩
  case inr=>exact wh he1 Ev.AA
  simp only[ze,w5]at hc;obtain⟨⟨⟨rfl,hpre⟩,hn⟩,hsz⟩:=hc;have hsz:=zi hsz;subst hn hsz hty;obtain⟨e1,e2,e3⟩:=Dn (r.reverse.flatMap zq) st;obtain⟨b,m,x,h1,h2,⟨cs,fz,rfl,k1,k2,k3⟩,h4,_⟩:=g1.obj id _ ho;simp only[PR]at hv;obtain⟨o,ho',rfl⟩:∃o,(o=0\/o=w.el.sz)/\v=.sl b (0*w.el.sz) (List.length l) (List.length l) o:=by
   rcases hv.2 b m h1 with⟨_,_,g⟩|⟨_,e,_⟩
   ·exact g
   ·cases e
  rw[Nat.zero_mul];obtain⟨x,M,hM,q1,q2,q3,q4,F',f1,f2,f3,cs',fz',f4,f5,f6⟩:=hok.run F1 h a1 i l b cs fz o g1.frz hr.sr.lt hr.sr.gh (g3 _ i hi) hpre h2 k1 k2 (h4 rfl) ho';refine⟨[x],.Bf ⟨rfl,hok.prim,hok.fn⟩ hM,fun _=>⟨x,rfl⟩,fun y hy=>?_⟩;cases zc.1 hy;refine⟨n,zd _,_,_,he1,F',ρ,?_,⟨⟨⟨e3.trans hr.fp.n,fun t=>?_⟩,?_⟩,?_,q2⟩,fun sp hsp=>by rw[hno]at hsp;cases hsp⟩
  ·rw[q1];simp[PR]
  ·have:((Bn (r.reverse.flatMap zq) st).setObj id (.arr false w.ty w.el (w.g i l))).get t=st.get t:=by
    show((Bn (r.reverse.flatMap zq) st).fr.get t).getD .any=_;rw[e2];rfl
   rw[this];refine(hr.fp.slot t).mono ?_;show Le F ρ st.nx F' ρ (Bn (r.reverse.flatMap zq) st).nx;rw[e1];exact Le.Z5 fun b cs hb=>f1 b cs (g2 b cs hb)
  ·exact g1.wrote ho h1 (hr.sr.lt _ _ h2) (h4 rfl) rfl f4 ⟨cs',fz',rfl,f5,f6,by rw[<-k3];exact hok.len i l hpre⟩ q3 q2 q4 f1 f2 f3
  ·show Le F ρ st.nx F' ρ (Bn (r.reverse.flatMap zq) st).nx;rw[e1];exact Le.Z5 fun b cs hb=>f1 b cs (g2 b cs hb)
 ·rename_i r hrev;rw[rev_eq hrev]at ha;obtain⟨a1,a2,rfl,ha1,ha2⟩:=ha.split;simp only[Ba]at ha2;obtain⟨v,_,rfl,hv,rfl⟩:=ha2;simp only[PR]at hv;subst hv;obtain⟨F1,g1,g2,g3⟩:=handed hr.sr ha1;split at he
  case h_2=>exact wh he Ev.AA
  rename_i c i hi;rcases he.EB with⟨hc,he1⟩|⟨_,he1⟩
  case inr=>exact wh he1 Ev.AA
  simp only[ze]at hc;obtain⟨rfl,hpre⟩:=hc;obtain⟨e1,e2,e3⟩:=Dn (r.reverse.flatMap zq) st;obtain⟨x,M,hM,q1,q2,q3,q4,F',f1,f2,f3⟩:=hok.nils F1 h a1 i g1.frz hr.sr.lt hr.sr.gh (g3 _ i hi) hpre;have hle:Le F ρ st.nx F' ρ (Bn (r.reverse.flatMap zq) st).nx:=by
   rw[e1];exact Le.Z5 fun b cs hb=>f1 b cs (g2 b cs hb)
  refine⟨[x],.Bf ⟨rfl,hok.prim,hok.fn⟩ hM,fun _=>⟨x,rfl⟩,fun y hy=>?_⟩;cases zc.1 hy;refine⟨n,zd _,_,_,he1,F',ρ,?_,⟨⟨⟨e3.trans hr.fp.n,fun t=>?_⟩,?_⟩,hle,q2⟩,fun sp hsp=>by rw[hno]at hsp;cases hsp⟩
  ·rw[q1];simp[PR]
  ·have:(Bn (r.reverse.flatMap zq) st).get t=st.get t:=by unfold AI.get;rw[e2]
   rw[this];exact(hr.fp.slot t).mono hle
  ·exact g1.after q3 q2 q4 f1 f2 f3
 ·exact wh he Ev.AA
theorem Kb(hmg:X.C.mg=false)(hall:∀g sp,X.sp g=some sp->Ag X.C g sp)(hws:∀g w,X.ws g=some w->E6 X.C g w):∀(d:Nat) (nd:Bool) (h0:H0),E2 B h0 X nd (Cp X nd d)
 |0,nd,h0=>by intro he;exact wh he Ev.AA
 |d+1,nd,h0=>by
  rename_i Q n cg args st k;intro he F ρ fr h args' hr ha;unfold Cp at he;cases cg with
  |rnd id=>exact wh he Ev.AA
  |fn g=>
  simp only at he;have conv:(∃l,Mq X ρ h args' (.fn g) l/\(nd=false->∃x,l=[x])/\
   ∀x∈l,∃n',n'<=n/\∃r st',Ev X Q n' (k r st')/\∃F' ρ',PR F' ρ' st'.nx r x.1/\C6 B h0 F ρ st.nx h st' fr x.2 F' ρ'/\(∀sp,X.sp g=some sp->∀b,b<h.nx->x.2.get b=h.get b))->
   ∃l,Mq X ρ h args' (.fn g) l/\(nd=false->∃x,l=[x])/\
   ∀x∈l,∃n',n'<=n/\∃r st',Ev X Q n' (k r st')/\∃F' ρ',PR F' ρ' st'.nx r x.1/\C6 B h0 F ρ st.nx h st' fr x.2 F' ρ'/\(∀gg,vW.fn g=.fn gg->∀sp,X.sp gg=some sp->∀b,b<h.nx->x.2.get b=h.get b):=by
   rintro⟨l,h1,h3,h4⟩;refine⟨l,h1,h3,fun x hx=>?_⟩;obtain⟨n',k1,r,st',k2,F',ρ',k3,k4,k5⟩:=h4 x hx;exact⟨n',k1,r,st',k2,F',ρ',k3,k4,fun gg e=>by cases e;exact k5⟩
  obtain⟨o,hs⟩:∃o,X.sp g=o:=⟨_,rfl⟩;cases o with
  |some sp=>
   rw[hs]at he;simp only at he;cases hb:(nd|| !sp.nd)with
   |false=>rw[hb]at he;exact wh he Ev.AA
   |true=>
    rw[hb]at he;exact conv (Zy (nd:=nd) hs (hall g sp hs) (fun e=>by rw[e]at hb;simpa using hb) he hr ha)
  |none=>
   rw[hs]at he;simp only at he;obtain⟨ow,hw⟩:∃o,X.ws g=o:=⟨_,rfl⟩;cases ow with
   |some w=>rw[hw]at he;exact conv (VS hs (hws g w hw) he hr ha)
   |none=>
   rw[hw]at he;simp only at he;cases hesc:X.esc.any (zh g)with
   |true=>
    rw[hesc]at he;simp only[we]at he;unfold xQ at he;split at he
    case h_2=>exact wh he Ev.AA
    rename_i id off;cases hs2:HU (st.obj id)with
    |false=>rw[hs2]at he;exact wh he Ev.AA
    |true=>
     rw[hs2]at he;simp only[we]at he;obtain⟨g',hg',hb⟩:=yd.1 hesc;have e:=zi hb;subst e;have hp:=X.escOk g hg';obtain⟨o,ho⟩:=Wv hs2;obtain⟨b,n',z,q1,_⟩:=hr.sr.at ho;simp only[Ba]at ha;obtain⟨x,_,rfl,hx,rfl⟩:=ha;have hx':=hx;simp only[PR]at hx';obtain rfl:=hx'.2 b n' q1;exact conv ⟨[(.ptr b off,h)],.prim hp rfl,fun _=>⟨_,rfl⟩,fun y hy=>by
      cases zc.1 hy;exact⟨n,zd _,_,st,he,F,ρ,hx,C6.refl hr,fun _ _ _ _=>rfl⟩⟩
   |false=>
   rw[hesc]at he;simp only[wg]at he;split at he
   case h_2=>exact wh he Ev.AA
   rename_i hp hsp;obtain⟨g1,l,M,g2,g3,g4⟩:=I6 (Kb hmg hall hws d nd) (Kb hmg hall hws d false) hmg hsp hp hs he hr ha;exact conv ⟨l,.Bf ⟨rfl,g1⟩ g2,g3,g4⟩
theorem Ot{st:AI}:∀ {l:List Sh} {ps:List PV} {r:Bool×(Bz l).T},Ec st l ps=some r->l.length=ps.length
 |[],[],_,_=>rfl
 |[],_::_,_,h=>by cases h
 |[a],[p],_,_=>rfl
 |[a],[],_,h=>by cases h
 |[a],_::_::_,_,h=>by cases h
 |a::b::l,[],_,h=>by cases h
 |a::b::l,p::ps,_,h=>by
  unfold Ec at h;split at h
  case h_2=>cases h
  rename_i e1 e2;have:=Ot e2;simp at this ⊢;exact this
def IZ(outs:List Sh)(v:PV):List PV:=match outs with
 |[_]=>[v]
 |_=>match v with
  | .tup vs=>vs
  |_=>[v]
def Qu(outs:List Sh)(v:PV)(ob:Ob):Option (Bool×(Bz outs).T):=Ec ⟨0,.leaf,ob,0⟩ outs (IZ outs v)
def Ends(X:A0)(t:Tr)(Q:PV->Ob->Prop):Prop:=∃n,Ev X Q n t
def Ad(sp:Ao)(i:(Bz sp.ins).T)(v:PV)(ob:Ob):Prop:=∃y,Qu sp.outs v ob=some (true,y)/\y=sp.f i
theorem Z1(hmg:X.C.mg=false)(hall:∀g sp,X.sp g=some sp->Ag X.C g sp)(hws:∀g w,X.ws g=some w->E6 X.C g w){f:FuncId}{sp:Ao}{d:Nat}(hsp:X.C.spec f=none)(hprim:X.C.prim f=none)(hno:X.sp f=none)
  (hev:∀i,sp.pre i=true->Ends X (tree X sp.nd d f (Af sp.ins i)) (Ad sp i)) (hfn:∃i,X.C.fn f=some i):Ag X.C f sp:=by
 refine .zZ ⟨hprim,hfn,fun F h args i hfrz hlt hgh hargs hpre=>?_⟩;obtain⟨n,he⟩:=hev i hpre;unfold tree at he;have hr:Rel h.nx ⟨h,F,[],fun _=>False⟩ F (fun _=>none) (AD 0 [] [] 0) ⟨0,.leaf⟩ h:=by
  refine⟨⟨rfl,fun t=>?_⟩,⟨fun id o ho=>(by cases ho),fun id id' o o' b n n' ho=>(by cases ho),hfrz,fun id b n hb=>(by cases hb),fun _ _=>rfl,fun _ _ _=>rfl,hlt,zd _,fun b cs hb=>.inl hb,fun x hx=>⟨hlt _ _ (hgh x hx),fun e=>e,hgh x hx⟩,fun b hb=>(by cases hb)⟩⟩;show PR _ _ _ (((E7 []).get t).getD .any) _;have:(E7 []).get t=none:=PM.Da t;rw[this];simp[PR]
 obtain⟨_,l,M,hM,hone,hall⟩:=I6 (Kb hmg hall hws d sp.nd) (Kb hmg hall hws d false) hmg hsp hprim hno he hr (hargs _ _);refine⟨l,M,hM,hone,fun x hx=>?_⟩;obtain⟨n',hn,r,st',he',F',ρ',hp,hw,_⟩:=hall x hx;have hq:=he'.Xr;obtain⟨y,hy,rfl⟩:=hq;have hold:∀b,b<h.nx->x.2.get b=h.get b:=fun b hb=>hw.rel.sr.old b hb (fun e=>e)
 refine⟨hw.nx,hold,hw.rel.sr.lt,?_⟩;have hvs:∃vs,Ba F' ρ' st'.nx (IZ sp.outs r) vs/\((∃a,sp.outs=[a])->vs=[x.1])/\((∀a,sp.outs≠[a])->(∃qs,r=.tup qs)->x.1=.tup vs):=by
  unfold IZ;split
  ·rename_i a ha;exact⟨[x.1],by simp only[A1,B3,wn];exact hp,fun _=>rfl,fun hne=>wh ha (hne _)⟩
  ·rename_i hne;split
   ·rename_i qs;simp only[PR]at hp;obtain⟨cs,e,h1⟩:=hp;exact⟨cs,h1,fun⟨a,ha⟩=>wh ha (hne a),fun _ _=>e⟩
   ·rename_i hnt;exact⟨[x.1],by simp only[A1,B3,wn];exact hp,fun _=>rfl,fun _ ⟨qs,hqs⟩=>wh hqs (hnt qs)⟩
 obtain⟨vs,hvs1,hvs2,hvs3⟩:=hvs;obtain⟨F1,g1,g2,g3⟩:=handed (st:=st') hw.rel.sr hvs1;have hob:∀id,D0 (AI.obj ⟨0,.leaf,st'.ob,0⟩ id) (st'.obj id):=fun id=>D0.refl _
 have hres:=g3 sp.outs _ (by rw[Mf hob];exact hy);refine⟨F1,fun b cs hb=>g2 b cs (hw.le.fz b cs hb),fun b cs hb=>(g1.fo b cs hb).imp_right (fun h=>h.resolve_right (fun e=>e)),g1.frz,OA.2 ⟨vs,hres,?_⟩⟩;have hlen:sp.outs.length=(IZ sp.outs r).length:=Ot hy;have hl2:=hvs1.len;by_cases ho:∃a,sp.outs=[a]
 ·rw[hvs2 ho]
 ·have hne:∀a,sp.outs≠[a]:=fun a ha=>ho ⟨a,ha⟩
  have hn1:sp.outs.length≠1:=fun e=>by
   obtain⟨a,ha⟩:=List.length_eq_one_iff.1 e;exact hne a ha
  have ht:∃qs,r=.tup qs:=by
   cases r with
   |tup qs=>exact⟨qs,rfl⟩
   |_=>
    exfalso;apply hn1;rw[hlen];unfold IZ;split<;>rfl
  rw[hvs3 hne ht];split
  ·rename_i u;exact wh (hlen.trans hl2) hn1
  ·rfl
end
section
variable {X:A0}{Q Q':PV->Ob->Prop}
theorem Ends.leaf{v:PV}{ob:Ob}(h:Q v ob):Ends X (.leaf v ob) Q:=⟨0,.leaf h⟩
theorem Ends.ite{c:Bool}{a b:Tr}(h1:c=true->Ends X a Q)(h2:c=false->Ends X b Q):Ends X (.ite c a b) Q:=by
 cases c with
 |true=>obtain⟨n,h⟩:=h1 rfl;exact⟨n,.ite (fun _=>h) (fun e=>by cases e)⟩
 |false=>obtain⟨n,h⟩:=h2 rfl;exact⟨n,.ite (fun e=>by cases e) (fun _=>h)⟩
theorem Ends.tt{c:Bool}{a b:Tr}(hc:c=true)(h:Ends X a Q):Ends X (.ite c a b) Q:=Ends.ite (fun _=>h) (fun e=>by rw[hc]at e;cases e)
theorem Ends.ff{c:Bool}{a b:Tr}(hc:c=false)(h:Ends X b Q):Ends X (.ite c a b) Q:=Ends.ite (fun e=>by rw[hc]at e;cases e) (fun _=>h)
def stepT(X:A0):Tr->Tr
 | .loop nd ro d f base b st k=>body X nd ro d f base b st k
 | .cut nd ro d f base b st k=>AM X nd ro d f base b st k
 |t=>t
theorem Ends.step{t:Tr}(h:Ends X (stepT X t) Q):Ends X t Q:=by
 cases t with
 |loop=>obtain⟨n,h⟩:=h;exact⟨n+1,.loop h⟩
 |cut=>obtain⟨n,h⟩:=h;exact⟨n,.cut h⟩
 |_=>exact h
theorem Ends.eq{t t':Tr}(e:t=t')(h:Ends X t' Q):Ends X t Q:=e▸h
theorem Ends.An{t t':Tr}(e:stepT X t=t')(h:Ends X t' Q):Ends X t Q:=Ends.step (e▸h)
def Tr.L:Tr->Tr
 | .ite _ a _=>a
 | .both a _=>a
 |t=>t
def Tr.R:Tr->Tr
 | .ite _ _ b=>b
 | .both _ b=>b
 |t=>t
def re:Tr->AI->Tr
 | .loop nd ro d f base b _ k,st=>.loop nd ro d f base b st k
 | .cut nd ro d f base b _ k,st=>.cut nd ro d f base b st k
 |t,_=>t
def Wn:List (FuncId×Ao)->FuncId->Option Ao
 |[],_=>none
 |(g,s)::l,f=>bif zh g f then some s else Wn l f
def nM:List (FuncId×Kv)->FuncId->Option Kv
 |[],_=>none
 |(g,s)::l,f=>bif zh g f then some s else nM l f
theorem Xo{C:Ctx}:∀ {l:List (FuncId×Kv)},(∀x∈l,E6 C x.1 x.2)->∀g sp,nM l g=some sp->E6 C g sp
 |[],_,g,sp,h=>by cases h
 |(g',s)::l,hl,g,sp,h=>by
  unfold nM at h;cases hb:zh g' g with
  |true=>
   rw[hb]at h;cases h;have:=zi hb;subst this;exact hl _ zr
  |false=>rw[hb]at h;exact Xo (fun x hx=>hl x (zo _ hx)) g sp h
def yR:List (FuncId×List Nat)->FuncId->Nat->Bool
 |[],_,_=>false
 |(g,t)::l,f,r=>bif zh g f then t.any (zh r)else yR l f r
def zR:List (FuncId×List (Nat×List (Nat×Sh)))->FuncId->Nat->List (Nat×Sh)
 |[],_,_=>[]
 |(g,t)::l,f,r=>bif zh g f then fz1 t r else zR l f r
 where fz1:List (Nat×List (Nat×Sh))->Nat->List (Nat×Sh)
 |[],_=>[]
 |(i,s)::l,r=>bif zh i r then s else fz1 l r
def uJ:List (FuncId×List (Nat×List Nat))->FuncId->Nat->List Nat
 |[],_,_=>[]
 |(g,t)::l,f,r=>bif zh g f then pl1 t r else uJ l f r
 where pl1:List (Nat×List Nat)->Nat->List Nat
 |[],_=>[]
 |(i,s)::l,r=>bif zh i r then s else pl1 l r
end
end Go.Pe
