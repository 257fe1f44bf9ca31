import Derived.Test.YtlapcggejnojjaaGreatDoorX08
import Derived.Test.YtlapcggejnojjaaGreatDoorX07
import Derived.Test.YtlapcggejnojjaaGreatDoorX04
import Derived.IntWalk
import Derived.Test.YtlapcggejnojjaaGreatDoorX01
/- A part of a proof (no law is stated here). Made by program out of texts by AI agents. -/
open Go.IntKind renaming wrap → zc, u64 → zd
open Bool renaming and_eq_true → ze, not_eq_true' → zx, and_eq_false_iff → zC, and_true → zM
open List renaming mem_singleton → zf, getD_eq_getElem?_getD → zk, getElem?_eq_getElem → zm, nodup_nil → zq, drop_eq_getElem_cons → zy, all_cons → zz, mem_append → zD, headD_cons → zK, mem_cons → zL
open Go.Pe.Sh renaming int → zg, list → zi
open Nat renaming le_refl → zh, le_trans → zo, beq → zt, eq_of_beq_eq_true → zu, lt_of_lt_of_le → zA, add → zG, ble → zN
open Int renaming eq_ofNat_of_zero_le → zj, toNat_natCast → zH, fdiv → zI
open Go.Sp renaming letter → zl, mark → zn, isName → zB
open Go.Pe.Ev renaming Aw → zp
open Go.Pe.PV renaming cells → zr
open Option.some renaming injEq → zw
open List.cons renaming injEq → zE
open Go.Pe.Obj renaming siter → zF
open Go.Pe.Le renaming refl → zJ
section
namespace Go.Pe
open Go.Det
section
variable {B:Nat}{h0:H0}{X:A2}{F:Fz}{ρ:C8}{N:Nat}{h:H}
theorem M8(h0:H0)(a b:List Nat):(h0.pins a).pins b=h0.pins (b++a):=by unfold H0.pins;simp
theorem SR.U1{ob:Ob}{ps:List Nat}(hr:SR B (h0.pins ps) F ρ N ob h):SR B h0 F ρ N ob h:=
 ⟨hr.obj,hr.inj,hr.frz,hr.own,hr.dead,hr.old,hr.lt,hr.le,hr.fo,hr.gl,fun b hb=>hr.pn b (List.mem_append_right _ hb)⟩
theorem SR.mark{ob:Ob}(hr:SR B h0 F ρ N ob h):SR B (h0.pins [h.nx]) F ρ N ob (h.push (.defd true)):=by
 have hnew:∀b y,h.get b=some y→b≠h.nx:=fun b y hb=>by have:=hr.lt b y hb;omega
 have hget:∀b y,h.get b=some y→(h.push (.defd true)).get b=some y:=fun b y hb=>by rw[H.Bd,if_neg (hnew b y hb)];exact hb
 refine⟨fun j oj hj=>?_,hr.inj,fun c cs hc=>?_,hr.own,hr.dead,fun c hc he=>?_,fun c oc hc=>?_,?_,hr.fo,hr.gl,fun c hc=>?_⟩
 ·obtain⟨c,m,y,h1,h2,h3⟩:=hr.obj j oj hj;exact⟨c,m,y,h1,hget c y h2,h3⟩
 ·obtain⟨t,fz,hg⟩:=hr.frz c cs hc;exact⟨t,fz,hget _ _ hg⟩
 ·have:=hr.le;rw[H.Bd,if_neg (by omega)];exact hr.old c hc he
 ·rw[H.Bd]at hc;by_cases e:c=h.nx
  ·subst e;exact Nat.lt_succ_self _
  ·rw[if_neg e]at hc;have:=hr.lt c oc hc;show c<h.nx+1;omega
 ·have:=hr.le;show B≤h.nx+1;omega
 ·rcases zD.1 hc with hc|hc
  ·cases zf.1 hc;refine⟨by rw[H.Bd,if_pos rfl],hr.le,fun id n e=>?_⟩;by_cases hob:∃o,AF ob id=some o
   ·obtain⟨o,ho⟩:=hob;obtain⟨c,m,y,g1,g2,_⟩:=hr.obj id o ho;rw[e]at g1;cases g1;exact hnew _ _ g2 rfl
   ·have:AF ob id=none:=by
     cases hh:AF ob id with
     |none=>rfl
     |some o=>exact absurd ⟨o,hh⟩ hob
    rw[hr.dead id this]at e;cases e
  ·obtain⟨g1,g2,g3⟩:=hr.pn c hc;exact⟨hget _ _ g1,g2,g3⟩
theorem SR.X0{ob:Ob}(hr:SR B h0 F ρ N ob h){b:Nat}{x y:O}(h1:∀id o n,AF ob id=some o→ρ id≠some (b,n))(h2:F b=none)(h3:h0.TC B b)(h4:b∉h0.pin)(hg:h.get b=some x):SR B h0 F ρ N ob (h.put b y):=by
 refine⟨fun j oj hj=>?_,hr.inj,fun c cs hc=>?_,hr.own,hr.dead,fun c hc he=>?_,fun c oc hc=>?_,hr.le,hr.fo,hr.gl,fun c hc=>?_⟩
 ·obtain⟨c,m,y,g1,g2,g3⟩:=hr.obj j oj hj;have:c≠b:=fun e=>h1 j oj m hj (e▸g1)
  exact⟨c,m,y,g1,by rw[H.A0,if_neg this];exact g2,g3⟩
 ·have:c≠b:=fun e=>by rw[e,h2]at hc;cases hc
  rw[H.A0,if_neg this];exact hr.frz c cs hc
 ·have:c≠b:=KN h3 hc he;rw[H.A0,if_neg this];exact hr.old c hc he
 ·rw[H.A0]at hc;split at hc
  ·rename_i e;subst e;exact hr.lt _ _ hg
  ·exact hr.lt c oc hc
 ·obtain⟨g1,g2,g3⟩:=hr.pn c hc;have hne:c≠b:=fun e=>h4 (e▸hc)
  exact⟨by rw[H.A0,if_neg hne];exact g1,g2,g3⟩
theorem SR.leave{ob:Ob}:∀ {ps:List Nat} {h:H},ps.Nodup→(∀b∈ps,b∉h0.pin)→SR B (h0.pins ps) F ρ N ob h→∃h1,Ei ps h=some h1∧SR B h0 F ρ N ob h1∧h1.nx=h.nx∧∀b,b∉ps→h1.get b=h.get b
 |[],h,_,_,hr=>⟨h,rfl,hr,rfl,fun _ _=>rfl⟩
 |p::ps,h,hn,hd,hr=>by
  obtain⟨g1,g2,g3⟩:=hr.pn p (by simp[H0.pins]);rw[List.nodup_cons]at hn;have hr1:SR B ((h0.pins ps).pins [p]) F ρ N ob h:=by rw[M8];exact hr
  have hp:SR B (h0.pins ps) F ρ N ob (h.put p (.defd false)):=by
   refine SR.X0 hr1.U1 (fun id o n _=>g3 id n) ?_ (.inl g2) ?_ g1
   ·cases hF:F p with
    |none=>rfl
    |some cs=>obtain⟨t,fz,k⟩:=hr.frz p cs hF;rw[g1]at k;cases k
   ·intro h;rcases zD.1 h with h|h
    ·exact hn.1 h
    ·exact hd p (by simp) h
  obtain⟨h1,k1,k2,k3,k4⟩:=SR.leave hn.2 (fun b hb=>hd b (by simp[hb])) hp;refine⟨h1,?_,k2,k3,fun b hb=>?_⟩
  ·show(match h.get p with|some (.defd true)=>Ei ps (h.put p (.defd false))|_=>none)=_;rw[g1];exact k1
  ·simp only[zL,not_or]at hb;rw[k4 b hb.2,H.A0,if_neg hb.1]
theorem V8{st:AD}{fr:Fr}(hr:Rel B h0 F ρ st fr h)(base:Nat)(x:Nat×Sh):∃F1 ρ1,Rel B h0 F1 ρ1 (X8 base x st) fr h∧(X8 base x st).nx=st.nx∧(∀id,id<base→ρ1 id=ρ id)∧∀b cs,F b=some cs→F1 b=some cs:=by
 have hs:=hr.fp.slot x.1;unfold X8;split
 case h_1=>
  rename_i hg;rw[hg]at hs;simp only[PR]at hs;exact⟨F,ρ,hr.note (by rw[hs];simp[PR,DC]),rfl,fun _ _=>rfl,fun _ _ h=>h⟩
 case h_4=>exact⟨F,ρ,hr,rfl,fun _ _=>rfl,fun _ _ h=>h⟩
 case h_3=>
  rename_i id hg;cases hb:zN base id with
  |false=>exact⟨F,ρ,hr,rfl,fun _ _=>rfl,fun _ _ h=>h⟩
  |true=>
  simp only[cond_true];have hb:=Nat.le_of_ble_eq_true hb;split
  case h_2=>exact⟨F,ρ,hr,rfl,fun _ _=>rfl,fun _ _ h=>h⟩
  rename_i ps ho;split
  case h_2=>exact⟨F,ρ,hr,rfl,fun _ _=>rfl,fun _ _ h=>h⟩
  rename_i v hv;rw[hg]at hs;obtain⟨b,n,y,h1,h2,h3,h7,-⟩:=hr.sr.at ho;obtain⟨cs,t,fz,rfl,h4,h5⟩:=h3;have hFb:F b=none:=h7 rfl;have hmono:∀c cs',F c=some cs'→(fun c=>if c=b then some cs else F c) c=some cs':=by
   intro c cs' hc;have:c≠b:=fun e=>by rw[e,hFb]at hc;cases hc
   simp[this,hc]
  have hdc:=(B1 h4 hv);have hlen:=hdc.len;have hle:Le F ρ st.nx (fun c=>if c=b then some cs else F c) (Bl ρ id none) st.nx:=(Le.Uq hmono).trans (Le.Ox id);have hle2:Le F (Bl ρ id none) st.nx (fun c=>if c=b then some cs else F c) (Bl ρ id none) st.nx:=Le.Uq hmono;have hd:=hr.sr.del id;have notb:∀j m,Bl ρ id none j=some (b,m)→∀oj,AF (Fc st.ob id) j=some oj→False:=by
   intro j m g1 oj hj;rw[Dq]at hj;split at hj
   ·cases hj
   ·rename_i ej;simp only[Bl,ej,if_false]at g1;exact ej (hr.sr.inj j id oj _ b m n hj ho g1 h1)
  have hsr:SR B h0 (fun c=>if c=b then some cs else F c) (Bl ρ id none) st.nx (Fc st.ob id) h:=by
   refine⟨fun j oj hj=>?_,hd.inj,fun c cs' hc=>?_,hd.own,hd.dead,hd.old,hd.lt,hd.le,fun c cs' hc=>?_,hd.gl,hd.pn⟩
   ·obtain⟨c,m,z,g1,g2,g3,g4,g5⟩:=hd.obj j oj hj;have hne:c≠b:=fun ec=>notb j m (ec▸g1) oj hj
    exact⟨c,m,z,g1,g2,g3.mono hle2,fun e=>by simp[hne,g4 e],fun e=>by obtain⟨a1,a2,a3,a4,a5⟩:=g5 e;exact⟨a1,a2,a3,a4,by simp[hne,a5]⟩⟩
   ·split at hc
    ·rename_i ec;cases hc;subst ec;exact⟨_,_,h2⟩
    ·exact hd.frz c cs' hc
   ·split at hc
    ·rename_i ec;subst ec;exact .inr (hr.sr.own id c n h1).2
    ·exact hd.fo c cs' hc
  have hr1:Rel B h0 (fun c=>if c=b then some cs else F c) (Bl ρ id none) (st.NX id) fr h:=⟨⟨hr.fp.n,fun t=>(hr.fp.slot t).mono hle⟩,hsr⟩;refine⟨_,_,hr1.note ?_,rfl,fun j hj=>by unfold Bl;rw[if_neg (by omega)],hmono⟩;simp only[PR]at hs ⊢;have hv2:=hs.2 b n h1;exact⟨b,0,cs,by rw[hv2],by simp,by omega,by rw[List.drop_zero,List.take_of_length_le (by omega)];exact hdc.mono hmono⟩
 rename_i id sz off len cap hg;split
 case h_2=>exact⟨F,ρ,hr,rfl,fun _ _=>rfl,fun _ _ h=>h⟩
 rename_i fz e s l ho;cases hz:zt sz s.sz with
 |false=>exact⟨F,ρ,hr,rfl,fun _ _=>rfl,fun _ _ h=>h⟩
 |true=>
 simp only[cond_true];rw[hg]at hs;obtain⟨F1,g1,g2,g3⟩:=JP hr.sr hs;have hfr:A9 st (.sl id sz off len cap)=st.setObj id (.arr true e s l):=by simp[A9,ho]
 rw[hfr]at g1;have hle:Le F ρ st.nx F1 ρ st.nx:=⟨g2,fun _ _=>.inl rfl,zh _⟩;have hoff:off+len≤l.length:=by
  obtain⟨b,n,y,h1,_,⟨_,_,_,_,_,h6⟩,-⟩:=hr.sr.at ho;simp only[PR]at hs;rcases hs.2 b n h1 with⟨a1,a2,_⟩|⟨a1,_,a3,_⟩
  ·omega
  ·omega
 have hbv:Cm st (.sl id sz off len cap)=some (true,.dat (.list s) ((l.drop off).take len)):=by
  simp only[Cm,ho,hz,cond_true,decide_eq_true hoff]
 have hpc:=g3 _ hbv;have hr1:Rel B h0 F1 ρ (st.setObj id (.arr true e s l)) fr h:=⟨⟨hr.fp.n,fun t=>(hr.fp.slot t).mono hle⟩,g1⟩;exact⟨F1,ρ,hr1.note (hpc ρ _),rfl,fun _ _=>rfl,g2⟩
theorem Qn{fr:Fr}(base:Nat):∀(l:List (Nat×Sh)) {st:AD} {F:Fz} {ρ:C8},Rel B h0 F ρ st fr h→∃F1 ρ1,Rel B h0 F1 ρ1 (YH base l st) fr h∧(YH base l st).nx=st.nx∧(∀id,id<base→ρ1 id=ρ id)∧∀b cs,F b=some cs→F1 b=some cs
 |[],st,F,ρ,hr=>⟨F,ρ,hr,rfl,fun _ _=>rfl,fun _ _ h=>h⟩
 |x::l,st,F,ρ,hr=>by
  obtain⟨F1,ρ1,h1,h2,h0',h3⟩:=V8 hr base x;obtain⟨F2,ρ2,h4,h5,h0'',h6⟩:=Qn base l h1;exact⟨F2,ρ2,h4,h5.trans h2,fun id hid=>(h0'' id hid).trans (h0' id hid),fun b cs hb=>h6 b cs (h3 b cs hb)⟩
theorem Ln{st:AD}{fr:Fr}{base:Nat}(hr:Rel B h0 F ρ st fr h)(f:FuncId)(r:Nat)(hb:base≤st.nx):
  ∃F1 ρ',Rel B h0 F1 ρ' (KZ X f r base st) fr h∧base≤(KZ X f r base st).nx∧(∀id,id<base→ρ' id=ρ id)∧∀b cs,F b=some cs→F1 b=some cs:=by
 obtain⟨F1,ρ1,h1,h2,h0',h3⟩:=Qn base (X.fz f r) hr;obtain⟨ρ',g1,g2,g3⟩:=UA h1 base (X.pl f r) (by rw[h2];exact hb);exact⟨F1,ρ',g1,g2,fun id hid=>(g3 id hid).trans (h0' id hid),h3⟩
def EL(B:Nat)(h0:H0)(X:A2)(base n:Nat)(Q:PV→Ob→Prop)(k:DX→AD→Tr)(F:Fz)(ρ:C8)(h:H)(nd:Bool)(run:Nat→Nat→Option (List Det.X))(ds:List Nat):Prop:=
 ∃l M,(∀m,M≤m→∀q,M≤q→run m q=some l)∧(nd=false→∃x,l=[x])∧∀x∈l,∃ps,(x.ds=ps++ds∧ps.Nodup∧∀b∈ps,h.nx≤b)∧∃n',n'≤n∧∃st1,Ev X Q n' (k x.e st1)∧∃F' ρ',Rel B (h0.pins ps) F' ρ' st1 x.fr x.h∧base≤st1.nx∧Le F ρ base F' ρ' base∧h.nx≤x.h.nx
theorem Le.low{F F':Fz}{ρ ρ':C8}{N N' base:Nat}(hl:Le F ρ N F' ρ' N')(hb:base≤N):Le F ρ base F' ρ' base:=
 ⟨hl.fz,fun id h=>hl.rho id (zA h hb),zh _⟩
theorem LD{nd ro:Bool}{d:Nat}{f:FuncId}{base:Nat}{rv:Option Nat}{ct:Bool}(hrv:ro=false→rv=none∧ct=true)(hcall:∀h0,DO B h0 X nd (BG X nd d))(hcallD:∀h0,DO B h0 X false (BG X false d)){Q:PV→Ob→Prop}:∀(n:Nat) (c:Code) {h0:H0} {st:AD} {k:DX→AD→Tr} {F:Fz} {ρ:C8} {fr:Fr} {h:H} (ds:List Nat),base≤st.nx→Rel B h0 F ρ st fr h→
  Ev X Q n (exec X (BG X nd d) (BG X false d) nd ro d f base c st k)→EL B h0 X base n Q k F ρ h nd (fun m q=>Bc X.C (AY X.C m) rv ct q c fr h ds) ds:=by
 intro n;induction n using Nat.strongRecOn with
 |_ n IH=>
 have one:∀ {h0:H0} {e:DX} {st:AD} {k:DX→AD→Tr} {F:Fz} {ρ:C8} {fr:Fr} {h:H} {ds:List Nat} {c:Code},base≤st.nx→Rel B h0 F ρ st fr h→Ev X Q n (k e st)→(∀m q,1≤q→Bc X.C (AY X.C m) rv ct q c fr h ds=some [⟨e,fr,h,ds⟩])→
   EL B h0 X base n Q k F ρ h nd (fun m q=>Bc X.C (AY X.C m) rv ct q c fr h ds) ds:=by
  intro h0 e st k F ρ fr h ds c hb hr he hd;exact⟨[⟨e,fr,h,ds⟩],1,fun m _ q hq=>hd m q hq,fun _=>⟨_,rfl⟩,fun x hx=>by
   cases zf.1 hx;exact⟨[],⟨rfl,zq,fun _ hb=>(by cases hb)⟩,n,zh _,st,he,F,ρ,hr,hb,zJ,zh _⟩⟩
 have fuel:∀ {q:Nat},1≤q→∃q',q=q'+1:=fun h=>⟨_,(Nat.succ_pred_eq_of_pos h).symm⟩
 have chain:∀ {h0:H0} {F:Fz} {ρ:C8} {h:H} {ds:List Nat} {k k2:DX→AD→Tr} {n1:Nat} {run:Nat→Nat→Option (List Det.X)} {run2:Nat→Nat→Det.X→Option (List Det.X)},n1≤n→EL B h0 X base n1 Q k2 F ρ h nd run ds→
   (∀(x:Det.X) (ps:List Nat),∀n1',n1'≤n1→∀st1,Ev X Q n1' (k2 x.e st1)→∀F' ρ',Rel B (h0.pins ps) F' ρ' st1 x.fr x.h→base≤st1.nx→EL B (h0.pins ps) X base n Q k F' ρ' x.h nd (fun m q=>run2 m q x) x.ds)→
   EL B h0 X base n Q k F ρ h nd (fun m q=>match run m q with|some l=>bl l (run2 m q)|none=>none) ds:=by
  rintro h0 F ρ h ds k k2 n1 run run2 hn1 ⟨l,M,h1,h2,h3⟩ hnext;obtain⟨r,M2,g1,g2,g3⟩:=Jb (f:=run2) (P:=fun x=>∃ps,(x.ds=ps++ds∧ps.Nodup∧∀b∈ps,h.nx≤b)∧∃n',n'≤n∧∃st1,Ev X Q n' (k x.e st1)∧∃F' ρ',Rel B (h0.pins ps) F' ρ' st1 x.fr x.h∧base≤st1.nx∧Le F ρ base F' ρ' base∧h.nx≤x.h.nx) h2 fun x hx=>by
   obtain⟨ps1,⟨k0,kn,kl⟩,n',k1,st1,k2',F',ρ',k3,k4,k5,k6⟩:=h3 x hx;obtain⟨r,M,j1,j2,j3⟩:=hnext x ps1 n' k1 st1 k2' F' ρ' k3 k4;refine⟨r,M,j1,j2,fun y hy=>?_⟩;obtain⟨ps2,⟨i0,i0n,i0l⟩,n2,i1,st2,i2,F2,ρ2,i3,i4,i5,i6⟩:=j3 y hy;refine⟨ps2++ps1,⟨by rw[i0,k0,List.append_assoc],?_,fun b hb=>?_⟩,n2,i1,st2,i2,F2,ρ2,by rw[←M8];exact i3,i4,k5.trans i5,zo k6 i6⟩
   ·rw[List.nodup_append];refine⟨i0n,kn,fun a ha b hb e=>?_⟩;have h1:=i0l a ha;have h2:=k3.sr.lt b _ (k3.sr.pn b (List.mem_append_left _ hb)).1;omega
   ·rcases zD.1 hb with hb|hb
    ·exact zo k6 (i0l b hb)
    ·exact kl b hb
  exact⟨r,max M M2,fun m hm q hq=>by simp only;rw[h1 m (by omega) q (by omega)];exact g1 m (by omega) q (by omega),g2,g3⟩
 have stepq:∀ {h0:H0} {F:Fz} {ρ:C8} {h:H} {ds:List Nat} {k:DX→AD→Tr} {run run':Nat→Nat→Option (List Det.X)},EL B h0 X base n Q k F ρ h nd run ds→(∀m q,run' m (q+1)=run m q)→EL B h0 X base n Q k F ρ h nd run' ds:=by
  rintro h0 F ρ h ds k run run' ⟨l,M,h1,h2,h3⟩ he;refine⟨l,M+1,fun m hm q hq=>?_,h2,h3⟩;obtain⟨q',rfl⟩:=fuel (show 1≤q by omega);rw[he];exact h1 m (by omega) q' (by omega)
 intro c;induction c with
 |skip=>
  intro h0 st k F ρ fr h ds hb hr he;exact one hb hr he (fun m q hq=>by obtain⟨q',rfl⟩:=fuel hq;rfl)
 |label l=>
  intro h0 st k F ρ fr h ds hb hr he;exact one hb hr he (fun m q hq=>by obtain⟨q',rfl⟩:=fuel hq;rfl)
 |exit i=>
  intro h0 st k F ρ fr h ds hb hr he;exact one hb hr he (fun m q hq=>by obtain⟨q',rfl⟩:=fuel hq;rfl)
 |ret=>
  intro h0 st k F ρ fr h ds hb hr he;exact one hb hr he (fun m q hq=>by obtain⟨q',rfl⟩:=fuel hq;rfl)
 |region id ops dr=>
  intro h0 st k F ρ fr h ds hb hr he;unfold exec at he;cases dr with
  |true=>
   simp only[cond_true]at he;cases hst:(!ro||FZ ops (Dl ops))with
   |false=>rw[hst]at he;exact absurd he zp
   |true=>
   rw[hst]at he;simp only[cond_true]at he;have hdd:∀call,(bif ct then GG X.C call ops fr h else Pr X.C call ops fr h)=GG X.C call ops fr h:=by
    intro call;cases hro:ro with
    |false=>rw[(hrv hro).2];rfl
    |true=>
     rw[hro]at hst;have hst:FZ ops (Dl ops)=true:=hst;cases ct with
     |true=>rfl
     |false=>simp only[cond_false,Pr,hst,cond_true]
   obtain⟨n',hn,st1,he1,F',ρ',fr',h',hw,M,hM⟩:=TO (hcallD h0) hr he;refine⟨[⟨.normal,fr',h',ds⟩],M+1,fun m hm q hq=>?_,fun _=>⟨_,rfl⟩,fun x hx=>?_⟩
   ·obtain⟨q',rfl⟩:=fuel (show 1≤q by omega);have:=hM m (by omega);simp only[Bc,cond_true];rw[hdd,this]
   ·cases zf.1 hx;exact⟨[],⟨rfl,zq,fun _ hb=>(by cases hb)⟩,n',hn,st1,he1,F',ρ',hw.rel,zo hb hw.le.n,hw.le.low hb,hw.nx⟩
  |false=>
   simp only[cond_false]at he;obtain⟨r,M,hM,hone,hall⟩:=PW (hcall h0) hr he;refine⟨r.map fun x=>⟨.normal,x.1,x.2,ds⟩,M+1,fun m hm q hq=>?_,fun e=>?_,fun x hx=>?_⟩
   ·obtain⟨q',rfl⟩:=fuel (show 1≤q by omega);simp only[Bc,cond_false,hM m (by omega)]
   ·obtain⟨y,rfl⟩:=hone e;exact⟨_,rfl⟩
   ·obtain⟨y,hy,rfl⟩:=List.mem_map.1 hx;obtain⟨n',hn,st1,he1,F',ρ',hw⟩:=hall y hy;exact⟨[],⟨rfl,zq,fun _ hb=>(by cases hb)⟩,n',hn,st1,he1,F',ρ',hw.rel,zo hb hw.le.n,hw.le.low hb,hw.nx⟩
 |seq a b iha ihb=>
  intro h0 st k F ρ fr h ds hb hr he;unfold exec at he;refine stepq (chain (run2:=fun m q x=>match x.e with| .normal=>Bc X.C (AY X.C m) rv ct q b x.fr x.h x.ds|_=>some [x]) (zh n) (iha ds hb hr he) fun x ps1 n1 hn1 st1 he1 F' ρ' hr1 hb1=>?_) (fun m q=>rfl);obtain⟨e,fr1,h1,ds1⟩:=x;cases e with
  |normal=>
   have rest:∀ {st2:AD} {F2:Fz} {ρ2:C8} {n2:Nat},n2≤n→Rel B (h0.pins ps1) F2 ρ2 st2 fr1 h1→base≤st2.nx→(∀id,id<base→ρ2 id=ρ' id)→(∀b cs,F' b=some cs→F2 b=some cs)→Ev X Q n2 (exec X (BG X nd d) (BG X false d) nd ro d f base b st2 k)→
     EL B (h0.pins ps1) X base n Q k F' ρ' h1 nd (fun m q=>Bc X.C (AY X.C m) rv ct q b fr1 h1 ds1) ds1:=by
    intro st2 F2 ρ2 n2 hn2 hr2 hb2 hρ2 hF2 he2;have hl0:Le F' ρ' base F2 ρ2 base:=⟨hF2,fun id hi=>.inl (hρ2 id hi),zh _⟩;have hc:EL B (h0.pins ps1) X base n Q k F2 ρ2 h1 nd (fun m q=>Bc X.C (AY X.C m) rv ct q b fr1 h1 ds1) ds1:=by
     by_cases hlt:n2<n
     ·obtain⟨l,M,h1,h2,h3⟩:=IH n2 hlt b ds1 hb2 hr2 he2;exact⟨l,M,h1,h2,fun x hx=>by obtain⟨ps,k0,n2,k1,k2⟩:=h3 x hx;exact⟨ps,k0,n2,by omega,k2⟩⟩
     ·have:n2=n:=by omega
      subst this;exact ihb ds1 hb2 hr2 he2
    obtain⟨l,M,h1,h2,h3⟩:=hc;exact⟨l,M,h1,h2,fun x hx=>by
     obtain⟨ps,k0,n3,k1,st3,k2,F3,ρ3,k3,k4,k5,k6⟩:=h3 x hx;exact⟨ps,k0,n3,k1,st3,k2,F3,ρ3,k3,k4,hl0.trans k5,k6⟩⟩
   simp only at he1;cases hct:X.ct f (Ck b)with
   |false=>rw[hct]at he1;exact rest hn1 hr1 hb1 (fun _ _=>rfl) (fun _ _ h=>h) he1
   |true=>
    rw[hct]at he1;simp only[cond_true]at he1;cases he1 with
    |cut he1=>
     obtain⟨F2,ρ0,hr0,hb0,hρ0,hF⟩:=Ln hr1 f (Ck b) hb1;exact rest hn1 hr0 hb0 hρ0 hF he1
  |exit i=>exact⟨[⟨.exit i,fr1,h1,ds1⟩],0,fun _ _ _ _=>rfl,fun _=>⟨_,rfl⟩,fun x hx=>by cases zf.1 hx;exact⟨[],⟨rfl,zq,fun _ hb=>(by cases hb)⟩,n1,hn1,st1,he1,F',ρ',hr1,hb1,zJ,zh _⟩⟩
  |ret=>exact⟨[⟨.ret,fr1,h1,ds1⟩],0,fun _ _ _ _=>rfl,fun _=>⟨_,rfl⟩,fun x hx=>by cases zf.1 hx;exact⟨[],⟨rfl,zq,fun _ hb=>(by cases hb)⟩,n1,hn1,st1,he1,F',ρ',hr1,hb1,zJ,zh _⟩⟩
 |cond x a b iha ihb=>
  intro h0 st k F ρ fr h ds hb hr he;unfold exec at he;have go:∀ {t:Bool} {st1:AD},ev X.C fr x=some (.bool t)→Rel B h0 F ρ st1 fr h→base≤st1.nx→Ev X Q n (bif t then exec X (BG X nd d) (BG X false d) nd ro d f base a st1 k else exec X (BG X nd d) (BG X false d) nd ro d f base b st1 k)→EL B h0 X base n Q k F ρ h nd (fun m q=>Bc X.C (AY X.C m) rv ct q (.cond x a b) fr h ds) ds:=by
   intro t st1 hx hr1 hb1 he;cases t with
   |true=>exact stepq (iha ds hb1 hr1 he) (fun m q=>by simp only[Bc,hx])
   |false=>exact stepq (ihb ds hb1 hr1 he) (fun m q=>by simp only[Bc,hx])
  split at he
  case h_4=>exact absurd he zp
  case h_3=>
   rename_i ht;obtain⟨y,g1,g2⟩:=BM (C:=X.C) hr.fp ht;simp only[PR]at g2;obtain⟨t,rfl⟩:=g2;split at he
   case h_2=>exact absurd he zp
   rename_i s;have hs:fr.get s=.bool t:=by simpa [ev]using g1
   obtain⟨he1,he2⟩:=he.PI;cases t with
   |true=>exact go g1 (hr.note (by rw[hs];exact Iv _)) hb he1
   |false=>exact go g1 (hr.note (by rw[hs];exact Iv _)) hb he2
  case h_1=>
   rename_i t ht;obtain⟨y,g1,g2⟩:=BM (C:=X.C) hr.fp ht;obtain rfl:=LG g2;exact go g1 hr hb he
  case h_2=>
   rename_i t ht;obtain⟨y,g1,g2⟩:=BM (C:=X.C) hr.fp ht;obtain rfl:=Fs g2;split at he
   case h_1=>
    rename_i s;have hs:fr.get s=.bool t:=by simpa [ev]using g1
    rcases he.Dt with⟨ht1,he2⟩|⟨ht1,he2⟩
    ·have ht1:t=true:=ht1;subst ht1;exact go g1 (hr.note (by rw[hs];exact Iv _)) hb he2
    ·have ht1:t=false:=ht1;subst ht1;exact go g1 (hr.note (by rw[hs];exact Iv _)) hb he2
   case h_2=>
    rcases he.Dt with⟨ht1,he2⟩|⟨ht1,he2⟩
    ·have ht1:t=true:=ht1;subst ht1;exact go g1 hr hb he2
    ·have ht1:t=false:=ht1;subst ht1;exact go g1 hr hb he2
 |block id b ih=>
  intro h0 st k F ρ fr h ds hb hr he;unfold exec at he;obtain⟨l,M,h1,h2,h3⟩:=ih ds hb hr he;refine⟨l.map fun x=>match x.e with
    | .exit i=>bif zt i id then { x with e:=.normal }else x
    |_=>x,M+1,fun m hm q hq=>?_,fun e=>?_,fun y hy=>?_⟩
  ·obtain⟨q',rfl⟩:=fuel (show 1≤q by omega);have g1:=h1 m (by omega) q' (by omega);simp only at g1;simp only[Bc,g1];rfl
  ·obtain⟨y,rfl⟩:=h2 e;exact⟨_,rfl⟩
  ·obtain⟨⟨e,fr1,hh1,ds1⟩,hx,rfl⟩:=List.mem_map.1 hy;obtain⟨ps,k0,n1,k1,st1,he1,F',ρ',k3,k4,k5,k6⟩:=h3 _ hx;cases e with
   |normal=>exact⟨ps,k0,n1,k1,st1,he1,F',ρ',k3,k4,k5,k6⟩
   |ret=>exact⟨ps,k0,n1,k1,st1,he1,F',ρ',k3,k4,k5,k6⟩
   |exit i=>
    simp only at he1 ⊢;cases hbe:zt i id with
    |true=>rw[hbe]at he1;exact⟨ps,k0,n1,k1,st1,he1,F',ρ',k3,k4,k5,k6⟩
    |false=>rw[hbe]at he1;exact⟨ps,k0,n1,k1,st1,he1,F',ρ',k3,k4,k5,k6⟩
 |loop b ih=>
  intro h0 st k F ρ fr h ds hb hr he;unfold exec at he;cases he with
  |@loop n0 _ _ _ _ _ _ _ _ he=>
  obtain⟨F0,ρ0,hr0,hb0,hρ0,hF0⟩:=Ln hr f (Ck b) hb;have hl0:Le F ρ base F0 ρ0 base:=⟨hF0,fun id hi=>.inl (hρ0 id hi),zh _⟩;unfold body at he;have hbody:=IH n0 (Nat.lt_succ_self _) b ds hb0 hr0 he;have hch:EL B h0 X base (n0+1) Q k F0 ρ0 h nd (fun m q=>match Bc X.C (AY X.C m) rv ct q b fr h ds with|some l=>bl l (fun x=>match x.e with| .normal=>Bc X.C (AY X.C m) rv ct q (.loop b) x.fr x.h x.ds|_=>some [x])|none=>none) ds:=by
   refine chain (run2:=fun m q x=>match x.e with| .normal=>Bc X.C (AY X.C m) rv ct q (.loop b) x.fr x.h x.ds|_=>some [x]) (Nat.le_succ n0) hbody fun x ps1 n1 hn1 st1 he1 F' ρ' hr1 hb1=>?_
   obtain⟨e,fr1,h1,ds1⟩:=x;cases e with
   |normal=>
    have he1':Ev X Q n1 (exec X (BG X nd d) (BG X false d) nd ro d f base (.loop b) st1 k):=by unfold exec;exact he1
    obtain⟨l,M,h1,h2,h3⟩:=IH n1 (by omega) (.loop b) ds1 hb1 hr1 he1';exact⟨l,M,h1,h2,fun x hx=>by obtain⟨ps,k0,n2,k1,k2⟩:=h3 x hx;exact⟨ps,k0,n2,by omega,k2⟩⟩
   |exit i=>exact⟨[⟨.exit i,fr1,h1,ds1⟩],0,fun _ _ _ _=>rfl,fun _=>⟨_,rfl⟩,fun x hx=>by cases zf.1 hx;exact⟨[],⟨rfl,zq,fun _ hb=>(by cases hb)⟩,n1,by omega,st1,he1,F',ρ',hr1,hb1,zJ,zh _⟩⟩
   |ret=>exact⟨[⟨.ret,fr1,h1,ds1⟩],0,fun _ _ _ _=>rfl,fun _=>⟨_,rfl⟩,fun x hx=>by cases zf.1 hx;exact⟨[],⟨rfl,zq,fun _ hb=>(by cases hb)⟩,n1,by omega,st1,he1,F',ρ',hr1,hb1,zJ,zh _⟩⟩
  obtain⟨l,M,g1,g2,g3⟩:=stepq (run':=fun m q=>Bc X.C (AY X.C m) rv ct q (.loop b) fr h ds) hch (fun m q=>rfl);refine⟨l,M,g1,g2,fun x hx=>?_⟩;obtain⟨ps,k0,n2,k1,st2,k2,F2,ρ2,k3,k4,k5,k6⟩:=g3 x hx;exact⟨ps,k0,n2,k1,st2,k2,F2,ρ2,k3,k4,hl0.trans k5,k6⟩
 |scope b ih=>
  intro h0 st k F ρ fr h ds hb hr he;unfold exec at he;exact stepq (ih ds hb hr he) (fun m q=>rfl)
 |rangeFunc g ps a b _ _=>
  intro h0 st k F ρ fr h ds hb hr he;unfold exec at he;exact absurd he zp
 |goto l=>intro h0 st k F ρ fr h ds hb hr he;exact absurd he zp
 |refuse s=>intro h0 st k F ρ fr h ds hb hr he;exact absurd he zp
end
section
variable {B:Nat}{h0:H0}{X:A2}{F:Fz}{ρ:C8}{N:Nat}{st st':AD}{fr:Fr}{h:H}
theorem IT:∀ {ps:List PV} {i t:Nat} {p:PV},(t,p)∈C4 ps i→∃k,t=i+k∧ps[k]?=some p
 |[],i,t,p,h=>by cases h
 |q::ps,i,t,p,h=>by
  unfold C4 at h;rcases zL.1 h with h|h
  ·cases h;exact⟨0,rfl,rfl⟩
  ·obtain⟨k,h1,h2⟩:=IT h;exact⟨k+1,by rw[h1];show i+1+k=_;omega,by simpa using h2⟩
theorem YW{ps:List PV}{vs:List V}(hp:AW F ρ N ps vs)(n:Nat)(ob:Ob)(nx:Nat)(_hnx:nx=N):FP F ρ N (AB (zG ps.length (Nat.sub n ps.length)) (C4 ps 0) ob nx) (JQ n vs):=by
 refine⟨by show ps.length+(n-ps.length)=vs.length+(n-vs.length);rw[hp.len],fun t=>?_⟩;show PR F ρ N (((DW (C4 ps 0)).get t).getD .any) _;cases hg:(DW (C4 ps 0)).get t with
 |none=>show PR F ρ N .any _;simp[PR]
 |some p=>
  show PR F ρ N p _;rcases Gw _ .leaf t p hg with h1|h1
  ·obtain⟨k,h2,h3⟩:=IT h1;obtain rfl:t=k:=by omega
   obtain⟨v,h4,h5⟩:=hp.get h3;have hlt:=(List.getElem?_eq_some_iff.1 h4).1;unfold JQ Fr.get;simp only;rw[Jv,if_pos (by omega),Nat.sub_zero,h4];exact h5
  ·simp at h1
theorem UP{T:BA}{st s:AD}{t:TypeId}{a p:PV}(h:(Kb T st t a).To p s):s=st:=by
 unfold Kb at h;split at h
 case h_2=>exact absurd h (by simp)
 split at h
 case h_4=>exact absurd h (by simp)
 ·split at h
  case h_3=>exact absurd h (by simp)
  ·simp only[K3]at h;exact h.2.symm
  ·rename_i s' l _;cases hc:(zt _ 0&&zt s'.sz 1)with
   |false=>rw[hc]at h;exact absurd h (by simp)
   |true=>rw[hc]at h;simp only[cond_true,Me]at h;exact h.2.2.symm
 ·split at h
  case h_2=>exact absurd h (by simp)
  rename_i sz j off _ _ _ s' l _;cases hc:(zt sz s'.sz)with
  |false=>rw[hc]at h;exact absurd h (by simp)
  |true=>rw[hc]at h;simp only[cond_true,Me]at h;exact h.2.2.symm
 ·simp only[K3]at h;exact h.2.symm
theorem MG{Q:PV→Ob→Prop}{n:Nat}{t:Tr}:∀ {cs:List Bool},Ev X Q n (MK cs t)→(∀c∈cs,c=true)∧Ev X Q n t
 |[],h=>⟨fun c hc=>(by cases hc),h⟩
 |c::cs,h=>by
  unfold MK at h;rcases h.Dt with⟨hc,h1⟩|⟨_,h1⟩
  ·obtain⟨h2,h3⟩:=MG h1;exact⟨fun d hd=>by
    rcases zL.1 hd with rfl|hd
    ·exact hc
    ·exact h2 d hd,h3⟩
  ·exact absurd h1 zp
theorem Pu:∀ {rs:List ResultVar} {ps:List PV} {F:Fz} {ρ:C8},Rel B h0 F ρ st fr h→Va X.C.T st rs=some ps→(∀c∈Ig X.C.T st rs,c=true)→
  ∃vs F' ρ',K8 X.C fr h rs=some vs∧AW F' ρ' st.nx ps vs∧Rel B h0 F' ρ' st fr h∧Le F ρ st.nx F' ρ' st.nx
 |[],ps,F,ρ,hr,hp,_=>by cases hp;exact⟨[],F,ρ,rfl,by simp,hr,zJ⟩
 |r::rs,ps,F,ρ,hr,hp,hall=>by
  unfold Va at hp;split at hp
  case h_2=>cases hp
  rename_i p ps' h1 h2;cases hp;have key:∃v F1 ρ1,Sd X.C fr h r=some v∧PR F1 ρ1 st.nx p v∧Rel B h0 F1 ρ1 st fr h∧Le F ρ st.nx F1 ρ1 st.nx:=by
   cases r with
   |tmp t=>
    simp only[US,zw]at h1;subst h1;exact⟨_,F,ρ,rfl,hr.fp.slot t,hr,zJ⟩
   |cell a t=>
    have ht:∃s,(Kb X.C.T st t (st.get a)).To p s:=by
     simp only[US]at h1;split at h1
     case h_3=>cases h1
     ·rename_i u s hl;cases h1;exact⟨s,by rw[hl];exact .val⟩
     ·rename_i c u s hl;cases h1;refine⟨s,?_⟩;have:=hall c (by unfold Ig;rw[hl];exact List.mem_cons_self);rw[hl,this];show(PO.G9 true p s).To p s;rw[Bk];exact⟨rfl,rfl,rfl⟩
    obtain⟨s,ht⟩:=ht;have hs:s=st:=UP ht;subst hs;obtain⟨v',h',F',ρ',g1,g2,g3,g4,g5,g6,g7,g8⟩:=WD (C:=X.C) hr.sr (hr.fp.slot a) ht;cases hd:DE X.C.T h t (fr.get a)with
    |none=>rw[hd]at g1;rcases g1 with g1|⟨g1,_⟩<;>cases g1
    |some w=>
     rw[hd]at g1;rcases g1 with g1|⟨g1,_⟩
     ·simp only[A6,zw,OR.val.injEq]at g1;obtain⟨rfl,rfl⟩:=g1;exact⟨w,F',ρ',hd,g2,⟨hr.fp.mono g4,g3⟩,g4⟩
     ·cases g1
  obtain⟨v,F1,ρ1,k1,k2,k3,k4⟩:=key;obtain⟨vs,F2,ρ2,k5,k6,k7,k8⟩:=Pu k3 h2 (fun c hc=>hall c (by
   cases r with
   |tmp t=>unfold Ig;exact hc
   |cell a t=>
    unfold Ig;split
    ·exact List.mem_cons_of_mem _ hc
    ·exact hc))
  exact⟨v::vs,F2,ρ2,by simp[K8,k1,k5],by simp only[AL];exact⟨k2.mono k8,k6⟩,k7,k4.trans k8⟩
theorem G5{nd:Bool}{d:Nat}(hcall:∀h0,DO B h0 X nd (BG X nd d))(hcallD:∀h0,DO B h0 X false (BG X false d))(hmg:X.C.mg=false){g:FuncId}(hsp:X.C.spec g=none)(hprim:X.C.prim g=none)(hno:X.sp g=none){Q:PV→Ob→Prop}{n:Nat}{args:List PV}{k:PV→AD→Tr}{args':List V}
  (he:Ev X Q n (enter X (BG X nd d) (BG X false d) nd d g args st k)) (hr:Rel B h0 F ρ st fr h) (ha:AW F ρ st.nx args args'):
  (X.C.prim g=none∧∃i,X.C.fn g=some i)∧∃l M,(∀m,M≤m→AY X.C m (.fn g args') h=some l)∧(nd=false→∃x,l=[x])∧
   ∀x∈l,∃n',n'≤n∧∃r st',Ev X Q n' (k r st')∧∃F' ρ',PR F' ρ' st'.nx r x.1∧Cu B h0 F ρ st.nx h st' fr x.2 F' ρ'∧(∀sp,X.sp g=some sp→∀b,b<h.nx→x.2.get b=h.get b):=by
 unfold enter at he;split at he
 case h_1=>exact absurd he zp
 rename_i i hi;cases hc:i.cert with
 |false=>rw[hc]at he;exact absurd he zp
 |true=>
  rw[hc]at he;simp only[cond_true]at he;have hr0:Rel B h0 F ρ (AB (zG args.length (Nat.sub i.ntmps args.length)) (C4 args 0) st.ob st.nx) (JQ i.ntmps args') h:=⟨YW ha i.ntmps st.ob st.nx rfl,hr.sr⟩;obtain⟨l,M,hM,hone,hall⟩:=LD (ro:=false) (rv:=none) (ct:=true) (fun _=>⟨rfl,rfl⟩) hcall hcallD n i.body (st:=AB (zG args.length (Nat.sub i.ntmps args.length)) (C4 args 0) st.ob st.nx) [] (zh st.nx) hr0 he;have fin:∀x∈l,∃(r:List (V×H)) (M:Nat),(∀m:Nat,M≤m→∀q:Nat,M≤q→(match x.e with
      | .exit _=>none
      |_=>match Ei x.ds x.h with
       |some h1=>match Lu X.C x.fr h1 i.results.toList with
        |some v=>some [(v,h1)]
        |none=>none
       |none=>none)=some r)∧(nd=false→∃x,r=[x])∧∀x∈r,∃n',n'≤n∧∃r st',Ev X Q n' (k r st')∧∃F' ρ',PR F' ρ' st'.nx r x.1∧Cu B h0 F ρ st.nx h st' fr x.2 F' ρ'∧(∀sp,X.sp g=some sp→∀b,b<h.nx→x.2.get b=h.get b):=by
   intro x hx;obtain⟨ps,⟨hds,hnodup,hge⟩,n1,hn1,st1,he1,F1,ρ1,hr1',hb1,hl1,hx1'⟩:=hall x hx;obtain⟨e,fr1,hx0,ds1⟩:=x;simp only at hds he1 hr1' hx1' ⊢;obtain⟨h1,hlv,hsr1,hnx1,_⟩:=SR.leave hnodup (fun b hb hp=>by
    have k1:=hge b hb;have k2:=hr.sr.lt b _ (hr.sr.pn b hp).1;omega) hr1'.sr
   have hr1:Rel B h0 F1 ρ1 st1 fr1 h1:=⟨hr1'.fp,hsr1⟩;have hx1:h.nx≤h1.nx:=by rw[hnx1];exact hx1'
   rw[List.append_nil]at hds;subst hds;have go:(∀j,e≠ .exit j)→Ev X Q n1 (match Va X.C.T st1 i.results.toList with|some vs=>MK (Ig X.C.T st1 i.results.toList) (k (Go.Pe.one vs) ⟨st.n,st.fr,st1.ob,st1.nx⟩)|none=>.fail)→
     ∃v',Lu X.C fr1 h1 i.results.toList=some v'∧∃n',n'≤n∧∃r st',Ev X Q n' (k r st')∧∃F' ρ',PR F' ρ' st'.nx r v'∧Cu B h0 F ρ st.nx h st' fr h1 F' ρ'∧(∀sp,X.sp g=some sp→∀b,b<h.nx→h1.get b=h.get b):=by
    intro hne he2;split at he2
    case h_2=>exact absurd he2 zp
    rename_i ps hps;obtain⟨hcond,he2⟩:=MG he2;obtain⟨vs,F2,ρ2,k1,k2,k3,k4⟩:=Pu hr1 hps hcond;have hle:Le F ρ st.nx F2 ρ2 st1.nx:=⟨fun b cs hb=>k4.fz _ _ (hl1.fz _ _ hb),fun id hid=>by
     rcases k4.rho id (zA hid hb1)with e|e
     ·rw[e];exact hl1.rho id hid
     ·exact .inr e,hb1⟩
    have hres:∃r',Lu X.C fr1 h1 i.results.toList=some r'∧PR F2 ρ2 st1.nx (Go.Pe.one ps) r':=by
     unfold Lu;rw[k1];cases ps with
     |nil=>simp at k2;subst k2;exact⟨_,rfl,by simp[Go.Pe.one,PR]⟩
     |cons p ps=>
      simp only[AW]at k2;obtain⟨v1,vs1,rfl,g1,g2⟩:=k2;cases ps with
      |nil=>simp at g2;subst g2;exact⟨_,rfl,g1⟩
      |cons q qs=>
       have g2':=g2;simp only[AW]at g2;obtain⟨v2,vs2,rfl,_,_⟩:=g2;refine⟨_,rfl,?_⟩;show PR F2 ρ2 st1.nx (.tup (p::q::qs)) _;unfold PR;exact⟨_,rfl,by simp only[AL];exact⟨g1,by simpa only[AL]using g2'⟩⟩
    obtain⟨r',q1,q2⟩:=hres;exact⟨r',q1,n1,hn1,_,_,he2,F2,ρ2,q2,⟨⟨⟨hr.fp.n,fun t=>(hr.fp.slot t).mono hle⟩,k3.sr⟩,hle,hx1⟩,fun sp h=>(by rw[hno]at h;cases h)⟩
   cases e with
   |normal=>
    obtain⟨v',q1,q2⟩:=go (fun j=>by simp) he1;exact⟨[(v',h1)],0,fun m _ q _=>(by simp only[hlv,q1]),fun _=>⟨_,rfl⟩,fun y hy=>by cases zf.1 hy;exact q2⟩
   |ret=>
    obtain⟨v',q1,q2⟩:=go (fun j=>by simp) he1;exact⟨[(v',h1)],0,fun m _ q _=>(by simp only[hlv,q1]),fun _=>⟨_,rfl⟩,fun y hy=>by cases zf.1 hy;exact q2⟩
   |exit j=>exact absurd he1 zp
  obtain⟨r,M2,g1,g2,g3⟩:=Jb (f:=fun _ _ (x:Det.X)=>match x.e with
      | .exit _=>none
      |_=>match Ei x.ds x.h with
       |some h1=>match Lu X.C x.fr h1 i.results.toList with
        |some v=>some [(v,h1)]
        |none=>none
       |none=>none) (P:=fun x=>∃n',n'≤n∧∃r st',Ev X Q n' (k r st')∧∃F' ρ',PR F' ρ' st'.nx r x.1∧Cu B h0 F ρ st.nx h st' fr x.2 F' ρ'∧(∀sp,X.sp g=some sp→∀b,b<h.nx→x.2.get b=h.get b)) hone fin
  refine⟨⟨hprim,i,hi⟩,r,max M M2+1,fun m hm=>?_,g2,g3⟩;obtain⟨m',rfl⟩:∃m',m=m'+1:=⟨m-1,by omega⟩;have hd:=hM m' (by omega) m' (by omega);have hg:=g1 m' (by omega) m' (by omega);simp only at hd;have:AY X.C (m'+1) (.fn g args') h=(match Bc X.C (AY X.C m') none i.cert m' i.body (JQ i.ntmps args') h []with
    |none=>none
    |some l=>match (bl l fun x=>match x.e with
     | .exit _=>none
     |_=>match Ei x.ds x.h with
      |some h1=>match Lu X.C x.fr h1 i.results.toList with
       |some v=>some [(v,h1)]
       |none=>none
      |none=>none)with
     |some r=>some (bif X.C.mg then Mp h.nx r else r)
     |none=>none):=by
   rw[AY];simp only[hsp,hi];rfl
  rw[this,hc,hd];simp only;have hg':(bl l fun x=>match x.e with
     | .exit _=>none
     |_=>match Ei x.ds x.h with
      |some h1=>match Lu X.C x.fr h1 i.results.toList with
       |some v=>some [(v,h1)]
       |none=>none
      |none=>none)=some r:=hg
  rw[hg',hmg];rfl
theorem M6{nd:Bool}{d:Nat}(hcall:∀h0,DO B h0 X nd (BG X nd d))(hcallD:∀h0,DO B h0 X false (BG X false d)){id:Nat}{Q:PV→Ob→Prop}{n:Nat}{args:List PV}{k:PV→AD→Tr}{args':List V}
  (he:Ev X Q n (U9 X (BG X nd d) (BG X false d) nd d id args st k)) (hr:Rel B h0 F ρ st fr h) (ha:AW F ρ st.nx args args'):
  ∃c,cE X ρ h args' (.rnd id) c∧∃l M,(∀m,M≤m→AY X.C m c h=some l)∧(nd=false→∃x,l=[x])∧
   ∀x∈l,∃n',n'≤n∧∃r st',Ev X Q n' (k r st')∧∃F' ρ',PR F' ρ' st'.nx r x.1∧Cu B h0 F ρ st.nx h st' fr x.2 F' ρ':=by
 unfold U9 at he;split at he
 case h_2=>exact absurd he zp
 rename_i f r ps asg b n0 sl hob;obtain⟨bb,m0,y,k1,k2,⟨ls,rfl,rfl,rfl,rfl,⟨l1,l2⟩,rfl,l4⟩,-⟩:=hr.sr.at hob;cases hsz:zt args.length ls.ps.size with
 |false=>rw[hsz]at he;exact absurd he zp
 |true=>
 rw[hsz]at he;simp only[cond_true]at he;have hlen:args'.length=ls.ps.size:=by rw[←ha.len];exact zu hsz
 have hid:id<st.nx:=(hr.sr.own _ _ _ k1).1;have hr0:Rel B h0 F ρ (JN ls.ps.toList args (AB ls.fr.n sl st.ob st.nx)) (Ew ls.ps.toList args' ls.fr) h:=by
  have base0:Rel B h0 F ρ (AB ls.fr.n sl st.ob st.nx) ls.fr h:=⟨⟨rfl,fun t=>l4 t⟩,hr.sr⟩;have go:∀(ts:List Tmp) (gG:List PV) (as':List V) (s:AD) (f:Fr),s.nx=st.nx→AW F ρ st.nx gG as'→Rel B h0 F ρ s f h→Rel B h0 F ρ (JN ts gG s) (Ew ts as' f) h:=by
   intro ts;induction ts with
   |nil=>intro gG as' s f _ _ hs;cases gG<;>exact hs
   |cons t ts ih=>
    intro gG as' s f hn hp hs;cases gG with
    |nil=>simp only[Bx]at hp;subst hp;exact hs
    |cons a gG=>
     simp only[AW]at hp;obtain⟨v,vs,rfl,p1,p2⟩:=hp;simp only[JN,Ew];refine ih gG vs _ _ ?_ p2 ?_
     ·cases Nat.blt t s.n<;>exact hn
     ·unfold Fr.Uh;rw[show s.n=f.n from hs.fp.n];cases Nat.blt t f.n with
      |false=>exact hs
      |true=>exact hs.set (by rw[hn];exact p1)
  exact go _ _ _ _ _ rfl ha base0
 have hnx0:st.nx≤(JN ls.ps.toList args (AB ls.fr.n sl st.ob st.nx)).nx:=by
  have go:∀(ts:List Tmp) (gG:List PV) (s:AD),(JN ts gG s).nx=s.nx:=by
   intro ts;induction ts with
   |nil=>intro gG s;cases gG<;>rfl
   |cons t ts ih=>
    intro gG s;cases gG with
    |nil=>rfl
    |cons a gG=>simp only[JN];rw[ih];cases Nat.blt t s.n<;>rfl
  rw[go];exact zh _
 obtain⟨L,M1,hM1,hone1,hall1⟩:=LD (ro:=true) (rv:=some bb) (ct:=false) (fun e=>by cases e) hcall hcallD n ls.asg [] hnx0 hr0 he;refine⟨_,⟨bb,m0,ls,k1,k2,hlen,rfl⟩,?_⟩;have fin:∀x∈L,∃(r:List (V×H)) (M:Nat),(∀m:Nat,M≤m→∀q:Nat,M≤q→(match x.e,x.h.get bb with
   | .normal,some (.loop l1)=>match l1.st with
    | .ready=>match Bc X.C (AY X.C m) (some bb) false q ls.body x.fr (x.h.put bb (.loop { l1 with st:=.busy })) x.ds with
     |some l2=>bl l2 fun y=>match y.h.get bb with
      |some (.loop l3)=>match y.e with
       | .normal=>some [(V.bool true,y.h.put bb (.loop { l3 with st:=.ready,pend:=none }))]
       | .ret=>some [(V.bool false,y.h.put bb (.loop { l3 with st:=.done,pend:=some .ret }))]
       | .exit i=>some [(V.bool false,y.h.put bb (.loop { l3 with st:=.done,pend:=some (.exit i) }))]
      |_=>none
     |none=>none
    |_=>none
   |_,_=>none)=some r)∧(nd=false→∃x,r=[x])∧∀x∈r,∃n',n'≤n∧∃r st',Ev X Q n' (k r st')∧∃F' ρ',PR F' ρ' st'.nx r x.1∧Cu B h0 F ρ st.nx h st' fr x.2 F' ρ':=by
  intro x hx;obtain⟨ps1,_,n1,hn1,s,he1,F1,ρ1,hr1,hb1,hl1,hx1⟩:=hall1 x hx;obtain⟨e,fr1,h1,ds1⟩:=x;simp only at he1 hr1 hx1 ⊢;cases e with
  |exit i=>exact absurd he1 zp
  |ret=>exact absurd he1 zp
  |normal=>
  simp only at he1;split at he1
  case h_2=>exact absurd he1 zp
  rename_i f' r' ps' asg' b' n' sl' hob1;have hs1:SR B h0 F1 ρ1 s.nx s.ob h1:=hr1.sr.U1;obtain⟨c1,m1,y1,q1,q2,⟨la,rfl,rfl,rfl,rfl,⟨la1,la2⟩,rfl,la4⟩,-⟩:=hs1.at hob1;obtain⟨rfl,rfl⟩:c1=bb∧m1=m0:=by
   have:=hl1.at hid q1;rw[k1]at this;cases this;exact⟨rfl,rfl⟩
  have hr2:Rel B h0 F1 ρ1 (s.setObj id (.lp f' r' la.ps la.asg la.body .busy la.fr.n sl')) fr1 (h1.put c1 (.loop { la with st:=.busy })):=
   ⟨⟨hr1.fp.n,fun t=>hr1.fp.slot t⟩,hs1.set hob1 q1 q2 rfl rfl (o':=.lp f' r' la.ps la.asg la.body .busy la.fr.n sl') ⟨_,rfl,rfl,rfl,rfl,rfl,rfl,la4⟩⟩
  obtain⟨L2,M2,hM2,hone2,hall2⟩:=LD (ro:=true) (rv:=some c1) (ct:=false) (fun e=>by cases e) hcall hcallD n1 ls.body ds1 (show st.nx≤(s.setObj id (.lp f' r' la.ps la.asg la.body .busy la.fr.n sl')).nx from hb1) hr2 he1;have fin2:∀y∈L2,∃(r:List (V×H)) (M:Nat),(∀m:Nat,M≤m→∀q:Nat,M≤q→(match y.h.get c1 with
    |some (.loop l3)=>match y.e with
     | .normal=>some [(V.bool true,y.h.put c1 (.loop { l3 with st:=.ready,pend:=none }))]
     | .ret=>some [(V.bool false,y.h.put c1 (.loop { l3 with st:=.done,pend:=some .ret }))]
     | .exit i=>some [(V.bool false,y.h.put c1 (.loop { l3 with st:=.done,pend:=some (.exit i) }))]
    |_=>none)=some r)∧(nd=false→∃x,r=[x])∧∀x∈r,∃n',n'≤n∧∃r st',Ev X Q n' (k r st')∧∃F' ρ',PR F' ρ' st'.nx r x.1∧Cu B h0 F ρ st.nx h st' fr x.2 F' ρ':=by
   intro y hy;obtain⟨ps2,_,n2,hn2,s2,he2,F2,ρ2,hr3,hb2,hl2,hx2⟩:=hall2 y hy;obtain⟨e2,fr2,h2,ds2⟩:=y;simp only at he2 hr3 hx2 ⊢;split at he2
   case h_2=>exact absurd he2 zp
   rename_i f2 r2 pp2 aa2 bb2 ss2 nn2 sl2 hob2;have hs3:SR B h0 F2 ρ2 s2.nx s2.ob h2:=hr3.sr.U1;obtain⟨c2,m2,y2,w1,w2,⟨lb,rfl,rfl,rfl,rfl,_,rfl,lb4⟩,-⟩:=hs3.at hob2;have hle:Le F ρ st.nx F2 ρ2 s2.nx:=by
    have h:=hl1.trans hl2;exact⟨h.fz,h.rho,hb2⟩
   obtain⟨rfl,rfl⟩:c2=c1∧m2=m1:=by
    have:=hle.at hid w1;rw[k1]at this;cases this;exact⟨rfl,rfl⟩
   have hnx:h.nx≤h2.nx:=zo hx1 hx2;have done:∀(sb:eL) (lst:LoopState) (pe:Option Code) (rb:Bool),fS sb lst pe→Ev X Q n2 (k (.bl rb) ⟨st.n,st.fr,(s2.setObj id (.lp f2 r2 lb.ps lb.asg lb.body sb lb.fr.n sl2)).ob,s2.nx⟩)→
     ∃n',n'≤n∧∃r st',Ev X Q n' (k r st')∧∃F' ρ',PR F' ρ' st'.nx r (V.bool rb)∧Cu B h0 F ρ st.nx h st' fr (h2.put c2 (.loop { lb with st:=lst,pend:=pe })) F' ρ':=by
    intro sb lst pe rb hlr he3;refine⟨n2,zo hn2 hn1,_,_,he3,F2,ρ2,Iv _,⟨⟨⟨hr.fp.n,fun t=>(hr.fp.slot t).mono hle⟩,?_⟩,hle,hnx⟩⟩;exact hs3.set hob2 w1 w2 rfl rfl (o':=.lp f2 r2 lb.ps lb.asg lb.body sb lb.fr.n sl2) ⟨_,rfl,rfl,rfl,rfl,hlr,rfl,lb4⟩
   cases e2 with
   |normal=>exact⟨[(.bool true,h2.put c2 (.loop { lb with st:=.ready,pend:=none }))],0,fun m _ q _=>(by simp only[w2]),fun _=>⟨_,rfl⟩,fun z hz=>by cases zf.1 hz;exact done .ready _ _ true ⟨rfl,rfl⟩ he2⟩
   |ret=>exact⟨[(.bool false,h2.put c2 (.loop { lb with st:=.done,pend:=some .ret }))],0,fun m _ q _=>(by simp only[w2]),fun _=>⟨_,rfl⟩,fun z hz=>by cases zf.1 hz;exact done .ret _ _ false ⟨rfl,rfl⟩ he2⟩
   |exit i=>exact⟨[(.bool false,h2.put c2 (.loop { lb with st:=.done,pend:=some (.exit i) }))],0,fun m _ q _=>(by simp only[w2]),fun _=>⟨_,rfl⟩,fun z hz=>by cases zf.1 hz;exact done (.exit i) _ _ false ⟨rfl,rfl⟩ he2⟩
  obtain⟨r,M3,j1,j2,j3⟩:=Jb hone2 fin2;refine⟨r,max M2 M3,fun m hm q hq=>?_,j2,j3⟩;have a1:=hM2 m (by omega) q (by omega);simp only at a1;have a2:=j1 m (by omega) q (by omega);simp only[q2,la1];rw[a1];exact a2
 obtain⟨r,M4,j1,j2,j3⟩:=Jb hone1 fin;refine⟨r,max M1 M4+1,fun m hm=>?_,j2,j3⟩;obtain⟨m',rfl⟩:∃m',m=m'+1:=⟨m-1,by omega⟩;have a1:=hM1 m' (by omega) m' (by omega);simp only at a1;have a2:=j1 m' (by omega) m' (by omega);rw[AY];simp only[Ot];rw[a1];exact a2
end
section
variable {B:Nat}{h0:H0}{X:A2}{F F1 F':Fz}{ρ:C8}{N:Nat}{st st':AD}{fr:Fr}{h h':H}
theorem TX{p:PV}{v:V}(hp:PR F ρ N p v):∃w,AW F ρ N p.cells w∧(Jn p=true→v=.agg w)∧(Jn p=false→w=[v]):=by
 cases p with
 |agg l=>simp only[PR]at hp;obtain⟨cs,rfl,h1⟩:=hp;exact⟨cs,h1,fun _=>rfl,fun e=>by cases e⟩
 |_=>exact⟨[v],by simp only[zr,AL,Bx,and_true];exact hp,fun e=>(by cases e),fun _=>rfl⟩
theorem NK{st:AD}{s:Sh}{p:PV}{x:s.T}{v:V}{w:List V}(ha:GH st s p=some (true,x))(h1:Jn p=true→v=.agg w)(h2:Jn p=false→w=[v])(hw:∀xs,EI st p.cells=some (true,xs)→J8 F xs w):PC F (Bz s x) v:=by
 unfold GH at ha;cases hb:(Jn p==s.MV)with
 |false=>rw[hb]at ha;cases ha
 |true=>
  rw[hb]at ha;simp only[cond_true]at ha;split at ha
  case h_2=>cases ha
  rename_i c cs hcs;split at ha
  case h_2=>cases ha
  rename_i y hy;simp only[zw,Prod.mk.injEq,ze]at ha;obtain⟨⟨hco,rfl⟩,rfl⟩:=ha;have hdc:=J8.dc (fun ρ N=>M9 (hw cs hcs ρ N) hco) hy;have hk:=PC.Bz hdc;have hb:Jn p=s.MV:=by simpa using hb
  cases hp:s.MV with
  |true=>rw[hp]at hb;rw[h1 hb];exact hk.1 hp
  |false=>rw[hp]at hb;exact hk.2 hp v (h2 hb)
theorem handed:∀ {ps:List PV} {vs:List V} {st:AD} {F:Fz},SR B h0 F ρ st.nx st.ob h→AW F ρ st.nx ps vs→
  ∃F1,SR B h0 F1 ρ (AZ (ps.flatMap zr) st).nx (AZ (ps.flatMap zr) st).ob h∧(∀b cs,F b=some cs→F1 b=some cs)∧∀l i,CA st l ps=some (true,i)→J8 F1 (Ah l i) vs
 |[],vs,st,F,hr,hp=>⟨F,hr,fun _ _ h=>h,fun l i hi=>by
  have hv:vs=[]:=by simpa using hp
  subst hv;match l,i,hi with
  |[],_,_=>intro ρ' N';simp[Ah]
  |[a],_,hi=>cases hi
  |a::b::l,_,hi=>cases hi⟩
 |p::ps,vs,st,F,hr,hp=>by
  simp only[AW]at hp;obtain⟨v,vs,rfl,h1,h2⟩:=hp;obtain⟨w,c1,c2,c3⟩:=TX h1;obtain⟨F1,g1,g2,g3⟩:=F8 hr c1;have h2':AW F1 ρ (AZ p.cells st).nx ps vs:=by rw[(Cx p.cells st).1];exact h2.mono (Le.Uq g2)
  obtain⟨F2,k1,k2,k3⟩:=handed g1 h2';rw[List.flatMap_cons,Gu];refine⟨F2,k1,fun b cs hb=>k2 b cs (g2 b cs hb),fun l i hi=>?_⟩;match l,i,hi with
  |[],_,hi=>cases hi
  |[a],i,hi=>
   cases ps with
   |cons q qs=>cases hi
   |nil=>
    have hv:vs=[]:=by simpa using h2
    subst hv;have:=(NK (st:=st) (F:=F1) (by simpa [CA]using hi) c2 c3 g3).mono k2;intro ρ' N';simp only[Ah,AL,Bx,and_true];exact this ρ' N'
  |a::b::l,i,hi=>
   unfold CA at hi;split at hi
   case h_2=>cases hi
   rename_i c x d y e1 e2;simp only[zw,Prod.mk.injEq,ze]at hi;obtain⟨⟨rfl,rfl⟩,rfl⟩:=hi;unfold Ah;exact J8.cons ((NK e1 c2 c3 g3).mono k2) (k3 (b::l) y (by rw[Jm (J3 p.cells st)];exact e2))
theorem SR.after{ob:Ob}(hr:SR B h0 F ρ N ob h)(hs:∀b,b<h.nx→h'.get b=h.get b)(hx:h.nx≤h'.nx)(hlt:∀b o,h'.get b=some o→b<h'.nx)(hF:∀b cs,F b=some cs→F' b=some cs)
  (hN:∀b cs,F' b=some cs→F b=some cs∨h.nx≤b) (hfr:∀b cs,F' b=some cs→∃t fz,h'.get b=some (.cells cs t fz)):SR B h0 F' ρ N ob h':=by
 refine⟨fun id o ho=>?_,hr.inj,hfr,hr.own,hr.dead,fun b hb he=>?_,hlt,zo hr.le hx,fun b cs hb=>?_,hr.gl,fun b hb=>by obtain⟨g1,g2,g3⟩:=hr.pn b hb;exact⟨by rw[hs b (hr.lt b _ g1)];exact g1,g2,g3⟩⟩
 ·obtain⟨b,n,x,h1,h2,h3,h4,h5⟩:=hr.obj id o ho;have hb:=hr.lt b x h2;refine⟨b,n,x,h1,by rw[hs b hb];exact h2,h3.mono (Le.Uq (ρ:=ρ) hF),fun e=>?_,fun e=>?_⟩
  ·cases hc:F' b with
   |none=>rfl
   |some cs=>
    rcases hN b cs hc with h6|h6
    ·rw[h4 e]at h6;cases h6
    ·omega
  ·obtain⟨cs,t,fz,k1,k2⟩:=h5 e;exact⟨cs,t,fz,k1,hF _ _ k2⟩
 ·rw[hs b (zA hb hr.le)];exact hr.old b hb he
 ·rcases hN b cs hb with h1|h1
  ·exact hr.fo b cs h1
  ·exact .inr (.inl (zo hr.le h1))
theorem SR.gh{ob:Ob}(hr:SR B h0 F ρ N ob h):Gh h:=fun x hx=>by
 obtain⟨a,b,c⟩:=hr.gl x hx;rw[hr.old _ a b];exact c
structure Od(C:Ctx)(f:FuncId)(sp:Az):Prop where
 prim:C.prim f=none
 fn:∃i,C.fn f=some i
 run:∀(F:Fz) (h:H) (args:List V) (i:(Bb sp.ins).T),(∀b cs,F b=some cs→∃t fz,h.get b=some (.cells cs t fz))→(∀b o,h.get b=some o→b<h.nx)→Gh h→J8 F (Ah sp.ins i) args→sp.pre i=true→
  ∃l M,(∀m,M≤m→AY C m (.fn f args) h=some l)∧(sp.nd=false→∃x,l=[x])∧∀x∈l,h.nx≤x.2.nx∧(∀b,b<h.nx→x.2.get b=h.get b)∧(∀b o,x.2.get b=some o→b<x.2.nx)∧
   ∃F':Fz,(∀b cs,F b=some cs→F' b=some cs)∧(∀b cs,F' b=some cs→F b=some cs∨h.nx≤b)∧(∀b cs,F' b=some cs→∃t fz,x.2.get b=some (.cells cs t fz))∧
    PC F' (one (Ah sp.outs (sp.f i))) x.1
structure ZY(C:Ctx)(f:FuncId)(sp:Az):Prop where
 run:∃q,C.prim f=some q∧∀(F:Fz) (h:H) (args:List V) (i:(Bb sp.ins).T),J8 F (Ah sp.ins i) args→sp.pre i=true→∃v,q args h=some (v,h)∧PC F (one (Ah sp.outs (sp.f i))) v
def Ac(C:Ctx)(f:FuncId)(sp:Az):Prop:=Od C f sp∨ZY C f sp
theorem Ac.eW{C:Ctx}{f:FuncId}{sp:Az}(h:Od C f sp):Ac C f sp:=.inl h
theorem Ac.zero{C:Ctx}{f:FuncId}{sp:Az}(h:Ac C f sp)(hp:C.prim f=none):Od C f sp:=by
 rcases h with h|⟨q,hq,_⟩
 ·exact h
 ·rw[hp]at hq;cases hq
theorem Ac.go{C:Ctx}{f:FuncId}{sp:Az}(ok:Ac C f sp)(F:Fz)(h:H)(args:List V)(i:(Bb sp.ins).T)(hfz:∀b cs,F b=some cs→∃t fz,h.get b=some (.cells cs t fz))(hlt:∀b o,h.get b=some o→b<h.nx)(hgh:Gh h)(ha:J8 F (Ah sp.ins i) args)(hp:sp.pre i=true):
  ∃l,(((C.prim f=none∧∃i,C.fn f=some i)∧∃M,∀m,M≤m→AY C m (.fn f args) h=some l)∨∃q x,C.prim f=some q∧q args h=some x∧l=[x])∧(sp.nd=false→∃x,l=[x])∧∀x∈l,h.nx≤x.2.nx∧(∀b,b<h.nx→x.2.get b=h.get b)∧(∀b o,x.2.get b=some o→b<x.2.nx)∧
   ∃F':Fz,(∀b cs,F b=some cs→F' b=some cs)∧(∀b cs,F' b=some cs→F b=some cs∨h.nx≤b)∧(∀b cs,F' b=some cs→∃t fz,x.2.get b=some (.cells cs t fz))∧
    PC F' (one (Ah sp.outs (sp.f i))) x.1:=by
 rcases ok with ok|⟨q,hq,hrun⟩
 ·obtain⟨l,M,h1,h2,h3⟩:=ok.run F h args i hfz hlt hgh ha hp;exact⟨l,.inl ⟨⟨ok.prim,ok.fn⟩,M,h1⟩,h2,h3⟩
 ·obtain⟨v,h1,h2⟩:=hrun F h args i ha hp;refine⟨[(v,h)],.inr ⟨q,(v,h),hq,h1,rfl⟩,fun _=>⟨_,rfl⟩,fun x hx=>?_⟩;cases zf.1 hx;exact⟨zh _,fun _ _=>rfl,hlt,F,fun _ _ h=>h,fun _ _ h=>.inl h,hfz,h2⟩
theorem DC.sc:∀ {s:Sh} {x:s.T} {cs:List V},s.sc=true→DC F s x cs→DC F' s x cs
 | .int _,_,_,_,h=>by simpa only[DC]using h
 | .bool,_,_,_,h=>by simpa only[DC]using h
 | .str,_,_,_,h=>by simpa only[DC]using h
 | .list s,l,_,e,h=>by cases e
 | .pair a b,x,_,e,h=>by
  simp only[DC]at h ⊢;simp only[Sh.sc,ze]at e;obtain⟨c,d,rfl,h1,h2⟩:=h;exact⟨c,d,rfl,h1.sc e.1,h2.sc e.2⟩
 | .unit,_,_,_,h=>by simpa only[DC]using h
 | .nlist s,l,_,e,h=>by cases e
 | .fnv,_,_,_,h=>by simpa only[DC]using h
theorem OQ:∀ {s:Sh} {x:s.T} {cs:List V},s.sc=true→AW F ρ N (flat s x) cs→J8 F' (flat s x) cs
 | .int k,x,cs,_,h=>fun ρ' N'=>by
  simp only[flat,AW]at h ⊢;obtain⟨v,vs,rfl,h1,rfl⟩:=h;exact⟨v,[],rfl,by simp only[PR]at h1 ⊢;exact h1.sc rfl,rfl⟩
 | .bool,x,cs,_,h=>fun ρ' N'=>by
  simp only[flat,AW]at h ⊢;obtain⟨v,vs,rfl,h1,rfl⟩:=h;exact⟨v,[],rfl,by simp only[PR]at h1 ⊢;exact h1.sc rfl,rfl⟩
 | .str,x,cs,_,h=>fun ρ' N'=>by
  simp only[flat,AW]at h ⊢;obtain⟨v,vs,rfl,h1,rfl⟩:=h;exact⟨v,[],rfl,by simp only[PR]at h1 ⊢;exact h1.sc rfl,rfl⟩
 | .list s,x,cs,e,h=>by cases e
 | .pair a b,(x,y),cs,e,h=>fun ρ' N'=>by
  simp only[Sh.sc,ze]at e;have key:∀(ps qs:List PV) (l:List V),AW F ρ N (ps++qs) l→∃c d,l=c++d∧AW F ρ N ps c∧AW F ρ N qs d:=by
   intro ps;induction ps with
   |nil=>intro qs l hl;exact⟨[],l,rfl,by simp,hl⟩
   |cons p ps ih=>
    intro qs l hl;simp only[List.cons_append,AW]at hl;obtain⟨v,vs,rfl,h1,h2⟩:=hl;obtain⟨c,d,rfl,h3,h4⟩:=ih qs vs h2;exact⟨v::c,d,rfl,by simp only[AL];exact⟨h1,h3⟩,h4⟩
  obtain⟨c,d,rfl,h1,h2⟩:=key _ _ _ h;exact(OQ e.1 h1 ρ' N').append (OQ e.2 h2 ρ' N')
 | .unit,_,cs,_,h=>fun ρ' N'=>by simpa [flat]using h
 | .nlist s,x,cs,e,h=>by cases e
 | .fnv,x,cs,_,h=>fun ρ' N'=>by
  simp only[flat,AW]at h ⊢;obtain⟨v,vs,rfl,h1,rfl⟩:=h;refine⟨v,[],rfl,?_,rfl⟩;cases (x:Option Fn)<;>simp only[PR,Bx]at h1 ⊢<;>exact h1
theorem Sy{s:Sh}{x:s.T}{v:V}(e:s.sc=true)(h:PC F (Bz s x) v):PC F' (Bz s x) v:=by
 intro ρ' N';have h:=h ρ' N';cases s with
 |pair a b=>
  unfold Pe.Bz PR at h ⊢;obtain⟨cs,rfl,h1⟩:=h;exact⟨cs,rfl,OQ e h1 ρ' N'⟩
 |unit=>unfold Pe.Bz PR at h ⊢;obtain⟨cs,rfl,h1⟩:=h;exact⟨cs,rfl,by simpa using h1⟩
 |int k=>unfold Pe.Bz PR at h ⊢;exact h.sc rfl
 |bool=>unfold Pe.Bz PR at h ⊢;exact h.sc rfl
 |str=>unfold Pe.Bz PR at h ⊢;exact h.sc rfl
 |list s=>cases e
 |nlist s=>cases e
 |fnv=>
  unfold Pe.Bz at h ⊢;cases (x:Option Fn)<;>simp only[PR,Bx]at h ⊢<;>exact h
theorem SM:∀ {l:List Sh} {x:(Bb l).T} {vs:List V},l.all Sh.sc=true→J8 F (Ah l x) vs→J8 F' (Ah l x) vs
 |[],_,vs,_,h=>fun ρ' N'=>by have:=h ρ' N';simpa [Ah]using this
 |[a],x,vs,e,h=>fun ρ' N'=>by
  have h1:=h ρ' N';simp only[Ah,AW]at h1;obtain⟨v,vs',rfl,h2,rfl⟩:=h1;simp only[zz,List.all_nil,zM]at e;simp only[Ah,AL,Bx,and_true];refine Sy (F:=F) e (fun ρ2 N2=>?_) ρ' N';have:=h ρ2 N2;simpa only[Ah,AL,Bx,and_true]using this
 |a::b::l,x,vs,e,h=>by
  have h1:=h (fun _=>none) 0;simp only[Ah,AW]at h1;obtain⟨v,vs',rfl,_,_⟩:=h1;have e':a.sc=true∧(b::l).all Sh.sc=true:=by simpa [zz,Bool.and_assoc]using e
  unfold Ah at h ⊢;exact J8.cons (Sy e'.1 fun ρ2 N2=>((AL ..).1 (h ρ2 N2)).1) (SM e'.2 fun ρ2 N2=>((AL ..).1 (h ρ2 N2)).2)
theorem LB{l:List Sh}{x:(Bb l).T}{v:V}:PC F (one (Ah l x)) v↔∃vs,J8 F (Ah l x) vs∧v=(match vs with|[u]=>u|us=>.tup us):=by
 have tupc:∀ps:List PV,(∀u,ps≠[u])→(PC F (one ps) v↔∃vs,J8 F ps vs∧v=(match vs with|[u]=>u|us=>.tup us)):=by
  intro ps hne;have h1:one ps=.tup ps:=by
   unfold one;split
   ·rename_i u;exact absurd rfl (hne u)
   ·rfl
  rw[h1];constructor
  ·intro h;have h2:=h (fun _=>none) 0;unfold PR at h2;obtain⟨cs,rfl,h3⟩:=h2;refine⟨cs,fun ρ N=>?_,?_⟩
   ·have h4:=h ρ N;unfold PR at h4;obtain⟨cs',e,h5⟩:=h4;cases e;exact h5
   ·have hl:=h3.len;split
    ·rename_i u;cases ps with
     |nil=>cases hl
     |cons q qs=>cases qs with
      |nil=>exact absurd rfl (hne q)
      |cons _ _=>cases hl
    ·rfl
  ·rintro⟨vs,h2,rfl⟩ ρ N;unfold PR;have hl:=(h2 ρ N).len;split
   ·rename_i u;cases ps with
    |nil=>cases hl
    |cons q qs=>cases qs with
     |nil=>exact absurd rfl (hne q)
     |cons _ _=>cases hl
   ·exact⟨_,rfl,h2 ρ N⟩
 match l,x with
 |[],x=>exact tupc [] (fun u e=>by cases e)
 |[a],x=>
  simp only[Ah,one];constructor
  ·intro h;exact⟨[v],fun ρ N=>by simp only[AL,Bx,and_true];exact h ρ N,rfl⟩
  ·rintro⟨vs,h2,rfl⟩ ρ N;have h3:=h2 ρ N;simp only[AW]at h3;obtain⟨u,us,rfl,h4,rfl⟩:=h3;exact h4
 |a::b::l,x=>
  refine tupc _ (fun u e=>?_);unfold Ah at e;cases l<;>cases e
theorem Tt{nd:Bool}{g:FuncId}{sp:Az}(_hsp:X.sp g=some sp)(hok:Ac X.C g sp)(hnd:nd=false→sp.nd=false){Q:PV→Ob→Prop}{n:Nat}{args:List PV}{k:PV→AD→Tr}{args':List V}(he:Ev X Q n (V4 sp args st k))(hr:Rel B h0 F ρ st fr h)(ha:AW F ρ st.nx args args'):
  ∃l,JY X ρ h args' (.fn g) l∧(nd=false→∃x,l=[x])∧
   ∀x∈l,∃n',n'≤n∧∃r st',Ev X Q n' (k r st')∧∃F' ρ',PR F' ρ' st'.nx r x.1∧Cu B h0 F ρ st.nx h st' fr x.2 F' ρ'∧(∀sp,X.sp g=some sp→∀b,b<h.nx→x.2.get b=h.get b):=by
 unfold V4 at he;split at he
 case h_2=>exact absurd he zp
 rename_i c i hi;rcases he.Dt with⟨hc,he1⟩|⟨_,he1⟩
 case inr=>exact absurd he1 zp
 simp only[ze]at hc;obtain⟨rfl,hpre⟩:=hc;obtain⟨F1,g1,g2,g3⟩:=handed hr.sr ha;obtain⟨l,hM,hone,hall⟩:=hok.go F1 h args' i g1.frz hr.sr.lt hr.sr.gh (g3 _ i hi) hpre;have hcd:JY X ρ h args' (.fn g) l:=by
  rcases hM with⟨h1,M,hM⟩|⟨q,x,h1,h2,rfl⟩
  ·exact .AY ⟨rfl,h1⟩ hM
  ·exact .prim h1 h2
 refine⟨l,hcd,fun e=>hone (hnd e),fun x hx=>?_⟩;obtain⟨k1,k2,k3,F',k4,k5,k6,k7⟩:=hall x hx;refine⟨n,zh _,_,_,he1,?_⟩;cases hsc:sp.outs.all Sh.sc with
 |true=>
  simp only[cond_true];have hv:PC F (one (Ah sp.outs (sp.f i))) x.1:=by
   obtain⟨vs,h1,h2⟩:=LB.1 k7;exact LB.2 ⟨vs,SM hsc h1,h2⟩
  refine⟨F,ρ,hv ρ _,⟨⟨hr.fp,?_⟩,zJ,k1⟩,fun _ _ b hb=>k2 b hb⟩;refine hr.sr.after k2 k1 k3 (fun _ _ h=>h) (fun _ _ h=>.inl h) (fun b cs hb=>?_);obtain⟨t,fz,hg⟩:=hr.sr.frz b cs hb;exact⟨t,fz,by rw[k2 b (hr.sr.lt b _ hg)];exact hg⟩
 |false=>
  simp only[cond_false];obtain⟨e1,e2,e3⟩:=Cx (args.flatMap zr) st;have hle:Le F ρ st.nx F' ρ (AZ (args.flatMap zr) st).nx:=by
   rw[e1];exact Le.Uq fun b cs hb=>k4 b cs (g2 b cs hb)
  refine⟨F',ρ,k7 ρ _,⟨⟨⟨e3.trans hr.fp.n,fun t=>?_⟩,?_⟩,hle,k1⟩,fun _ _ b hb=>k2 b hb⟩
  ·have:(AZ (args.flatMap zr) st).get t=st.get t:=by unfold AD.get;rw[e2]
   rw[this];exact(hr.fp.slot t).mono hle
  ·exact g1.after k2 k1 k3 k4 k5 k6
structure KP(C:Ctx)(f:FuncId)(w:Sz):Prop where
 prim:C.prim f=none
 fn:∃i,C.fn f=some i
 len:∀i l,w.pre i l=true→(w.g i l).length=l.length
 run:∀(F:Fz) (h:H) (args:List V) (i:(Bb w.ins).T) (l:List w.el.T) (b:Nat) (cs:List V) (fz:Nat×Nat) (o:Nat),(∀b cs,F b=some cs→∃t fz,h.get b=some (.cells cs t fz))→(∀b o,h.get b=some o→b<h.nx)→Gh h→J8 F (Ah w.ins i) args→w.pre i l=true→
  h.get b=some (.cells cs w.ty fz)→Df F w.el l cs→fz.2≤fz.1→F b=none→(o=0∨o=w.el.sz)→
  ∃x M,(∀m,M≤m→AY C m (.fn f (args++[.sl b 0 l.length l.length o])) h=some [x])∧x.1=.tup []∧h.nx≤x.2.nx∧(∀c,c<h.nx→c≠b→x.2.get c=h.get c)∧(∀c y,x.2.get c=some y→c<x.2.nx)∧
   ∃F':Fz,(∀b cs,F b=some cs→F' b=some cs)∧(∀b cs,F' b=some cs→F b=some cs∨h.nx≤b)∧(∀b cs,F' b=some cs→∃t fz,x.2.get b=some (.cells cs t fz))∧
    ∃cs' fz',x.2.get b=some (.cells cs' w.ty fz')∧Df F' w.el (w.g i l) cs'∧fz'.2≤fz'.1
 nils:∀(F:Fz) (h:H) (args:List V) (i:(Bb w.ins).T),(∀b cs,F b=some cs→∃t fz,h.get b=some (.cells cs t fz))→(∀b o,h.get b=some o→b<h.nx)→Gh h→J8 F (Ah w.ins i) args→w.pre i []=true→
  ∃x M,(∀m,M≤m→AY C m (.fn f (args++[.nils])) h=some [x])∧x.1=.tup []∧h.nx≤x.2.nx∧(∀c,c<h.nx→x.2.get c=h.get c)∧(∀c y,x.2.get c=some y→c<x.2.nx)∧
   ∃F':Fz,(∀b cs,F b=some cs→F' b=some cs)∧(∀b cs,F' b=some cs→F b=some cs∨h.nx≤b)∧(∀b cs,F' b=some cs→∃t fz,x.2.get b=some (.cells cs t fz))
theorem AW.split:∀ {a b:List PV} {vs:List V},AW F ρ N (a++b) vs→∃x y,vs=x++y∧AW F ρ N a x∧AW F ρ N b y
 |[],b,vs,h=>⟨[],vs,rfl,by simp,h⟩
 |p::a,b,vs,h=>by
  simp only[List.cons_append,AW]at h;obtain⟨v,vs,rfl,h1,h2⟩:=h;obtain⟨x,y,rfl,h3,h4⟩:=h2.split;exact⟨v::x,y,rfl,by simp only[AL];exact⟨h1,h3⟩,h4⟩
theorem SR.wrote{ob:Ob}(hr:SR B h0 F ρ N ob h){id b n:Nat}{o o':Obj}{x':O}(ho:AF ob id=some o)(hb:ρ id=some (b,n))(hbn:b<h.nx)(hFb:F b=none)(hf':o'.frozen=false)(hg':h'.get b=some x')(hx':S5 F' ρ N n o' x')
  (hs:∀c,c<h.nx→c≠b→h'.get c=h.get c) (hx:h.nx≤h'.nx) (hlt:∀b o,h'.get b=some o→b<h'.nx) (hF:∀b cs,F b=some cs→F' b=some cs)
  (hN:∀b cs,F' b=some cs→F b=some cs∨h.nx≤b) (hfr:∀b cs,F' b=some cs→∃t fz,h'.get b=some (.cells cs t fz)):SR B h0 F' ρ N (CH ob id o') h':=by
 have hset:∀j,AF (CH ob id o') j=if j=id then some o' else AF ob j:=fun j=>Fl _ _ _ _ (by rw[ho];rfl)
 have none':∀c,c<h.nx→F c=none→F' c=none:=fun c hc hn=>by
  cases h1:F' c with
  |none=>rfl
  |some cs=>
   rcases hN c cs h1 with h2|h2
   ·rw[hn]at h2;cases h2
   ·omega
 refine⟨fun j oj hj=>?_,fun i j oi oj c m m' hi hj h1 h2=>?_,hfr,hr.own,fun j hj=>?_,fun c hc he=>?_,hlt,zo hr.le hx,fun c cs hc=>?_,hr.gl,fun c hc=>?_⟩
 ·rw[hset]at hj;by_cases e:j=id
  ·subst e;simp only[if_true,zw]at hj;subst hj;exact⟨b,n,x',hb,hg',hx',fun _=>none' b hbn hFb,fun e=>by rw[hf']at e;cases e⟩
  ·rw[if_neg e]at hj;obtain⟨c,m,y,h1,h2,h3,h4,h5⟩:=hr.obj j oj hj;have hne:c≠b:=fun ec=>e (hr.inj j id oj o c m n hj ho h1 (ec▸hb))
   have hc:=hr.lt c y h2;refine⟨c,m,y,h1,by rw[hs c hc hne];exact h2,h3.mono (Le.Uq (ρ:=ρ) hF),fun e=>none' c hc (h4 e),fun e=>?_⟩;obtain⟨cs,t,fz,k1,k2⟩:=h5 e;exact⟨cs,t,fz,k1,hF _ _ k2⟩
 ·have get':∀k ok,AF (CH ob id o') k=some ok→∃o2,AF ob k=some o2:=by
   intro k ok hk;rw[hset]at hk;by_cases e:k=id
   ·exact⟨o,e▸ho⟩
   ·rw[if_neg e]at hk;exact⟨ok,hk⟩
  obtain⟨_,g1⟩:=get' i oi hi;obtain⟨_,g2⟩:=get' j oj hj;exact hr.inj i j _ _ c m m' g1 g2 h1 h2
 ·rw[hset]at hj;by_cases e:j=id
  ·rw[if_pos e]at hj;cases hj
  ·rw[if_neg e]at hj;exact hr.dead j hj
 ·rw[hs c (zA hc hr.le) (KN (hr.own id b n hb).2 hc he)];exact hr.old c hc he
 ·rcases hN c cs hc with h1|h1
  ·exact hr.fo c cs h1
  ·exact .inr (.inl (zo hr.le h1))
 ·obtain⟨g1,g2,g3⟩:=hr.pn c hc;have hne:c≠b:=fun e=>g3 id n (e▸hb)
  exact⟨by rw[hs c (hr.lt c _ g1) hne];exact g1,g2,g3⟩
theorem rev_eq{α:Type}{a:List α}{x:α}{r:List α}(h:a.reverse=x::r):a=r.reverse++[x]:=by
 have:=congrArg List.reverse h;simpa using this
theorem Q5{nd:Bool}{g:FuncId}{w:Sz}(hno:X.sp g=none)(hok:KP X.C g w){Q:PV→Ob→Prop}{n:Nat}{args:List PV}{k:PV→AD→Tr}{args':List V}(he:Ev X Q n (Q6 w args st k))(hr:Rel B h0 F ρ st fr h)(ha:AW F ρ st.nx args args'):
  ∃l,JY X ρ h args' (.fn g) l∧(nd=false→∃x,l=[x])∧
   ∀x∈l,∃n',n'≤n∧∃r st',Ev X Q n' (k r st')∧∃F' ρ',PR F' ρ' st'.nx r x.1∧Cu B h0 F ρ st.nx h st' fr x.2 F' ρ'∧(∀sp,X.sp g=some sp→∀b,b<h.nx→x.2.get b=h.get b):=by
 unfold Q6 at he;split at he
 ·rename_i id sz nn r hrev;rw[rev_eq hrev]at ha;obtain⟨a1,a2,rfl,ha1,ha2⟩:=ha.split;simp only[AW]at ha2;obtain⟨v,_,rfl,hv,rfl⟩:=ha2;obtain⟨F1,g1,g2,g3⟩:=handed hr.sr ha1;split at he
  case h_2=>exact absurd he zp
  rename_i c i t s l hi ho;cases hty:zt t w.ty with
  |false=>rw[hty]at he;exact absurd he zp
  |true=>
  rw[hty]at he;simp only[cond_true]at he;have hty:=zu hty;split at he
  case h_2=>exact absurd he zp
  rename_i l' hl';obtain⟨e,rfl⟩:=Co hl';cases e;rcases he.Dt with⟨hc,he1⟩|⟨_,he1⟩
  case inr=>exact absurd he1 zp
  simp only[ze,decide_eq_true_eq]at hc;obtain⟨⟨⟨rfl,hpre⟩,hn⟩,hsz⟩:=hc;have hsz:=zu hsz;subst hn hsz hty;obtain⟨e1,e2,e3⟩:=Cx (r.reverse.flatMap zr) st;obtain⟨b,m,x,h1,h2,⟨cs,fz,rfl,k1,k2,k3⟩,h4,_⟩:=g1.obj id _ ho;simp only[PR]at hv;obtain⟨o,ho',rfl⟩:∃o,(o=0∨o=w.el.sz)∧v=.sl b (0*w.el.sz) (List.length l) (List.length l) o:=by
   rcases hv.2 b m h1 with⟨_,_,g⟩|⟨_,e,_⟩
   ·exact g
   ·cases e
  rw[Nat.zero_mul];obtain⟨x,M,hM,q1,q2,q3,q4,F',f1,f2,f3,cs',fz',f4,f5,f6⟩:=hok.run F1 h a1 i l b cs fz o g1.frz hr.sr.lt hr.sr.gh (g3 _ i hi) hpre h2 k1 k2 (h4 rfl) ho';refine⟨[x],.AY ⟨rfl,hok.prim,hok.fn⟩ hM,fun _=>⟨x,rfl⟩,fun y hy=>?_⟩;cases zf.1 hy;refine⟨n,zh _,_,_,he1,F',ρ,?_,⟨⟨⟨e3.trans hr.fp.n,fun t=>?_⟩,?_⟩,?_,q2⟩,fun sp hsp=>by rw[hno]at hsp;cases hsp⟩
  ·rw[q1];simp[PR]
  ·have:((AZ (r.reverse.flatMap zr) st).setObj id (.arr false w.ty w.el (w.g i l))).get t=st.get t:=by
    show((AZ (r.reverse.flatMap zr) st).fr.get t).getD .any=_;rw[e2];rfl
   rw[this];refine(hr.fp.slot t).mono ?_;show Le F ρ st.nx F' ρ (AZ (r.reverse.flatMap zr) st).nx;rw[e1];exact Le.Uq fun b cs hb=>f1 b cs (g2 b cs hb)
  ·exact g1.wrote ho h1 (hr.sr.lt _ _ h2) (h4 rfl) rfl f4 ⟨cs',fz',rfl,f5,f6,by rw[←k3];exact hok.len i l hpre⟩ q3 q2 q4 f1 f2 f3
  ·show Le F ρ st.nx F' ρ (AZ (r.reverse.flatMap zr) st).nx;rw[e1];exact Le.Uq fun b cs hb=>f1 b cs (g2 b cs hb)
 ·rename_i r hrev;rw[rev_eq hrev]at ha;obtain⟨a1,a2,rfl,ha1,ha2⟩:=ha.split;simp only[AW]at ha2;obtain⟨v,_,rfl,hv,rfl⟩:=ha2;simp only[PR]at hv;subst hv;obtain⟨F1,g1,g2,g3⟩:=handed hr.sr ha1;split at he
  case h_2=>exact absurd he zp
  rename_i c i hi;rcases he.Dt with⟨hc,he1⟩|⟨_,he1⟩
  case inr=>exact absurd he1 zp
  simp only[ze]at hc;obtain⟨rfl,hpre⟩:=hc;obtain⟨e1,e2,e3⟩:=Cx (r.reverse.flatMap zr) st;obtain⟨x,M,hM,q1,q2,q3,q4,F',f1,f2,f3⟩:=hok.nils F1 h a1 i g1.frz hr.sr.lt hr.sr.gh (g3 _ i hi) hpre;have hle:Le F ρ st.nx F' ρ (AZ (r.reverse.flatMap zr) st).nx:=by
   rw[e1];exact Le.Uq fun b cs hb=>f1 b cs (g2 b cs hb)
  refine⟨[x],.AY ⟨rfl,hok.prim,hok.fn⟩ hM,fun _=>⟨x,rfl⟩,fun y hy=>?_⟩;cases zf.1 hy;refine⟨n,zh _,_,_,he1,F',ρ,?_,⟨⟨⟨e3.trans hr.fp.n,fun t=>?_⟩,?_⟩,hle,q2⟩,fun sp hsp=>by rw[hno]at hsp;cases hsp⟩
  ·rw[q1];simp[PR]
  ·have:(AZ (r.reverse.flatMap zr) st).get t=st.get t:=by unfold AD.get;rw[e2]
   rw[this];exact(hr.fp.slot t).mono hle
  ·exact g1.after q3 q2 q4 f1 f2 f3
 ·exact absurd he zp
theorem IK(hmg:X.C.mg=false)(hall:∀g sp,X.sp g=some sp→Ac X.C g sp)(hws:∀g w,X.ws g=some w→KP X.C g w):∀(d:Nat) (nd:Bool) (h0:H0),DO B h0 X nd (BG X nd d)
 |0,nd,h0=>by intro he;exact absurd he zp
 |d+1,nd,h0=>by
  rename_i Q n cg args st k;intro he F ρ fr h args' hr ha;unfold BG at he;cases cg with
  |rnd id=>exact absurd he zp
  |fn g=>
  simp only at he;have conv:(∃l,JY X ρ h args' (.fn g) l∧(nd=false→∃x,l=[x])∧
   ∀x∈l,∃n',n'≤n∧∃r st',Ev X Q n' (k r st')∧∃F' ρ',PR F' ρ' st'.nx r x.1∧Cu B h0 F ρ st.nx h st' fr x.2 F' ρ'∧(∀sp,X.sp g=some sp→∀b,b<h.nx→x.2.get b=h.get b))→
   ∃l,JY X ρ h args' (.fn g) l∧(nd=false→∃x,l=[x])∧
   ∀x∈l,∃n',n'≤n∧∃r st',Ev X Q n' (k r st')∧∃F' ρ',PR F' ρ' st'.nx r x.1∧Cu B h0 F ρ st.nx h st' fr x.2 F' ρ'∧(∀gg,bE.fn g=.fn gg→∀sp,X.sp gg=some sp→∀b,b<h.nx→x.2.get b=h.get b):=by
   rintro⟨l,h1,h3,h4⟩;refine⟨l,h1,h3,fun x hx=>?_⟩;obtain⟨n',k1,r,st',k2,F',ρ',k3,k4,k5⟩:=h4 x hx;exact⟨n',k1,r,st',k2,F',ρ',k3,k4,fun gg e=>by cases e;exact k5⟩
  obtain⟨o,hs⟩:∃o,X.sp g=o:=⟨_,rfl⟩;cases o with
  |some sp=>
   rw[hs]at he;simp only at he;cases hb:(nd|| !sp.nd)with
   |false=>rw[hb]at he;exact absurd he zp
   |true=>
    rw[hb]at he;exact conv (Tt (nd:=nd) hs (hall g sp hs) (fun e=>by rw[e]at hb;simpa using hb) he hr ha)
  |none=>
   rw[hs]at he;simp only at he;obtain⟨ow,hw⟩:∃o,X.ws g=o:=⟨_,rfl⟩;cases ow with
   |some w=>rw[hw]at he;exact conv (Q5 hs (hws g w hw) he hr ha)
   |none=>
   rw[hw]at he;simp only at he;split at he
   case h_2=>exact absurd he zp
   rename_i hp hsp;obtain⟨g1,l,M,g2,g3,g4⟩:=G5 (IK hmg hall hws d nd) (IK hmg hall hws d false) hmg hsp hp hs he hr ha;exact conv ⟨l,.AY ⟨rfl,g1⟩ g2,g3,g4⟩
theorem LX{st:AD}:∀ {l:List Sh} {ps:List PV} {r:Bool×(Bb l).T},CA st l ps=some r→l.length=ps.length
 |[],[],_,_=>rfl
 |[],_::_,_,h=>by cases h
 |[a],[p],_,_=>rfl
 |[a],[],_,h=>by cases h
 |[a],_::_::_,_,h=>by cases h
 |a::b::l,[],_,h=>by cases h
 |a::b::l,p::ps,_,h=>by
  unfold CA at h;split at h
  case h_2=>cases h
  rename_i e1 e2;have:=LX e2;simp at this ⊢;exact this
def Il(outs:List Sh)(v:PV):List PV:=match outs with
 |[_]=>[v]
 |_=>match v with
  | .tup vs=>vs
  |_=>[v]
def V2(outs:List Sh)(v:PV)(ob:Ob):Option (Bool×(Bb outs).T):=CA ⟨0,.leaf,ob,0⟩ outs (Il outs v)
def Ends(X:A2)(t:Tr)(Q:PV→Ob→Prop):Prop:=∃n,Ev X Q n t
def Af(sp:Az)(i:(Bb sp.ins).T)(v:PV)(ob:Ob):Prop:=∃y,V2 sp.outs v ob=some (true,y)∧y=sp.f i
theorem Ub(hmg:X.C.mg=false)(hall:∀g sp,X.sp g=some sp→Ac X.C g sp)(hws:∀g w,X.ws g=some w→KP X.C g w){f:FuncId}{sp:Az}{d:Nat}(hsp:X.C.spec f=none)(hprim:X.C.prim f=none)(hno:X.sp f=none)
  (hev:∀i,sp.pre i=true→Ends X (tree X sp.nd d f (Ah sp.ins i)) (Af sp i)) (hfn:∃i,X.C.fn f=some i):Ac X.C f sp:=by
 refine .eW ⟨hprim,hfn,fun F h args i hfrz hlt hgh hargs hpre=>?_⟩;obtain⟨n,he⟩:=hev i hpre;unfold tree at he;have hr:Rel h.nx ⟨h,F,[],fun _=>False⟩ F (fun _=>none) (AB 0 [] [] 0) ⟨0,.leaf⟩ h:=by
  refine⟨⟨rfl,fun t=>?_⟩,⟨fun id o ho=>(by cases ho),fun id id' o o' b n n' ho=>(by cases ho),hfrz,fun id b n hb=>(by cases hb),fun _ _=>rfl,fun _ _ _=>rfl,hlt,zh _,fun b cs hb=>.inl hb,fun x hx=>⟨hlt _ _ (hgh x hx),fun e=>e,hgh x hx⟩,fun b hb=>(by cases hb)⟩⟩;show PR _ _ _ (((DW []).get t).getD .any) _;have:(DW []).get t=none:=PM.Cq t;rw[this];simp[PR]
 obtain⟨_,l,M,hM,hone,hall⟩:=G5 (IK hmg hall hws d sp.nd) (IK hmg hall hws d false) hmg hsp hprim hno he hr (hargs _ _);refine⟨l,M,hM,hone,fun x hx=>?_⟩;obtain⟨n',hn,r,st',he',F',ρ',hp,hw,_⟩:=hall x hx;have hq:=he'.RU;obtain⟨y,hy,rfl⟩:=hq;have hold:∀b,b<h.nx→x.2.get b=h.get b:=fun b hb=>hw.rel.sr.old b hb (fun e=>e)
 refine⟨hw.nx,hold,hw.rel.sr.lt,?_⟩;have hvs:∃vs,AW F' ρ' st'.nx (Il sp.outs r) vs∧((∃a,sp.outs=[a])→vs=[x.1])∧((∀a,sp.outs≠[a])→(∃qs,r=.tup qs)→x.1=.tup vs):=by
  unfold Il;split
  ·rename_i a ha;exact⟨[x.1],by simp only[AL,Bx,and_true];exact hp,fun _=>rfl,fun hne=>absurd ha (hne _)⟩
  ·rename_i hne;split
   ·rename_i qs;simp only[PR]at hp;obtain⟨cs,e,h1⟩:=hp;exact⟨cs,h1,fun⟨a,ha⟩=>absurd ha (hne a),fun _ _=>e⟩
   ·rename_i hnt;exact⟨[x.1],by simp only[AL,Bx,and_true];exact hp,fun _=>rfl,fun _ ⟨qs,hqs⟩=>absurd hqs (hnt qs)⟩
 obtain⟨vs,hvs1,hvs2,hvs3⟩:=hvs;obtain⟨F1,g1,g2,g3⟩:=handed (st:=st') hw.rel.sr hvs1;have hob:∀id,CZ (AD.obj ⟨0,.leaf,st'.ob,0⟩ id) (st'.obj id):=fun id=>CZ.refl _
 have hres:=g3 sp.outs _ (by rw[Jm hob];exact hy);refine⟨F1,fun b cs hb=>g2 b cs (hw.le.fz b cs hb),fun b cs hb=>(g1.fo b cs hb).imp_right (fun h=>h.resolve_right (fun e=>e)),g1.frz,LB.2 ⟨vs,hres,?_⟩⟩;have hlen:sp.outs.length=(Il sp.outs r).length:=LX hy;have hl2:=hvs1.len;by_cases ho:∃a,sp.outs=[a]
 ·rw[hvs2 ho]
 ·have hne:∀a,sp.outs≠[a]:=fun a ha=>ho ⟨a,ha⟩
  have hn1:sp.outs.length≠1:=fun e=>by
   obtain⟨a,ha⟩:=List.length_eq_one_iff.1 e;exact hne a ha
  have ht:∃qs,r=.tup qs:=by
   cases r with
   |tup qs=>exact⟨qs,rfl⟩
   |_=>
    exfalso;apply hn1;rw[hlen];unfold Il;split<;>rfl
  rw[hvs3 hne ht];split
  ·rename_i u;exact absurd (hlen.trans hl2) hn1
  ·rfl
end
section
variable {X:A2}{Q Q':PV→Ob→Prop}
theorem Ends.leaf{v:PV}{ob:Ob}(h:Q v ob):Ends X (.leaf v ob) Q:=⟨0,.leaf h⟩
theorem Ends.ite{c:Bool}{a b:Tr}(h1:c=true→Ends X a Q)(h2:c=false→Ends X b Q):Ends X (.ite c a b) Q:=by
 cases c with
 |true=>obtain⟨n,h⟩:=h1 rfl;exact⟨n,.ite (fun _=>h) (fun e=>by cases e)⟩
 |false=>obtain⟨n,h⟩:=h2 rfl;exact⟨n,.ite (fun e=>by cases e) (fun _=>h)⟩
theorem Ends.tt{c:Bool}{a b:Tr}(hc:c=true)(h:Ends X a Q):Ends X (.ite c a b) Q:=Ends.ite (fun _=>h) (fun e=>by rw[hc]at e;cases e)
theorem Ends.ff{c:Bool}{a b:Tr}(hc:c=false)(h:Ends X b Q):Ends X (.ite c a b) Q:=Ends.ite (fun e=>by rw[hc]at e;cases e) (fun _=>h)
noncomputable def stepT(X:A2):Tr→Tr
 | .loop nd ro d f base b st k=>body X nd ro d f base b st k
 | .cut nd ro d f base b st k=>A8 X nd ro d f base b st k
 |t=>t
theorem Ends.step{t:Tr}(h:Ends X (stepT X t) Q):Ends X t Q:=by
 cases t with
 |loop=>obtain⟨n,h⟩:=h;exact⟨n+1,.loop h⟩
 |cut=>obtain⟨n,h⟩:=h;exact⟨n,.cut h⟩
 |_=>exact h
theorem Ends.eq{t t':Tr}(e:t=t')(h:Ends X t' Q):Ends X t Q:=e▸h
theorem Ends.An{t t':Tr}(e:stepT X t=t')(h:Ends X t' Q):Ends X t Q:=Ends.step (e▸h)
def Tr.L:Tr→Tr
 | .ite _ a _=>a
 | .both a _=>a
 |t=>t
def Tr.R:Tr→Tr
 | .ite _ _ b=>b
 | .both _ b=>b
 |t=>t
noncomputable def re:Tr→AD→Tr
 | .loop nd ro d f base b _ k,st=>.loop nd ro d f base b st k
 | .cut nd ro d f base b _ k,st=>.cut nd ro d f base b st k
 |t,_=>t
def Uf:List (FuncId×Az)→FuncId→Option Az
 |[],_=>none
 |(g,s)::l,f=>bif zt g f then some s else Uf l f
def dR:List (FuncId×List Nat)→FuncId→Nat→Bool
 |[],_,_=>false
 |(g,t)::l,f,r=>bif zt g f then t.any (zt r)else dR l f r
def dK:List (FuncId×List (Nat×List (Nat×Sh)))→FuncId→Nat→List (Nat×Sh)
 |[],_,_=>[]
 |(g,t)::l,f,r=>bif zt g f then fz1 t r else dK l f r
 where fz1:List (Nat×List (Nat×Sh))→Nat→List (Nat×Sh)
 |[],_=>[]
 |(i,s)::l,r=>bif zt i r then s else fz1 l r
def ZW:List (FuncId×List (Nat×List Nat))→FuncId→Nat→List Nat
 |[],_,_=>[]
 |(g,t)::l,f,r=>bif zt g f then pl1 t r else ZW l f r
 where pl1:List (Nat×List Nat)→Nat→List Nat
 |[],_=>[]
 |(i,s)::l,r=>bif zt i r then s else pl1 l r
end
noncomputable section
open Go.Proofs.Tryz (prog)
def Ms(C:Ctx)(q:TP):Ctx:=⟨C.T,C.ng,C.fn,C.prim,q,false⟩
theorem Qp{C:Ctx}{P:Program}(hC:C.Ok P){q:TP}(h:Kd P q):(Ms C q).Ok P where
 T:=hC.T
 fn:=hC.fn
 prim:=hC.prim
 spec:=h
theorem Lx{C:Ctx}(hce:Ez C)(q:TP):Ez (Ms C q):=hce
noncomputable def A4:Ctx:=Ms C7 (bW Sc (EO A7))
theorem ZS:A4.Ok prog:=Qp SZ (QO QG gF)
theorem Ua:Ez A4:=Lx IY _
noncomputable def bX:List (FuncId×List (Nat×List Nat)):=
 [(5,[(26,[0,1,5,7,8,76,77]),(23,[0,1,5,7,8,10,12,76,77]),(24,[0,1,5,7,8,10,12,76,77]),(22,[0,1,5,7,8,10,12,76,77]),(21,[0,1,5,7,8,10,76,77]),(17,[0,1,5,7,8,76,77]),(16,[0,1,5,7,8,76,77]),(14,[0,1,5,7,8,46,47]),(12,[0,1,5,7,8,9,46,47]),(9,[0,1,5,7,8,46,47]),(8,[0,1,5,7,8,46,47]),(6,[0,1,5]),(3,[0,1])]),
 (8,[(3,[0,6,7]),(2,[0,6])]),
 (9,[(5,[0,3]),(6,[0,3]),(4,[0,3]),(3,[0])]),
 (10,[(9,[5,6,7]),(6,[5,6,7,8])]),
 (11,[(16,[]),(11,[3,4]),(9,[3,4]),(7,[3,4]),(4,[0,3])]),
 (12,[(23,[10,91,92,93]),(22,[10,91,92,93]),(16,[0,7,10,11,12,13,52,53,54]),(15,[0,7,10,11,12,13,52,53,54]),(7,[0,1,7,32,33,34]),(6,[0,1,7,32,33,34]),(4,[0,1])]),
 (13,[(3,[0,3]),(4,[0,3]),(2,[0,3])]),
 (14,[(14,[]),(8,[0,3,4]),(11,[0,3,4]),(9,[0,3,4]),(7,[0,3,4]),(5,[0]),(3,[0])]),
 (15,[(5,[0,1,5]),(6,[0,1,5]),(4,[0,1,5]),(3,[0,1])]),
 (16,[(18,[7,8,9,11,12]),(19,[7,8,9,11,12]),(17,[7,8,9,11,12]),(15,[7,8,9]),(14,[7,8,9]),(11,[0,1,5,7,8,9,10]),(9,[0,1,5,7,8,9,10]),(5,[0,1,5,6]),(3,[0,1,5,6])]),
 (17,[(12,[0,4,22,23,24]),(11,[0,4,6,22,23,24]),(7,[0,4,22,23,24]),(6,[0,4,22,23,24]),(4,[0])]),
 (18,[(7,[0,3]),(12,[0,3,4]),(13,[0,3,4]),(11,[0,3,4]),(10,[0,3]),(8,[0,3]),(6,[0,3]),(5,[0]),(3,[0])]),
 (38,[(6,[5,6,7]),(3,[5,6,7]),(2,[5,6,7])]),
 (40,[(3,[2,3,4]),(2,[2,3,4])]),
 (41,[(11,[2,4]),(5,[0,2,3,4]),(4,[0,2,3,4])]),
 (44,[(3,[0,3]),(4,[0,3]),(2,[0,3])]),
 (47,[(2,[0,1]),(1,[0,1])]),
 (51,[(7,[6,7,8]),(3,[6,7,8]),(2,[6,7,8])]),
 (52,[(3,[0,3]),(4,[0,3]),(2,[0,3])]),
 (90,[(12,[4,5,14,15]),(6,[2,3,4,5]),(5,[4,5,6,7])]),
 (95,[(3,[1,2,4,5]),(6,[1,2,4,5]),(4,[1,2,4,5]),(2,[1,2,4,5])]),
 (99,[(3,[0,3]),(4,[0,3]),(2,[0,3])]),
 (100,[(6,[0,2,3,4]),(5,[0,2,3,4]),(4,[0,2,3])]),
 (101,[(7,[0,2,3,4,5]),(4,[0,2,3,4]),(3,[0,2,3,4])]),
 (102,[(15,[8,9,10,11,12,13]),(39,[8,9,10,11,12,13,14]),(35,[8,9,10,11,12,13,14,19,20]),(33,[8,9,10,11,12,13,14,19,20]),(20,[8,9,10,11,12,13,14,15,16]),(27,[8,9,10,11,12,13,14,15,16,18]),(21,[8,9,10,11,12,13,14,15,16]),(19,[8,9,10,11,12,13,14,15,16]),(16,[8,9,10,11,12,13]),(14,[8,9,10,11,12,13]),(11,[0,8,9,10,11]),(10,[0,8,9,10,11]),(6,[0,1]),(3,[0,1])]),
 (106,[(16,[0,1,2,6]),(10,[0,1,2,6,7,8]),(9,[0,1,2,6,7,8]),(8,[0,1,2,6]),(7,[0,1,2,6]),(3,[0,1,2,6,7,8]),(2,[0,1,2,6,7,8])]),
 (107,[(4,[1,3])]),
 (141,[(3,[0,2,4]),(7,[0,2,4,5]),(4,[0,2,4]),(2,[0,2,4])]),
 (142,[(3,[0,1]),(2,[0,1]),(1,[0,1])]),
 (143,[(3,[0,1]),(2,[0,1]),(1,[0,1])]),
 (147,[(26,[9,11,12,13,96,97]),(22,[9,11,12,13,96,97]),(21,[9,11,12,13,96,97]),(19,[9,10,11,12,13,14]),(17,[9,10,11,12,13,14]),(11,[0,1]),(9,[0,1,6,7,8]),(7,[0,1,6,7,8]),(3,[0,1])]),
 (150,[(20,[0]),(19,[6]),(16,[5,6,47,48,49]),(15,[5,6,8,47,48,49]),(11,[5,6,47,48,49]),(10,[5,6,47,48,49]),(8,[0,5])]),
 (154,[(8,[1,5,6,7,8,20,21,22,27,28,29]),(7,[1,5,6,7,8,20,21,22,27,28,29]),(4,[1,5,20,21,22]),(3,[1,5,20,21,22])]),
 (155,[(12,[0,1,5,6,21,22]),(11,[0,1,5,6,7,8,21,22]),(7,[0,1,5,6,21,22]),(6,[0,1,5,6,21,22]),(3,[0,1])]),
 (156,[(7,[0,1,5]),(11,[]),(8,[0,1,5]),(6,[0,1,5]),(5,[0,1]),(4,[])]),
 (157,[(10,[0,1,5,6,13,14]),(9,[0,1,5,6,7,8,13,14]),(5,[0,1,5,6,13,14]),(4,[0,1,5,6,13,14])]),
 (158,[(5,[0,3,4]),(3,[0,3,4])]),
 (160,[(7,[0,1,5]),(10,[0,1,5]),(8,[0,1,5]),(6,[0,1,5]),(5,[0,1]),(4,[])]),
 (161,[(6,[0,1,6,7,8]),(4,[0,1,6,7,8])]),
 (162,[(2,[0]),(1,[0])]),
 (163,[(9,[0,1,5,6,7,8]),(7,[0,1,5,6,7,8]),(5,[0,1,5,6]),(3,[0,1,5,6])]),
 (164,[(5,[0,1,2,7,9,10]),(4,[0,1,2,7,9,10])]),
 (165,[(6,[0,1,7,8]),(3,[0,1,7,8]),(2,[0,1,7,8])]),
 (166,[(6,[0,1,2,3,8,9]),(4,[0,1,2,3,8,9]),(3,[0,1,2,3,8]),(1,[0,1,2,3,8])]),
 (196,[(25,[2,8,9,10,14,15,16,17,18]),(24,[2,8,9,10,14,15,16,17,18]),(18,[2,8,9,10,11,13,14,15,16]),(17,[2,8,9,10,11,13,14,15,16]),(7,[0,1,2]),(5,[0,1,2]),(3,[0,1,2])]),
 (197,[(3,[0,3]),(2,[0,3])]),
 (199,[(8,[1,5,12,13,14]),(4,[1,5,12,13,14]),(3,[1,5,12,13,14])]),
 (200,[(29,[0,1,5,6,17,156,157]),(28,[0,1,5,6,17,156,157]),(26,[0,1,5,6]),(16,[0,1,5,6,11,12,104,105]),(15,[0,1,5,6,11,12,104,105]),(11,[0,1,5,6,7]),(9,[0,1,5,6,7]),(8,[0,1,5,6,7,8])])]
noncomputable def X7(l:List (FuncId×Az)):A2:=⟨A4,Uf l,ZW bX,fun _ _=>false,fun _ _=>[],fun _=>none⟩
noncomputable def cA(cs:List (FuncId×List Nat))(fz:List (FuncId×List (Nat×List (Nat×Sh))))(t:List (FuncId×List (Nat×List Nat)))(l:List (FuncId×Az)):A2:=⟨A4,Uf l,ZW (t++bX),dR cs,dK fz,fun _=>none⟩
end
end Go.Pe
end
section
namespace Go.Sp
def first:List Int→Int
 |[]=>0
 |x::l=>if x≠0 then x else first l
def BS(c:Bool)(e:Int):Int:=bif c then e else 0
end Go.Sp
namespace Go.Pe
open Go.Det
noncomputable section
abbrev i64:Sh:=.int .i64
abbrev MP:Sh:=.list (.int .i64)
noncomputable def DN:Az:=⟨[MP],fun l=>decide (l.length≤1000000),[i64],fun l=>Sp.first l,false⟩
noncomputable def Ih:Az:=⟨[.bool,i64],fun _=>true,[i64],fun i=>Sp.BS i.1 i.2,false⟩
noncomputable def Sw:A2:=X7 []
end
end Go.Pe
end
section
namespace Go.Sp
end Go.Sp
end
section
namespace Go.Pe
open Go.Det
noncomputable section
noncomputable def C6:Az:=⟨[.str],fun s=>decide (s.length≤1000000),[.bool],fun s=>zB s,false⟩
end
noncomputable section
open List Int Prod
namespace T8
def T(s:List UInt8):Tr:=tree Sw false 9 8 (Ah ([Sh.str]) s)
def L1(v0 o0:List UInt8):Tr:=re ((T [])) (AB 37 [(0,.dat Sh.str v0),(6,.ptr 0 0)] [(0,zF o0 0)] 1)
theorem Ay(s:List UInt8):T s=L1 s s:=by kernel_rfl
def L2(v0 o0:List UInt8)(o0p:Nat):Tr:=re ((stepT Sw (L1 [] [])).L.L.L) (AB 37 [(0,.dat Sh.str v0),(6,.ptr 0 0)] [(0,zF o0 o0p)] 1)
theorem Ap(v0 o0:List UInt8):stepT Sw (L1 v0 o0)=let b':=zG 0 (HI o0 0);let c':Tr:=.leaf (.bl false) ([(0,zF o0 b')]);let a':Tr:=.ite true c' (.ite (rune o0 0 !=95) (.ite (decide (rune o0 0<48)) c' (.ite (decide (rune o0 0>57)) c' (L2 v0 o0 b'))) (L2 v0 o0 b'));let d':Tr:=.ite (decide (rune o0 0≥65)) (.ite (!decide (rune o0 0≤90)) a' (L2 v0 o0 b')) a';.ite (decide (0<length o0)) (.ite (decide (rune o0 0≥97)) (.ite (decide (rune o0 0≤122)) (L2 v0 o0 b') d') d') (.ite (!v0==[]) (.leaf (.dat Sh.bool (decide ((length v0:Int)≤24))) ([(0,zF o0 0)])) (.leaf (.bl false) ([(0,zF o0 0)]))):=by kernel_rfl
theorem AS(v0 o0:List UInt8)(o0p:Nat):stepT Sw (L2 v0 o0 o0p)=let b':=zG o0p (HI o0 o0p);let e':=[(0,zF o0 o0p)];let d':Tr:=.leaf (.bl false) ([(0,zF o0 b')]);let a':Tr:=.ite ((↑o0p:Int)==0) d' (.ite (rune o0 o0p !=95) (.ite (decide (rune o0 o0p<48)) d' (.ite (decide (rune o0 o0p>57)) d' (L2 v0 o0 b'))) (L2 v0 o0 b'));let c':Tr:=.ite (decide (rune o0 o0p≥65)) (.ite (!decide (rune o0 o0p≤90)) a' (L2 v0 o0 b')) a';.ite (decide (o0p<length o0)) (.ite (decide (rune o0 o0p≥97)) (.ite (decide (rune o0 o0p≤122)) (L2 v0 o0 b') c') c') (.ite (!v0==[]) (.leaf (.dat Sh.bool (decide ((length v0:Int)≤24))) e') (.leaf (.bl false) e')):=by kernel_rfl
end T8
namespace T9
def T(s:List UInt8):Tr:=tree Sw false 9 9 (Ah ([Sh.str]) s)
def L1(v0:List UInt8)(v3:Int):Tr:=re ((T []).R.R) (AB 56 [(0,.dat Sh.str v0),(3,.dat i64 v3)] [] 0)
theorem Ay(s:List UInt8):T s=.ite (decide ((length s:Int)<1)) (.leaf (.bl false) []) (.ite (decide ((length s:Int)>24)) (.leaf (.bl false) []) (L1 s 0)):=by kernel_rfl
theorem Ap(v0:List UInt8)(v3:Int):stepT Sw (L1 v0 v3)=let b':=(↑(UInt8.toNat (getD v0 (toNat v3) (0:UInt8))):Int);let c':=L1 v0 (zc .i64 (v3+1));let e':Tr:=.leaf (.bl false) [];let f':=decide (v3<(length v0:Int));let a':Tr:=.ite (v3==0) e' (.ite (decide (b'≥48)) (.ite (decide (b'≤57)) c' (.ite (!b'==95) e' c')) (.ite (!b'==95) e' c'));let d':Tr:=.ite (decide (b'≥65)) (.ite (!decide (b'≤90)) a' c') a';.ite (f') (.ite (decide (0≤v3)&&f') (.ite (decide (b'≥97)) (.ite (decide (b'≤122)) c' d') d') .fail) (.leaf (.bl true) []):=by kernel_rfl
end T9
end
section
variable {X:A2}{Q:PV→Ob→Prop}
@[simp] theorem TA:Ends X .fail Q↔False:=⟨fun⟨_,h⟩=>zp h,fun h=>h.elim⟩
@[simp] theorem Dn{v:PV}{ob:Ob}:Ends X (.leaf v ob) Q↔Q v ob:=⟨fun⟨_,h⟩=>h.RU,fun h=>.leaf h⟩
@[simp] theorem CI{c:Bool}{a b:Tr}:Ends X (.ite c a b) Q↔if c=true then Ends X a Q else Ends X b Q:=by
 constructor
 ·rintro⟨n,h⟩;rcases h.Dt with⟨hc,h⟩|⟨hc,h⟩
  ·rw[if_pos hc];exact⟨n,h⟩
  ·rw[if_neg (by simp[hc])];exact⟨n,h⟩
 ·intro h;refine .ite (fun hc=>?_) (fun hc=>?_)
  ·rwa [if_pos hc]at h
  ·rwa [if_neg (by simp[hc])]at h
theorem Af.of{sp:Az}{i:(Bb sp.ins).T}{v:PV}{ob:Ob}{c:Bool}{y:(Bb sp.outs).T}(h:V2 sp.outs v ob=some (c,y))(hc:c=true)(hy:y=sp.f i):Af sp i v ob:=⟨y,by rw[h,hc],hy⟩
@[simp] theorem Q8(s:Sh)(x:List s.T):Jc (Sh.leaves (.list s)) [.dat (.list s) x]=(true,[.dat (.list s) x]):=rfl
theorem wr(x:Int)(h1: -9223372036854775808≤x)(h2:x≤9223372036854775807):zc .i64 x=x:=IntWalk.i64_in x ⟨h1,h2⟩
theorem drop_cons{α:Type}{l r:List α}{x d:α}{i:Nat}(h:l.drop i=x::r):i<l.length∧l.getD i d=x∧l.drop (i+1)=r:=by
 have hlt:i<l.length:=by
  rcases Nat.lt_or_ge i l.length with h1|h1
  ·exact h1
  ·rw[List.drop_eq_nil_of_le h1]at h;cases h
 have h2:=zy hlt;rw[h]at h2;simp only[zE]at h2;exact⟨hlt,by simp[hlt,h2.1],h2.2.symm⟩
end
theorem VT:∀g sp,Sw.sp g=some sp→Ac A4 g sp:=fun g sp h=>by cases h
theorem AJ{X:A2}(hX:X.C=A4)(hall:∀g sp,X.sp g=some sp→Ac A4 g sp){f:FuncId}{sp:Az}{d:Nat}(hsp:A4.spec f=none)(hprim:A4.prim f=none)(hno:X.sp f=none)
  (hev:∀i,sp.pre i=true→Ends X (tree X sp.nd d f (Ah sp.ins i)) (Af sp i)) (hfn:∃i,A4.fn f=some i) (hws:∀g w,X.ws g=some w→KP A4 g w:=by intro _ _ h;cases h):Ac A4 f sp:=by
 have hmg:X.C.mg=false:=by rw[hX];rfl
 rw[←hX]at*;exact Ub hmg hall hws hsp hprim hno hev hfn
theorem Ad{α:Type}{o:Option α}(h:o.isSome=true):∃i,o=some i:=Option.isSome_iff_exists.1 h
theorem drop_nil{α:Type}{l:List α}{i:Nat}(h:l.drop i=[])(hi:i≤l.length):i=l.length:=by
 have:=congrArg List.length h;simp at this;omega
theorem Eg{α:Type}{l r:List α}{x:α}{i:Nat}(h:l.drop i=x::r):x∈l:=by
 have:x∈l.drop i:=by rw[h];simp
 exact List.mem_of_mem_drop this
theorem K4(c:Int):zn c=true↔(97≤c∧c≤122)∨(65≤c∧c≤90)∨(48≤c∧c≤57)∨c=95:=by
 simp[zn,zl,or_assoc]
theorem H7(c:Int):zl c=true↔(97≤c∧c≤122)∨(65≤c∧c≤90):=by
 simp[zl]
namespace T8
variable {Q:PV→Ob→Prop}
theorem loop(s:List UInt8)(hne:s≠[]):∀(r:List UInt8) (i:Nat),s.drop i=r→i≤s.length→1≤i→
  ((r.all fun c=>zn (c.toNat:Int))=false→∀ob,Q (.bl false) ob)→((r.all fun c=>zn (c.toNat:Int))=true→∀ob,Q (.dat .bool (decide ((s.length:Int)≤24))) ob)→Ends Sw (L2 s s i) Q
 |[],i,h,hi,h1,hf,ht=>by
  have:=drop_nil h hi;refine Ends.An (AS ..) (Ends.ff (by simp;omega) (Ends.tt (by simpa using hne) ?_));exact Ends.leaf (ht rfl _)
 |x::r,i,h,hi,h1,hf,ht=>by
  obtain⟨g1,g2,g3⟩:=drop_cons (d:=0) h;refine Ends.An (AS ..) (Ends.tt (by simpa using g1) ?_);have hn:((i:Int)==0)=false:=by simp;omega
  simp only[CI,Dn,hn,Bool.false_eq_true,if_false,decide_eq_true_eq,zx,decide_eq_false_iff_not,bne_iff_ne,ne_eq];have step:zn (x.toNat:Int)=true→HI s i=1→Ends Sw (L2 s s (zG i (HI s i))) Q:=by
   intro hm hw;rw[hw];refine loop s hne r (i+1) g3 g1 (by omega) (fun e=>hf (by simp[e])) (fun e=>ht (by simp[e];exact hm))
  have no:zn (x.toNat:Int)=false→∀ob,Q (.bl false) ob:=fun hm=>hf (by simp[hm])
  by_cases hl:(s.getD i 0).toNat<128
  ·obtain⟨e1,e2⟩:=Qe g1 hl;rw[e1,g2];have mi:=K4 (x.toNat:Int);generalize ((x.toNat:Nat):Int)=c at mi step no ⊢;by_cases hm:zn c=true
   ·have:=mi.1 hm;repeat' split
    all_goals first|exact step hm e2|(exfalso;omega)
   ·have hm2:zn c=false:=by simpa using hm
    have:¬_:=fun h=>hm (mi.2 h)
    repeat' split
    all_goals first|exact no hm2 _|(exfalso;omega)
  ·have hr:=ND g1 (by omega);have hx:zn (x.toNat:Int)=false:=by
    have:¬zn (x.toNat:Int)=true:=fun h=>by
     have:=(K4 _).1 h;rw[g2]at hl;omega
    simpa using this
   repeat' split
   all_goals first|exact no hx _|(exfalso;omega)
end T8
theorem T8.ok:Ac A4 8 C6:=by
 refine AJ (X:=Sw) rfl VT (d:=9) (by kernel_rfl) (by kernel_rfl) rfl (fun(s:List UInt8) hl=>?_) (Ad (by kernel_rfl));have hl:s.length≤1000000:=by simpa [C6]using hl
 have hQ:∀v b,v=.bl b∨v=.dat .bool b→b=zB s→∀ob,Af C6 s v ob:=by
  rintro v b (rfl|rfl) hb ob
  ·exact Af.of rfl rfl hb
  ·exact Af.of rfl rfl hb
 refine Ends.eq (T8.Ay s) ?_;conv=>zeta
 refine Ends.An (T8.Ap ..) ?_;conv=>zeta
 cases s with
 |nil=>
  refine Ends.ff (by simp) (Ends.ff (by simp) ?_);exact Ends.leaf (hQ _ _ (.inl rfl) rfl _)
 |cons x r=>
  refine Ends.tt (by simp) ?_;simp only[CI,Dn,decide_eq_true_eq,zx,decide_eq_false_iff_not,bne_iff_ne,ne_eq,if_true];have step:zl (x.toNat:Int)=true→HI (x::r) 0=1→Ends Sw (T8.L2 (x::r) (x::r) (zG 0 (HI (x::r) 0))) (Af C6 (x::r)):=by
   intro hm hw;rw[hw];refine T8.loop (x::r) (by simp) r 1 rfl (by simp) (by omega) (fun e=>hQ _ _ (.inl rfl) ?_) (fun e=>hQ _ _ (.inr rfl) ?_)
   ·simp[zB,e]
   ·simp only[zB,e,hm,zM,List.length_cons];congr 1;apply propext;push_cast;omega
  have no:zl (x.toNat:Int)=false→∀ob,Af C6 (x::r) (.bl false) ob:=fun hm=>hQ _ _ (.inl rfl) (by simp[zB,hm])
  have g0:(x::r).getD 0 0=x:=rfl;by_cases hl:((x::r).getD 0 0).toNat<128
  ·obtain⟨e1,e2⟩:=Qe (s:=x::r) (i:=0) (by simp) hl;rw[e1,g0];have mi:=H7 (x.toNat:Int);generalize ((x.toNat:Nat):Int)=c at mi step no ⊢;by_cases hm:zl c=true
   ·have:=mi.1 hm;repeat' split
    all_goals first|exact step hm e2|(exfalso;omega)
   ·have hm2:zl c=false:=by simpa using hm
    have:¬_:=fun h=>hm (mi.2 h)
    repeat' split
    all_goals first|exact no hm2 _|(exfalso;omega)
  ·have hr:=ND (s:=x::r) (i:=0) (by simp) (by omega);have hx:zl (x.toNat:Int)=false:=by
    have:¬zl (x.toNat:Int)=true:=fun h=>by
     have:=(H7 _).1 h;rw[g0]at hl;omega
    simpa using this
   repeat' split
   all_goals first|exact no hx _|(exfalso;omega)
namespace T9
variable {Q:PV→Ob→Prop}
theorem loop(s:List UInt8)(hl:s.length≤24):∀(r:List UInt8) (i:Nat),s.drop i=r→i≤s.length→
  (((decide (1≤i)||zl ((r.headD 97).toNat:Int))&&(r.all fun c=>zn (c.toNat:Int)))=false→Q (.bl false) [])→(((decide (1≤i)||zl ((r.headD 97).toNat:Int))&&(r.all fun c=>zn (c.toNat:Int)))=true→Q (.bl true) [])→Ends Sw (L1 s i) Q
 |[],i,h,hi,hf,ht=>by
  have:=drop_nil h hi;refine Ends.An (Ap ..) (Ends.ff (by simp;omega) ?_);exact Ends.leaf (ht (by simp;exact .inr (by decide)))
 |x::r,i,h,hi,hf,ht=>by
  obtain⟨g1,g2,g3⟩:=drop_cons (d:=0) h;refine Ends.An (Ap ..) ?_;conv=>zeta
  simp only[zH,g2];rw[wr _ (by omega) (by omega)];have mi:=K4 (x.toNat:Int);have li:=H7 (x.toNat:Int);have step:(1≤i∨zl (x.toNat:Int)=true)→zn (x.toNat:Int)=true→Ends Sw (L1 s ((i:Int)+1)) Q:=by
   intro hm hk;have e:((i:Int)+1)=((i+1:Nat):Int):=by push_cast;rfl
   rw[e];refine loop s hl r (i+1) g3 g1 (fun e=>hf ?_) (fun e=>ht ?_)
   ·simp only[zz,hk,Bool.true_and];have:(r.all fun c=>zn (c.toNat:Int))=false:=by simpa using e
    rw[this,Bool.and_false]
   ·have:(r.all fun c=>zn (c.toNat:Int))=true:=by simpa using e
    simp only[zz,hk,this,zM,Bool.or_eq_true,decide_eq_true_eq,zK];exact hm
  have no:(¬(1≤i∨zl (x.toNat:Int)=true)∨zn (x.toNat:Int)=false)→Q (.bl false) []:=by
   intro hm;refine hf ?_;simp only[zK,zz];rcases hm with hm|hm
   ·have:(decide (1≤i)||zl (x.toNat:Int))=false:=by
     rw[Bool.eq_false_iff];intro h;apply hm;simpa using h
    rw[this,Bool.false_and]
   ·rw[hm,Bool.false_and,Bool.and_false]
  generalize ((x.toNat:Nat):Int)=c at mi li step no ⊢;by_cases hm:zn c=true
  ·have hm1:=mi.1 hm;by_cases hlt:1≤i∨zl c=true
   ·have hl2:1≤i∨(97≤c∧c≤122)∨(65≤c∧c≤90):=hlt.imp id li.1;repeat' (with_reducible refine Ends.ite (fun _=>?_) (fun _=>?_))
    all_goals first|with_reducible exact step hlt hm|(exfalso;simp only[decide_eq_true_eq,decide_eq_false_iff_not,zx,ze,zC,beq_iff_eq,beq_eq_false_iff_ne,ne_eq]at*;omega)
   ·have hl2:¬(1≤i∨(97≤c∧c≤122)∨(65≤c∧c≤90)):=fun h=>hlt (h.imp id li.2)
    repeat' (with_reducible refine Ends.ite (fun _=>?_) (fun _=>?_))
    all_goals first|with_reducible exact Ends.leaf (no (.inl hlt))|(exfalso;simp only[decide_eq_true_eq,decide_eq_false_iff_not,zx,ze,zC,beq_iff_eq,beq_eq_false_iff_ne,ne_eq,Bool.not_eq_false']at*;omega)
  ·have hm2:zn c=false:=by simpa using hm
   have hm1:¬_:=fun h=>hm (mi.2 h)
   repeat' (with_reducible refine Ends.ite (fun _=>?_) (fun _=>?_))
   all_goals first|with_reducible exact Ends.leaf (no (.inr hm2))|(exfalso;simp only[decide_eq_true_eq,decide_eq_false_iff_not,zx,ze,zC,beq_iff_eq,beq_eq_false_iff_ne,ne_eq,Bool.not_eq_false']at*;omega)
theorem ok:Ac A4 9 C6:=by
 refine AJ (X:=Sw) rfl VT (d:=9) (by kernel_rfl) (by kernel_rfl) rfl (fun(s:List UInt8) hl=>?_) (Ad (by kernel_rfl));have hQ:∀b,b=zB s→Af C6 s (.bl b) []:=fun b hb=>Af.of rfl rfl hb
 refine Ends.eq (Ay s) ?_;conv=>zeta
 rw[CI];cases s with
 |nil=>rw[if_pos (by simp),Dn];exact hQ _ rfl
 |cons x r=>
  rw[if_neg (by simp;omega),CI];by_cases h:(x::r).length≤24
  ·rw[if_neg (by simp at h ⊢;omega)];have h23:decide (r.length≤23)=true:=by simp at h ⊢;omega
   have key:zB (x::r)=((decide (1≤0)||zl (((x::r).headD 97).toNat:Int))&&((x::r).all fun c=>zn (c.toNat:Int))):=by
    simp only[zB,h23,zK,zz,Bool.true_and];cases hlx:zl (x.toNat:Int)with
    |false=>simp
    |true=>
     have:zn (x.toNat:Int)=true:=by unfold zn;rw[hlx];rfl
     simp[this]
   exact loop (x::r) h (x::r) 0 rfl (by simp) (fun e=>hQ _ (by rw[key];exact e.symm)) (fun e=>hQ _ (by rw[key];exact e.symm))
  ·rw[if_pos (by simp at h ⊢;omega),Dn];exact hQ _ (by simp only[zB];rw[decide_eq_false (by simp at h;omega)];rfl)
end T9
theorem Fa{α:Type}{l r:List α}{x:α}{i:Nat}(h:l.drop i=x::r):l.take (i+1)=l.take i++[x]:=by
 have h1:=(drop_cons (d:=x) h).1;have h2:=(drop_cons (d:=x) h).2.1;rw[List.take_add_one];congr 1;have:l[i]?=some x:=by
  have e:=zm h1;rw[e];simp only[List.getD,e,Option.getD_some]at h2;rw[h2]
 rw[this];rfl
theorem Ab{C:Ctx}{g0:FuncId}{s0:Az}{l:List (FuncId×Az)}(h0:Ac C g0 s0)(hl:∀g sp,Uf l g=some sp→Ac C g sp):∀g sp,Uf ((g0,s0)::l) g=some sp→Ac C g sp:=by
 intro g sp h;unfold Uf at h;cases h1:zt g0 g with
 |true=>rw[h1]at h;cases h;have:=zu h1;subst this;exact h0
 |false=>rw[h1]at h;exact hl g sp h
end Go.Pe
end
section
namespace Go.Sp
end Go.Sp
namespace Go.Pe
open Go.Det
noncomputable section
end
end Go.Pe
end
section
namespace Go.Sp
end Go.Sp
namespace Go.Pe
open Go.Det
end Go.Pe
namespace Go.Sp
end Go.Sp
namespace Go.Pe
open Go.Det
end Go.Pe
end
section
namespace Go.Sp
end Go.Sp
namespace Go.Pe
open Go.Det
section gen
variable {X:A2}{Q:PV→Ob→Prop}
end gen
end Go.Pe
end
section
namespace Go.Sp
end Go.Sp
namespace Go.Pe
open Go.Det
noncomputable section
end
end Go.Pe
end
section
namespace Go.Sp
end Go.Sp
end
section
namespace Go.Pe
open Go.Det
theorem Eb{f:FuncId}{s t:List Sh}{g:(Bb s).T→(Bb t).T}{nd:Bool}(hprim:A4.prim f=none)(hfn:∃i,A4.fn f=some i):Ac A4 f ⟨s,fun _=>false,t,g,nd⟩:=
 .eW ⟨hprim,hfn,fun F h args i _ _ _ _ hp=>by cases hp⟩
theorem BZ{α:Type}(A B:List α)(x d:α){n:Nat}(h:A.length=n):(A++x::B).getD n d=x:=by
 subst h;simp[List.getD]
theorem BT{α:Type}(A B:List α)(x y:α){n:Nat}(h:A.length=n):(A++x::B).set n y=A++y::B:=by
 subst h;simp
end Go.Pe
end
section
namespace Go.Sp
open Go.Pe (Dr imax)
theorem WN(a b:Int):Dr a b=min a b:=by unfold Dr;split<;>omega
end Go.Sp
end
section
namespace Go.Sp
end Go.Sp
namespace Go.Pe
open Go.Det
noncomputable section
end
end Go.Pe
end
section
namespace Go.Sp
abbrev Aj:Nat:=18446744073709551616
abbrev Ba:=Int×List Int
def B2(l:List Int):Bool:=decide (l.length≤20000)&&l.all fun d=>decide (0≤d)&&decide (d<18446744073709551616)
def hW(l:List Int):Bool:=B2 l&&decide (l.length≤9000)
def ZM(l:List Int):Bool:=decide (l.getLast?≠some 0)
def By(l:List Int):Bool:=B2 l&&ZM l
def Ai(l:List Int):Int:=val Aj l
def Br(n:Int):List Int:=dg Aj n
def u64(n:Int):Bool:=decide (0≤n)&&decide (n<18446744073709551616)
def Hz(n:Int):Bool:=decide (-9223372036854775808≤n)&&decide (n<9223372036854775808)
def Ag(n:Int):Int:=if n<0 then -n else n
theorem Ar(n:Int):Ag n=(n.natAbs:Int):=by unfold Ag;split<;>omega
def vI(a:Ba):Int:=if a.2=[]then a.1 else if a.1<0 then -Ai a.2 else Ai a.2
def EB(a:Ba):Bool:=Hz a.1&&(decide (a.2=[])||(By a.2&&(decide (a.1=1)||decide (a.1= -1))&&decide (9223372036854775808≤Ai a.2)))
def B7(n:Int):Ba:=if -9223372036854775808<n∧n<9223372036854775808 then(n,[])else(if n<0 then -1 else 1,Br (Ag n))
def BY(n:Int):Int:=(B7 n).1
def BR(n:Int):List Int:=(B7 n).2
def sg(neg:Bool)(v:Int):Int:=if neg=true then -v else v
def F6(x y c:Int):Int:=(x+y+c) % 18446744073709551616
def Mz(x y c:Int):Int:=(x+y+c)/18446744073709551616
def Pd(x y c:Int):Int:=(x-y-c) % 18446744073709551616
def MM(x y c:Int):Int:=if x<y+c then 1 else 0
def Gf(x y:Int):Int:=(x*y) % 18446744073709551616
def NN(x y:Int):Int:=(x*y)/18446744073709551616
def BO(a b:Int):Int:=if a<b then -1 else if a>b then 1 else 0
def W1(n:Int):Int:=if n<0 then -1 else if n>0 then 1 else 0
def Fx(a b:Ba):Ba:=if a.2=[]∧b.2=[]∧Hz (a.1+b.1)=true then(a.1+b.1,[])else B7 (vI a+vI b)
def En(a:Ba):Ba:=if a.2=[]∧a.1≠ -9223372036854775808 then(-a.1,[])else B7 (-vI a)
def QF(a:Ba):Ba:=if a.1<0 then En a else a
def Ke(a b:Ba):Ba:=Fx a (En b)
def UJ(a b:Ba):Ba:=B7 (vI a*vI b)
def GM(a:Ba):Int:=(En a).1
def Gq(a:Ba):List Int:=(En a).2
def L0(a:Ba):Int:=(QF a).1
def Ll(a:Ba):List Int:=(QF a).2
def JS(a b:Ba):Int:=(Fx a b).1
def J4(a b:Ba):List Int:=(Fx a b).2
def VD(a b:Ba):Int:=(Ke a b).1
def Wn(a b:Ba):List Int:=(Ke a b).2
def HE(a b:Ba):Int:=(UJ a b).1
def HJ(a b:Ba):List Int:=(UJ a b).2
end Go.Sp
namespace Go.Pe
open Sp
open Go.Det
noncomputable section
abbrev BJ:Sh:=.pair (.int .i64) (.nlist (.int .u64))
abbrev u64:Sh:=.int .u64
abbrev Cp:Sh:=.list (.int .u64)
noncomputable def Rm:Az:=⟨[u64,u64,u64],fun i=>Sp.u64 i.1&&Sp.u64 i.2.1&&decide (0≤(i.2.2:Int))&&decide ((i.2.2:Int)≤1),[u64,u64],fun i=>(F6 i.1 i.2.1 i.2.2,Mz i.1 i.2.1 i.2.2),false⟩
noncomputable def Rf:Az:=⟨[u64,u64,u64],fun i=>Sp.u64 i.1&&Sp.u64 i.2.1&&decide (0≤(i.2.2:Int))&&decide ((i.2.2:Int)≤1),[u64,u64],fun i=>(Pd i.1 i.2.1 i.2.2,MM i.1 i.2.1 i.2.2),false⟩
noncomputable def N7:Az:=⟨[u64,u64],fun i=>Sp.u64 i.1&&Sp.u64 i.2,[u64,u64],fun i=>(NN i.1 i.2,Gf i.1 i.2),false⟩
noncomputable def RQ:Az:=⟨[i64],fun n=>Hz n,[u64],fun n=>Ag n,false⟩
noncomputable def QV:Az:=⟨[BJ],fun a=>EB a,[.bool,Cp],fun a=>(decide (Sp.vI a<0),Br (Ag (Sp.vI a))),false⟩
noncomputable def Vq:Az:=⟨[.bool,Cp],fun i=>By i.2,[BJ],fun i=>(BY (Sp.sg i.1 (Ai i.2)),BR (Sp.sg i.1 (Ai i.2))),false⟩
noncomputable def RT:Az:=⟨[Cp],fun l=>B2 l,[Cp],fun l=>Ax l,false⟩
noncomputable def SL:Az:=⟨[Cp,Cp],fun i=>By i.1&&By i.2,[i64],fun i=>BO (Ai i.1) (Ai i.2),false⟩
noncomputable def Wo:Az:=⟨[Cp,Cp],fun i=>Sp.hW i.1&&Sp.hW i.2,[Cp],fun i=>Br (Ai i.1+Ai i.2),false⟩
noncomputable def Vu:Az:=⟨[Cp,Cp],fun i=>B2 i.1&&B2 i.2&&decide (Ai i.2≤Ai i.1),[Cp],fun i=>Br (Ai i.1-Ai i.2),false⟩
noncomputable def VH:Az:=⟨[Cp,Cp],fun i=>Sp.hW i.1&&Sp.hW i.2,[Cp],fun i=>Br (Ai i.1*Ai i.2),false⟩
noncomputable def Pn:A2:=X7 []
noncomputable def Je:A2:=X7 [(153,RQ),(206,Rm),(207,Rf),(197,RT),(152,N7)]
noncomputable def aZ:A2:=X7 [(146,QV),(148,Vq),(155,Wo),(157,Vu),(156,SL),(154,VH),(152,N7),(153,RQ)]
end
end Go.Pe
end
section
namespace Go.Pe
open Sp
open Go.Det
theorem Nq{F:Fz}{x y c:Int}{args:List V}(h:J8 F (Ah [Pe.u64,Pe.u64,Pe.u64] (x,y,c)) args):args=[.int .u64 x,.int .u64 y,.int .u64 c]:=by
 have:=h (fun _=>none) 0;simp only[Ah,Bz,AW]at this;obtain⟨a,as1,rfl,h1,b,as2,rfl,h2,d,as3,rfl,h3,rfl⟩:=this;simp only[PR,DC,zE,and_true]at h1 h2 h3;rw[h1,h2,h3]
theorem AM{n:Int}(h:Sp.u64 n=true):0≤n∧n<18446744073709551616:=by
 unfold Sp.u64 at h;rw[ze,decide_eq_true_eq,decide_eq_true_eq]at h;exact h
namespace T206
theorem ok:Ac A4 206 Rm:=by
 refine .inr ⟨PK.add64.run,by kernel_rfl,fun F h args i ha hp=>?_⟩;obtain⟨x,y,c⟩:=i;have hp:(Sp.u64 x&&Sp.u64 y&&decide (0≤c)&&decide (c≤1))=true:=hp;rw[ze,ze,ze,decide_eq_true_eq,decide_eq_true_eq]at hp;obtain⟨⟨⟨hx,hy⟩,c0⟩,c1⟩:=hp;have hx:=AM hx;have hy:=AM hy;have:=Nq ha;subst this;obtain⟨a,rfl⟩:=zj hx.1;obtain⟨b,rfl⟩:=zj hy.1;obtain⟨d,rfl⟩:=zj c0;have c1:(d:Int)≤1:=c1;have hd:zN d 1=true:=Nat.ble_eq_true_of_le (by omega);refine⟨.tup [.int .u64 (.ofNat ((a+b+d) % UE)),.int .u64 (.ofNat ((a+b+d)/UE))],?_,fun ρ N=>?_⟩
 ·show(bif zN d 1 then _ else _)=_;rw[hd];rfl
 ·show PR F ρ N (.tup [.dat Pe.u64 (F6 a b d),.dat Pe.u64 (Mz a b d)]) _;simp only[PR,AW];refine⟨_,rfl,_,_,rfl,?_,_,_,rfl,?_,rfl⟩<;>simp[DC,UE,F6,Mz]
end T206
namespace T207
theorem ok:Ac A4 207 Rf:=by
 refine .inr ⟨PK.sub64.run,by kernel_rfl,fun F h args i ha hp=>?_⟩;obtain⟨x,y,c⟩:=i;have hp:(Sp.u64 x&&Sp.u64 y&&decide (0≤c)&&decide (c≤1))=true:=hp;rw[ze,ze,ze,decide_eq_true_eq,decide_eq_true_eq]at hp;obtain⟨⟨⟨hx,hy⟩,c0⟩,c1⟩:=hp;have hx:=AM hx;have hy:=AM hy;have:=Nq ha;subst this;obtain⟨a,rfl⟩:=zj hx.1;obtain⟨b,rfl⟩:=zj hy.1;obtain⟨d,rfl⟩:=zj c0;have c1:(d:Int)≤1:=c1;have hd:zN d 1=true:=Nat.ble_eq_true_of_le (by omega);refine⟨.tup [.int .u64 (.ofNat ((a+UE-b-d) % UE)),.int .u64 (.ofNat (bif Nat.blt a (b+d)then 1 else 0))],?_,fun ρ N=>?_⟩
 ·show(bif zN d 1 then _ else _)=_;rw[hd];rfl
 ·show PR F ρ N (.tup [.dat Pe.u64 (Pd a b d),.dat Pe.u64 (MM a b d)]) _;simp only[PR,AW];refine⟨_,rfl,_,_,rfl,?_,_,_,rfl,?_,rfl⟩
  ·simp only[DC,UE,Pd,zE,V.int.injEq,and_true,true_and];have e:(((a+18446744073709551616-b-d) % 18446744073709551616:Nat):Int)=((a:Int)-b-d) % 18446744073709551616:=by omega
   exact e
  ·simp only[DC,MM,zE,V.int.injEq,and_true,true_and];rw[Fk];by_cases hlt:a<b+d
   ·rw[if_pos (by omega)];simp[hlt]
   ·rw[if_neg (by omega)];simp[hlt]
end T207
end Go.Pe
end
section
namespace Go.Sp
theorem Av(b:Int):∀(l:List Int) (i:Nat),val b (l.take (i+1))=val b (l.take i)+b^i*l.getD i 0
 |[],i=>by simp[val]
 |x::l,0=>by
  show x+b*val b (l.take 0)=0+b^0*x;simp[val]
 |x::l,i+1=>by
  have:=Av b l i;show x+b*val b (l.take (i+1))=x+b*val b (l.take i)+b^(i+1)*l.getD i 0;rw[this,Int.mul_add,Int.pow_succ,Int.mul_comm (b^i) b,Int.mul_assoc,Int.add_assoc]
theorem GL{l:List Int}(h:B2 l=true):l.length≤20000∧As Aj l:=by
 unfold B2 at h;rw[ze,decide_eq_true_eq,List.all_eq_true]at h;exact⟨h.1,fun d hd=>by
  have:=h.2 d hd;rw[ze,decide_eq_true_eq,decide_eq_true_eq]at this;exact this⟩
theorem Da{l:List Int}(h1:l.length≤20000)(h2:As Aj l):B2 l=true:=by
 unfold B2;rw[ze,decide_eq_true_eq,List.all_eq_true];exact⟨h1,fun d hd=>by
  have:=h2 d hd;rw[ze,decide_eq_true_eq,decide_eq_true_eq];exact this⟩
theorem Sm{l:List Int}(h:hW l=true):l.length≤9000∧As Aj l:=by
 unfold hW at h;rw[ze,decide_eq_true_eq]at h;exact⟨h.2,(GL h.1).2⟩
theorem AI{l:List Int}(h:As Aj l)(i:Nat):u64 (l.getD i 0)=true:=by
 unfold u64;rw[ze,decide_eq_true_eq,decide_eq_true_eq];rcases Nat.lt_or_ge i l.length with hi|hi
 ·have:l.getD i 0∈l:=by rw[zk,zm hi];exact List.getElem_mem hi
  exact h _ this
 ·rw[zk,List.getElem?_eq_none hi];exact⟨by decide,by decide⟩
theorem AM{n:Int}(h:u64 n=true):0≤n∧n<18446744073709551616:=by
 unfold u64 at h;rw[ze,decide_eq_true_eq,decide_eq_true_eq]at h;exact h
theorem BV{n:Int}(h1:0≤n)(h2:n<18446744073709551616):u64 n=true:=by
 unfold u64;rw[ze,decide_eq_true_eq,decide_eq_true_eq];exact⟨h1,h2⟩
theorem CV{l:List Int}{x:Int}(h:As Aj l)(hx:u64 x=true):As Aj (l++[x]):=by
 intro d hd;rw[zD,zf]at hd;rcases hd with hd|rfl
 ·exact h d hd
 ·exact AM hx
theorem Ik{x y c:Int}(hx:u64 x=true)(hy:u64 y=true)(hc:0≤c∧c≤1):u64 (F6 x y c)=true∧(0≤Mz x y c∧Mz x y c≤1)∧F6 x y c+18446744073709551616*Mz x y c=x+y+c:=by
 have:=AM hx;have:=AM hy;unfold F6 Mz;exact⟨BV (by omega) (by omega),⟨by omega,by omega⟩,by omega⟩
theorem Lq{x y c:Int}(hx:u64 x=true)(hy:u64 y=true)(hc:0≤c∧c≤1):u64 (Pd x y c)=true∧(0≤MM x y c∧MM x y c≤1)∧Pd x y c-18446744073709551616*MM x y c=x-y-c:=by
 have:=AM hx;have:=AM hy;unfold Pd MM;refine⟨BV (by omega) (by omega),?_,?_⟩<;>split<;>omega
theorem DB(l:List Int)(x:Int):val Aj (l++[x])=val Aj l+(Aj:Int)^l.length*x:=by
 rw[B4];simp[val]
theorem IF(i:Nat)(c:Int):(Aj:Int)^(i+1)*c=(Aj:Int)^i*(18446744073709551616*c):=by
 rw[Int.pow_succ,Int.mul_assoc];rfl
theorem Hl(p:List Int)(n i:Nat)(x:Int)(h:p.length=i)(hi:i<n):(p++List.replicate (n-i) (0:Int)).set i x=(p++[x])++List.replicate (n-(i+1)) 0:=by
 have:n-i=(n-(i+1))+1:=by omega
 rw[this,List.replicate_succ,Pe.BT p _ 0 x h,List.append_assoc];rfl
theorem ID{l:List Int}(h:As Aj l):Ax l=Br (Ai l):=R9 (by decide) h
end Go.Sp
end
section
namespace Go.Pe
open Sp
open Go.Det
noncomputable section
open List Int Prod
namespace T153
def T(n:Int):Tr:=tree Pn false 9 153 (Ah ([zg IntKind.i64]) n)
theorem Ay(n:Int):T n=.ite (decide (n<0)) (.leaf (.dat (zg zd) (zc .u64 (zc .i64 (0-n)))) []) (.leaf (.dat (zg zd) (zc .u64 n)) []):=by kernel_rfl
end T153
namespace T146
def T(a:Int×List Int):Tr:=tree Je false 9 146 (Ah ([Sh.pair i64 (Sh.nlist (zg zd))]) a)
theorem Ay(a:Int×List Int):T a=let a':=Sh.nlist (zg zd);let b':=[(0,.box [.dat i64 (fst a),.dat a' (snd a)])];.ite (decide (0<length (snd a))) (.leaf (.tup [.dat Sh.bool (decide (fst a<0)),.dat a' (snd a)]) b') (.ite (fst a==0) (.leaf (.tup [.bl false,.nil]) b') (.ite (Hz (fst a)) (.leaf (.tup [.dat Sh.bool (decide (fst a<0)),.sl (zG 0 1) 1 0 1 none]) ([(zG 0 1,.arr false 111 (zg zd) [Ag (fst a)]),(0,.box [.dat i64 (fst a),.dat a' (snd a)])])) .fail)):=by kernel_rfl
end T146
namespace T148
def T(neg:Bool)(w:List Int):Tr:=tree Je false 9 148 (Ah ([Sh.bool,zi (zg zd)]) (neg,w))
theorem Ay(neg:Bool)(w:List Int):T neg w=let c':=zi (zg zd);let e':=zc .i64 (0-zc .i64 (getD w 0 0));let f':=decide (getD w 0 0≤9223372036854775807);let g':=(length w:Int);let h':=zc .i64 (getD w 0 0);let b':Tr:=.ite neg (.leaf (PV.agg [.dat i64 (-1:Int),.dat c' w]) ([(0,.box [.dat i64 (-1:Int),.dat c' w])])) (.leaf (PV.agg [.dat i64 (1:Int),.dat c' w]) ([(0,.box [.dat i64 (1:Int),.dat c' w])]));let d':=decide (0<g');let a':Tr:=.ite (g'==1) (.ite d' (.ite f' (.ite d' (.leaf (PV.agg [.dat i64 h',.nil]) ([(0,.box [.dat i64 h',.nil])])) .fail) b') .fail) b';.ite (g'==0) (.leaf (PV.agg [.dat i64 (0:Int),.nil]) ([(0,.box [.dat i64 (0:Int),.nil])])) (.ite (g'==1) (.ite d' (.ite f' (.ite neg (.ite d' (.leaf (PV.agg [.dat i64 e',.nil]) ([(0,.box [.dat i64 e',.nil])])) .fail) a') a') .fail) a'):=by kernel_rfl
end T148
namespace T197
def T(w:List Int):Tr:=tree Pn false 9 197 (Ah ([zi (zg zd)]) w)
def L1(v0:List Int)(v3:Int):Tr:=re ((T [])) (AB 21 [(0,.dat (zi (zg zd)) v0),(3,.dat i64 v3)] [] 0)
theorem Ay(w:List Int):T w=L1 w ((length w:Int)):=by kernel_rfl
theorem Ap(v0:List Int)(v3:Int):stepT Pn (L1 v0 v3)=let a':Tr:=.ite (decide (0≤v3)&&decide (0≤toNat v3)&&decide (toNat v3≤length v0)) (.leaf (.dat (zi (zg zd)) (take (toNat v3) v0)) []) .fail;let b':=zc .i64 (v3-1);.ite (decide (v3>0)) (.ite (decide (0≤zc .i64 (v3-1))&&decide (zc .i64 (v3-1)<(length v0:Int))) (.ite (getD v0 (toNat b') 0==0) (L1 v0 b') a') .fail) a':=by kernel_rfl
end T197
namespace T156
def T(a b:List Int):Tr:=tree Pn false 9 156 (Ah ([zi (zg zd),zi (zg zd)]) (a,b))
def L1(v0 v1:List Int)(v5:Int):Tr:=re ((T [] []).R) (AB 41 [(0,.dat (zi (zg zd)) v0),(1,.dat (zi (zg zd)) v1),(5,.dat i64 v5)] [] 0)
theorem Ay(a b:List Int):T a b=let a':=(length a:Int);.ite (a' !=(length b:Int)) (.ite (decide (a'<(length b:Int))) (.leaf (.dat i64 (-1:Int)) []) (.leaf (.dat i64 (1:Int)) [])) (L1 a b (zc .i64 (a'-1))):=by kernel_rfl
theorem Ap(v0 v1:List Int)(v5:Int):stepT Pn (L1 v0 v1 v5)=let a':=decide (0≤v5)&&decide (v5<(length v0:Int));let b':=decide (0≤v5)&&decide (v5<(length v1:Int));.ite (decide (v5≥0)) (.ite a' (.ite b' (.ite (getD v0 (toNat v5) 0 !=getD v1 (toNat v5) 0) (.ite a' (.ite b' (.ite (decide (getD v0 (toNat v5) 0<getD v1 (toNat v5) 0)) (.leaf (.dat i64 (-1:Int)) []) (.leaf (.dat i64 (1:Int)) [])) .fail) .fail) (L1 v0 v1 (zc .i64 (v5-1)))) .fail) .fail) (.leaf (.dat i64 (0:Int)) []):=by kernel_rfl
end T156
namespace T155
def T(x y:List Int):Tr:=tree Je false 9 155 (Ah ([zi (zg zd),zi (zg zd)]) (x,y))
def L1(v0 v1:List Int)(v5n:Nat)(v6 v21 v22:Int)(o0:List Int):Tr:=re ((T [] []).L.L) (AB 54 [(0,.dat (zi (zg zd)) v0),(1,.dat (zi (zg zd)) v1),(5,.sl 0 1 0 v5n none),(6,.dat (zg zd) v6),(21,.dat i64 v21),(22,.dat i64 v22)] [(0,.arr false 111 (zg zd) o0)] 1)
theorem Ay(x y:List Int):T x y=let a':=(length x:Int);let b':=(length y:Int);let c':=zc .i64 (b'+1);let d':=zc .i64 (a'+1);.ite (decide (a'<b')) (.ite (decide (0≤zc .i64 (b'+1))&&decide (zc .i64 (b'+1)=zc .i64 (b'+1))&&decide (8*toNat c'≤281474976710656)&&decide (zc .i64 (b'+1)<9223372036854775808)) (L1 y x (toNat c') 0 (b') 0 (replicate (toNat c') 0)) .fail) (.ite (decide (0≤zc .i64 (a'+1))&&decide (zc .i64 (a'+1)=zc .i64 (a'+1))&&decide (8*toNat d'≤281474976710656)&&decide (zc .i64 (a'+1)<9223372036854775808)) (L1 x y (toNat d') 0 (a') 0 (replicate (toNat d') 0)) .fail):=by kernel_rfl
theorem Ap(v0 v1:List Int)(v5n:Nat)(v6 v21 v22:Int)(o0:List Int):stepT Je (L1 v0 v1 v5n v6 v21 v22 o0)=let a':=getD v0 (toNat v22) 0;let b':=(length v0:Int);let d':=getD v1 (toNat v22) 0;let e':=decide (0≤v22)&&decide (v22<(↑v5n:Int));let f':=decide ((0:Sh.T (Bb [u64]))≤v6);let g':=decide (v6≤(1:Sh.T (Bb [u64])));let i':=decide (toNat v22<length o0);let j':=decide (v22<(length v1:Int));let k':=zc .i64 (v22+1);let c':=set o0 (toNat b') v6;let h':=decide (0≤v22)&&decide (v22<b');.ite (decide (v22<v21)) (.ite (j') (.ite (decide (0≤v22)&&j') (.ite h' (.ite (Sp.u64 a'&&Sp.u64 d'&&f'&&g') (.ite e' (.ite i' (L1 v0 v1 v5n (Mz a' d' v6) v21 k' (set o0 (toNat v22) (F6 a' d' v6))) .fail) .fail) .fail) .fail) .fail) (.ite h' (.ite (Sp.u64 a'&&Sp.u64 0&&f'&&g') (.ite e' (.ite i' (L1 v0 v1 v5n (Mz a' 0 v6) v21 k' (set o0 (toNat v22) (F6 a' 0 v6))) .fail) .fail) .fail) .fail)) (.ite (decide (0≤b')&&decide (b'<(↑v5n:Int))) (.ite (decide (toNat b'<length o0)) (.ite (decide (0+v5n≤length c')&&true&&B2 (take v5n c')) (.leaf (.dat (zi (zg zd)) (Ax (take v5n c'))) ([(0,.arr true 111 (zg zd) c')])) .fail) .fail) .fail):=by kernel_rfl
end T155
namespace T157
def T(x y:List Int):Tr:=tree Je false 9 157 (Ah ([zi (zg zd),zi (zg zd)]) (x,y))
def L1(v0 v1:List Int)(v5n:Nat)(v6 v13 v14:Int)(o0:List Int):Tr:=re ((T [] []).L) (AB 41 [(0,.dat (zi (zg zd)) v0),(1,.dat (zi (zg zd)) v1),(5,.sl 0 1 0 v5n none),(6,.dat (zg zd) v6),(13,.dat i64 v13),(14,.dat i64 v14)] [(0,.arr false 111 (zg zd) o0)] 1)
theorem Ay(x y:List Int):T x y=let a':=(length x:Int);.ite (decide (0≤a')&&decide (a'=a')&&decide (8*toNat a'≤281474976710656)&&decide (a'<9223372036854775808)) (L1 x y (toNat a') 0 (a') 0 (replicate (toNat a') 0)) .fail:=by kernel_rfl
theorem Ap(v0 v1:List Int)(v5n:Nat)(v6 v13 v14:Int)(o0:List Int):stepT Je (L1 v0 v1 v5n v6 v13 v14 o0)=let a':=getD v0 (toNat v14) 0;let b':=decide (0≤v14)&&decide (v14<(length v0:Int));let c':=getD v1 (toNat v14) 0;let d':=decide (0≤v14)&&decide (v14<(↑v5n:Int));let e':=decide ((0:Sh.T (Bb [u64]))≤v6);let f':=decide (v6≤(1:Sh.T (Bb [u64])));let g':=decide (toNat v14<length o0);let h':=decide (v14<(length v1:Int));let i':=zc .i64 (v14+1);.ite (decide (v14<v13)) (.ite (h') (.ite (decide (0≤v14)&&h') (.ite b' (.ite (Sp.u64 a'&&Sp.u64 c'&&e'&&f') (.ite d' (.ite g' (L1 v0 v1 v5n (MM a' c' v6) v13 i' (set o0 (toNat v14) (Pd a' c' v6))) .fail) .fail) .fail) .fail) .fail) (.ite b' (.ite (Sp.u64 a'&&Sp.u64 0&&e'&&f') (.ite d' (.ite g' (L1 v0 v1 v5n (MM a' 0 v6) v13 i' (set o0 (toNat v14) (Pd a' 0 v6))) .fail) .fail) .fail) .fail)) (.ite (decide (0+v5n≤length o0)&&true&&B2 (take v5n o0)) (.leaf (.dat (zi (zg zd)) (Ax (take v5n o0))) ([(0,.arr true 111 (zg zd) o0)])) .fail):=by kernel_rfl
end T157
namespace T152
def T(x y:Int):Tr:=tree Pn false 9 152 (Ah ([zg zd,zg zd]) (x,y))
theorem Ay(x y:Int):T x y=let a':=zc .u64 (zc .u64 (zI x (2^32)*FV zd y 4294967295)+zI (zc .u64 (FV zd x 4294967295*FV zd y 4294967295)) (2^32));.ite true (.ite true (.ite true (.ite true (.ite true (.leaf (.tup [.dat (zg zd) (zc .u64 (zc .u64 (zc .u64 (zI x (2^32)*zI y (2^32))+zI a' (2^32))+zI (zc .u64 (FV zd a' 4294967295+zc .u64 (FV zd x 4294967295*zI y (2^32)))) (2^32))),.dat (zg zd) (zc .u64 (x*y))]) []) .fail) .fail) .fail) .fail) .fail:=by kernel_rfl
end T152
namespace T154
def T(x y:List Int):Tr:=tree Je false 9 154 (Ah ([zi (zg zd),zi (zg zd)]) (x,y))
def L1(v1:List Int)(v5n:Nat)(v20:List Int)(v21 v22:Int)(o0:List Int):Tr:=re ((T [] []).L) (AB 80 [(1,.dat (zi (zg zd)) v1),(5,.sl 0 1 0 v5n none),(20,.dat (zi (zg zd)) v20),(21,.dat i64 v21),(22,.dat i64 v22)] [(0,.arr false 111 (zg zd) o0)] 1)
theorem Ay(x y:List Int):T x y=let a':=(length x:Int)+(length y:Int);let b':=zc .i64 a';.ite (decide (0≤zc .i64 a')&&decide (zc .i64 a'=zc .i64 a')&&decide (8*toNat b'≤281474976710656)&&decide (zc .i64 a'<9223372036854775808)) (L1 y (toNat b') x ((length x:Int)) 0 (replicate (toNat b') 0)) .fail:=by kernel_rfl
def L2(v1:List Int)(v5n:Nat)(v6 v7 v8:Int)(v20:List Int)(v21 v22:Int)(v27:List Int)(v28 v29:Int)(o0:List Int):Tr:=re ((stepT Je (L1 [] 0 [] 0 0 [])).L.L) (AB 80 [(1,.dat (zi (zg zd)) v1),(5,.sl 0 1 0 v5n none),(6,.dat i64 v6),(7,.dat (zg zd) v7),(8,.dat (zg zd) v8),(20,.dat (zi (zg zd)) v20),(21,.dat i64 v21),(22,.dat i64 v22),(27,.dat (zi (zg zd)) v27),(28,.dat i64 v28),(29,.dat i64 v29)] [(0,.arr false 111 (zg zd) o0)] 1)
theorem Ap(v1:List Int)(v5n:Nat)(v20:List Int)(v21 v22:Int)(o0:List Int):stepT Je (L1 v1 v5n v20 v21 v22 o0)=.ite (decide (v22<v21)) (.ite (decide (0≤v22)&&decide (v22<(length v20:Int))) (L2 v1 v5n v22 (getD v20 (toNat v22) 0) 0 v20 v21 v22 v1 ((length v1:Int)) 0 o0) .fail) (.ite (decide (0+v5n≤length o0)&&true&&B2 (take v5n o0)) (.leaf (.dat (zi (zg zd)) (Ax (take v5n o0))) ([(0,.arr true 111 (zg zd) o0)])) .fail):=by kernel_rfl
theorem AS(v1:List Int)(v5n:Nat)(v6 v7 v8:Int)(v20:List Int)(v21 v22:Int)(v27:List Int)(v28 v29:Int)(o0:List Int):stepT Je (L2 v1 v5n v6 v7 v8 v20 v21 v22 v27 v28 v29 o0)=let b':=zc .i64 (v6+v29);let c':=getD v27 (toNat v29) 0;let d':=decide (0≤zc .i64 (v6+v29))&&decide (zc .i64 (v6+v29)<(↑v5n:Int));let e':=v6+(length v1:Int);let g':=decide ((0:Sh.T (Bb [u64]))≤0);let h':=decide (0≤(1:Sh.T (Bb [u64])));let f':=getD o0 (toNat b') 0;let i':=decide (toNat b'<length o0);let j':=Gf v7 c';let a':=F6 j' f' 0;.ite (decide (v29<v28)) (.ite (decide (0≤v29)&&decide (v29<(length v27:Int))) (.ite (Sp.u64 v7&&Sp.u64 c') (.ite d' (.ite i' (.ite (Sp.u64 j'&&Sp.u64 f'&&g'&&h') (.ite (Sp.u64 a'&&Sp.u64 v8&&g'&&h') (.ite d' (.ite i' (L2 v1 v5n v6 v7 (zc .u64 (zc .u64 (NN v7 c'+Mz j' f' 0)+Mz a' v8 0)) v20 v21 v22 v27 v28 (zc .i64 (v29+1)) (set o0 (toNat b') (F6 a' v8 0))) .fail) .fail) .fail) .fail) .fail) .fail) .fail) .fail) (.ite (decide (0≤zc .i64 e')&&decide (zc .i64 e'<(↑v5n:Int))) (.ite (decide (toNat (zc .i64 e')<length o0)) (L1 v1 v5n v20 v21 (zc .i64 (v22+1)) (set o0 (toNat (zc .i64 e')) v8)) .fail) .fail):=by kernel_rfl
end T154
end
end Go.Pe
end
section
namespace Go.Pe
open Sp
open Go.Det
theorem Hj:∀g sp,Pn.sp g=some sp→Ac A4 g sp:=fun g sp h=>by cases h
theorem wu(x:Int)(h1:0≤x)(h2:x≤18446744073709551615):zc .u64 x=x:=IntWalk.u64_in x ⟨h1,h2⟩
theorem Ep{n:Int}(h:Hz n=true): -9223372036854775808≤n∧n<9223372036854775808:=by
 unfold Hz at h;rw[ze,decide_eq_true_eq,decide_eq_true_eq]at h;exact h
namespace T153
theorem ok:Ac A4 153 RQ:=by
 refine AJ (X:=Pn) rfl Hj (d:=9) (by kernel_rfl) (by kernel_rfl) (by kernel_rfl) (fun(n:Int) hn=>?_) (Ad (by kernel_rfl));have hn:=Ep (n:=n) hn;refine Ends.eq (Ay n) (Ends.ite (fun c=>?_) (fun c=>?_))
 ·have c:=of_decide_eq_true c;refine Ends.leaf (Af.of rfl rfl ?_);show zc .u64 (zc .i64 (0-n))=Ag n;simp only[Ar];rcases Int.lt_or_le (-9223372036854775808) n with h|h
  ·rw[wr _ (by omega) (by omega),wu _ (by omega) (by omega)];omega
  ·have:n= -9223372036854775808:=by omega
   subst this;decide+kernel
 ·have c:=of_decide_eq_false c;refine Ends.leaf (Af.of rfl rfl ?_);show zc .u64 n=Ag n;simp only[Ar];rw[wu _ (by omega) (by omega)];omega
end T153
namespace T197
theorem Aq{Q:PV→Ob→Prop}(w:List Int)(hw:w.length≤20000)(hq:∀ob,Q (.dat Cp (Ax w)) ob):∀(i:Nat),i≤w.length→Ax w=Ax (w.take i)→Ends Pn (L1 w i) Q
 |0,hi,he=>by
  have he:Ax w=[]:=he;rw[he]at hq;refine Ends.An (Ap ..) (Ends.ff (by simp) (Ends.tt (by simp) (Ends.leaf (hq _))))
 |i+1,hi,he=>by
  have e1:zc .i64 (((i+1:Nat):Int)-1)=(i:Int):=by rw[wr _ (by omega) (by omega)];omega
  have ht:w.take (i+1)=w.take i++[w.getD i 0]:=by
   rw[List.take_add_one];congr 1;rw[zk,zm (by omega)];rfl
  refine Ends.An (Ap ..) (Ends.tt (by simp<;>omega) ?_);rw[e1,zH];refine Ends.tt (by simp<;>omega) (Ends.ite (fun c=>?_) (fun c=>?_))
  ·have c:w.getD i 0=0:=by simpa using c
   refine Aq w hw hq i (by omega) ?_;rw[he,ht,c,GB]
  ·have c:w.getD i 0≠0:=by simpa using c
   refine Ends.tt (by simp;omega) (Ends.leaf ?_);have:Ax w=w.take (i+1):=by rw[he,ht,GI (SP c)]
   rw[this]at hq;exact hq _
theorem ok:Ac A4 197 RT:=by
 refine AJ (X:=Pn) rfl Hj (d:=9) (by kernel_rfl) (by kernel_rfl) (by kernel_rfl) (fun(w:List Int) hw=>?_) (Ad (by kernel_rfl));obtain⟨h1,h2⟩:=GL (l:=w) hw;refine Ends.eq (Ay w) (Aq w h1 (fun ob=>Af.of rfl rfl rfl) w.length (zh _) (by rw[List.take_length]))
end T197
theorem DI{l:List Int}(h:By l=true):l.length≤20000∧As Aj l∧Sp.nz l:=by
 unfold By at h;rw[ze]at h;have:=GL h.1;exact⟨this.1,this.2,by
  have:=h.2;unfold ZM at this;have:l.getLast?≠some 0:=of_decide_eq_true this;exact this⟩
namespace T156
theorem Aq{Q:PV→Ob→Prop}(a b:List Int)(ha:As Aj a)(hb:As Aj b)(hl:a.length=b.length)(h2:b.length≤20000)(hq:∀ob,Q (.dat i64 (BO (Ai a) (Ai b))) ob):∀(i:Nat),i≤a.length→a.drop i=b.drop i→Ends Pn (L1 a b ((i:Int)-1)) Q
 |0,hi,he=>by
  have he:a=b:=he;have:BO (Ai a) (Ai b)=0:=by rw[he];unfold BO;simp
  rw[this]at hq;exact Ends.An (Ap ..) (Ends.ff (by simp) (Ends.leaf (hq _)))
 |i+1,hi,he=>by
  have e1:(((i+1:Nat):Int)-1)=(i:Int):=by omega
  have da:a.drop i=a.getD i 0::a.drop (i+1):=by
   rw[zk,zm (by omega)];exact zy (by omega)
  have db:b.drop i=b.getD i 0::a.drop (i+1):=by
   rw[he,zk,zm (by omega)];exact zy (by omega)
  have ga:=Sp.AM (AI ha i);have gb:=Sp.AM (AI hb i);rw[e1];refine Ends.An (Ap ..) (Ends.tt (by simp) ?_);rw[zH];refine Ends.tt (by simp;omega) (Ends.tt (by simp;omega) (Ends.ite (fun c=>Ends.tt (by simp;omega) (Ends.tt (by simp;omega) (Ends.ite (fun d=>?_) (fun d=>?_)))) (fun c=>?_)))
  ·have d:=of_decide_eq_true d;have:=Ht (b:=Aj) (by decide) ha hb da db d;have e:BO (Ai a) (Ai b)= -1:=by unfold BO;exact if_pos this
   rw[e]at hq;exact Ends.leaf (hq _)
  ·have d:=of_decide_eq_false d;have c:a.getD i 0≠b.getD i 0:=by simpa using c
   have:=Ht (b:=Aj) (by decide) hb ha db da (by omega);have e:BO (Ai a) (Ai b)=1:=by
    unfold BO Ai;rw[if_neg (by omega),if_pos (by omega)]
   rw[e]at hq;exact Ends.leaf (hq _)
  ·have c:a.getD i 0=b.getD i 0:=by simpa using c
   rw[wr ((i:Int)-1) (by omega) (by omega)];exact Aq a b ha hb hl h2 hq i (by omega) (by rw[da,db,c])
theorem ok:Ac A4 156 SL:=by
 refine AJ (X:=Pn) rfl Hj (d:=9) (by kernel_rfl) (by kernel_rfl) (by kernel_rfl) (fun(i:List Int×List Int) hi=>?_) (Ad (by kernel_rfl));obtain⟨a,b⟩:=i;have hi:(By a&&By b)=true:=hi;rw[ze]at hi;obtain⟨a1,a2,a3⟩:=DI hi.1;obtain⟨b1,b2,b3⟩:=DI hi.2;have hq:∀ob,Af SL (a,b) (.dat i64 (BO (Ai a) (Ai b))) ob:=fun ob=>Af.of rfl rfl rfl
 refine Ends.eq (Ay a b) (Ends.ite (fun c=>Ends.ite (fun d=>?_) (fun d=>?_)) (fun c=>?_))
 ·have d:=of_decide_eq_true d;have e:BO (Ai a) (Ai b)= -1:=by unfold BO;exact if_pos (Dm (by decide) a2 b2 b3 (by omega))
  rw[e]at hq;exact Ends.leaf (hq _)
 ·have d:=of_decide_eq_false d;have c:(a.length:Int)≠b.length:=by simpa using c
  have:=Dm (b:=Aj) (by decide) b2 a2 a3 (by omega);have e:BO (Ai a) (Ai b)=1:=by
   unfold BO Ai;rw[if_neg (by omega),if_pos (by omega)]
  rw[e]at hq;exact Ends.leaf (hq _)
 ·have c:(a.length:Int)=b.length:=by simpa using c
  rw[wr _ (by omega) (by omega)];exact Aq a b a2 b2 (by omega) b1 hq a.length (zh _) (by rw[List.drop_length,show a.length=b.length by omega,List.drop_length])
end T156
end Go.Pe
end
