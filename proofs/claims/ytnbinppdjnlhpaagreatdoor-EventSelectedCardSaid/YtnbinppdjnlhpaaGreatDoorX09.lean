import Derived.Test.YtnbinppdjnlhpaaGreatDoorX08
import Derived.Test.YtnbinppdjnlhpaaGreatDoorX06
import Derived.Test.YtnbinppdjnlhpaaGreatDoorX04
import Derived.IntWalk
/- A part of a proof (no law is stated here). Made by program out of texts by AI agents. -/
open Go.IntKind renaming wrap → zc, i64 → ze
open Int renaming tmod → zd, toNat_natCast → zj, mul_comm → zH
open Nat renaming le_refl → zf, beq → zn, le_trans → zr, eq_of_beq_eq_true → zu, lt_of_lt_of_le → zy, add → zz, zero_lt_one → zI, zero_le → zJ
open List renaming mem_singleton → zg, drop_eq_getElem_cons → zm, nodup_nil → zo, length → zq, mem_cons_self → zt, mem_cons_of_mem → zB, mem_cons → zE, drop_eq_nil_of_le → zG, replicate → zK
open Option.some renaming injEq → zh
open Go.Pe.Sh renaming list → zi, int → zl, str → zx
open Bool renaming and_eq_true → zk
open Go.Pe.PV renaming cells → zp
open Go.Pe.Ev renaming AB → zw
open Prod.mk renaming injEq → zA
open Go.Sp renaming mark → zC
open Go.Pe.Obj renaming siter → zD
open Go.Pe.Le renaming refl → zF
section
namespace Go.Pe
open Go.Det
section
variable {B:Nat}{h0:H0}{X:AW}{F:Fz}{ρ:DF}{N:Nat}{h:H}
theorem Oj(h0:H0)(a b:List Nat):(h0.pins a).pins b=h0.pins (b++a):=by unfold H0.pins;simp
theorem SR.lZ{ob:Ob}{ps:List Nat}(hr:SR B (h0.pins ps) F ρ N ob h):SR B h0 F ρ N ob h:=
 ⟨hr.obj,hr.inj,hr.frz,hr.own,hr.dead,hr.old,hr.lt,hr.le,hr.fo,fun b hb=>hr.pn b (List.mem_append_right _ hb)⟩
theorem SR.Z9{ob:Ob}(hr:SR B h0 F ρ N ob h){b:Nat}{x y:O}(h1:∀id o n,AE ob id=some o→ρ id≠some (b,n))(h2:F b=none)(h3:h0.U7 B b)(h4:b∉h0.pin)(hg:h.get b=some x):SR B h0 F ρ N ob (h.put b y):=by
 refine⟨fun j oj hj=>?_,hr.inj,fun c cs hc=>?_,hr.own,hr.dead,fun c hc he=>?_,fun c oc hc=>?_,hr.le,hr.fo,fun c hc=>?_⟩
 ·obtain⟨c,m,y,g1,g2,g3⟩:=hr.obj j oj hj;have:c≠b:=fun e=>h1 j oj m hj (e▸g1)
  exact⟨c,m,y,g1,by rw[H.A9,if_neg this];exact g2,g3⟩
 ·have:c≠b:=fun e=>by rw[e,h2]at hc;cases hc
  rw[H.A9,if_neg this];exact hr.frz c cs hc
 ·have:c≠b:=Lt h3 hc he;rw[H.A9,if_neg this];exact hr.old c hc he
 ·rw[H.A9]at hc;split at hc
  ·rename_i e;subst e;exact hr.lt _ _ hg
  ·exact hr.lt c oc hc
 ·obtain⟨g1,g2,g3⟩:=hr.pn c hc;have hne:c≠b:=fun e=>h4 (e▸hc)
  exact⟨by rw[H.A9,if_neg hne];exact g1,g2,g3⟩
theorem SR.leave{ob:Ob}:∀ {ps:List Nat} {h:H},ps.Nodup→(∀b∈ps,b∉h0.pin)→SR B (h0.pins ps) F ρ N ob h→∃h1,ER ps h=some h1∧SR B h0 F ρ N ob h1∧h1.nx=h.nx∧∀b,b∉ps→h1.get b=h.get b
 |[],h,_,_,hr=>⟨h,rfl,hr,rfl,fun _ _=>rfl⟩
 |p::ps,h,hn,hd,hr=>by
  obtain⟨g1,g2,g3⟩:=hr.pn p (by simp[H0.pins]);rw[List.nodup_cons]at hn;have hr1:SR B ((h0.pins ps).pins [p]) F ρ N ob h:=by rw[Oj];exact hr
  have hp:SR B (h0.pins ps) F ρ N ob (h.put p (.defd false)):=by
   refine SR.Z9 hr1.lZ (fun id o n _=>g3 id n) ?_ (.inl g2) ?_ g1
   ·cases hF:F p with
    |none=>rfl
    |some cs=>obtain⟨t,fz,k⟩:=hr.frz p cs hF;rw[g1]at k;cases k
   ·intro h;rcases List.mem_append.1 h with h|h
    ·exact hn.1 h
    ·exact hd p (by simp) h
  obtain⟨h1,k1,k2,k3,k4⟩:=SR.leave hn.2 (fun b hb=>hd b (by simp[hb])) hp;refine⟨h1,?_,k2,k3,fun b hb=>?_⟩
  ·show(match h.get p with|some (.defd true)=>ER ps (h.put p (.defd false))|_=>none)=_;rw[g1];exact k1
  ·simp only[zE,not_or]at hb;rw[k4 b hb.2,H.A9,if_neg hb.1]
theorem WE{st:AF}{fr:Fr}(hr:Rel B h0 F ρ st fr h)(base:Nat)(x:Nat×Sh):∃F1 ρ1,Rel B h0 F1 ρ1 (aW base x st) fr h∧(aW base x st).nx=st.nx∧(∀id,id<base→ρ1 id=ρ id)∧∀b cs,F b=some cs→F1 b=some cs:=by
 have hs:=hr.fp.slot x.1;unfold aW;split
 case h_1=>
  rename_i hg;rw[hg]at hs;simp only[PR]at hs;exact⟨F,ρ,hr.note (by rw[hs];simp[PR,DC]),rfl,fun _ _=>rfl,fun _ _ h=>h⟩
 case h_4=>exact⟨F,ρ,hr,rfl,fun _ _=>rfl,fun _ _ h=>h⟩
 case h_3=>
  rename_i id hg;cases hb:Nat.ble base id with
  |false=>exact⟨F,ρ,hr,rfl,fun _ _=>rfl,fun _ _ h=>h⟩
  |true=>
  simp only[cond_true];have hb:=Nat.le_of_ble_eq_true hb;split
  case h_2=>exact⟨F,ρ,hr,rfl,fun _ _=>rfl,fun _ _ h=>h⟩
  rename_i ps ho;split
  case h_2=>exact⟨F,ρ,hr,rfl,fun _ _=>rfl,fun _ _ h=>h⟩
  rename_i v hv;rw[hg]at hs;obtain⟨b,n,y,h1,h2,h3,h7,-⟩:=hr.sr.at ho;obtain⟨cs,t,fz,rfl,h4,h5⟩:=h3;have hFb:F b=none:=h7 rfl;have hmono:∀c cs',F c=some cs'→(fun c=>if c=b then some cs else F c) c=some cs':=by
   intro c cs' hc;have:c≠b:=fun e=>by rw[e,hFb]at hc;cases hc
   simp[this,hc]
  have hdc:=(Ct h4 hv);have hlen:=hdc.len;have hle:Le F ρ st.nx (fun c=>if c=b then some cs else F c) (Bx ρ id none) st.nx:=(Le.VH hmono).trans (Le.Qh id);have hle2:Le F (Bx ρ id none) st.nx (fun c=>if c=b then some cs else F c) (Bx ρ id none) st.nx:=Le.VH hmono;have hd:=hr.sr.del id;have notb:∀j m,Bx ρ id none j=some (b,m)→∀oj,AE (FT st.ob id) j=some oj→False:=by
   intro j m g1 oj hj;rw[DT]at hj;split at hj
   ·cases hj
   ·rename_i ej;simp only[Bx,ej,if_false]at g1;exact ej (hr.sr.inj j id oj _ b m n hj ho g1 h1)
  have hsr:SR B h0 (fun c=>if c=b then some cs else F c) (Bx ρ id none) st.nx (FT st.ob id) h:=by
   refine⟨fun j oj hj=>?_,hd.inj,fun c cs' hc=>?_,hd.own,hd.dead,hd.old,hd.lt,hd.le,fun c cs' hc=>?_,hd.pn⟩
   ·obtain⟨c,m,z,g1,g2,g3,g4,g5⟩:=hd.obj j oj hj;have hne:c≠b:=fun ec=>notb j m (ec▸g1) oj hj
    exact⟨c,m,z,g1,g2,g3.mono hle2,fun e=>by simp[hne,g4 e],fun e=>by obtain⟨a1,a2,a3,a4,a5⟩:=g5 e;exact⟨a1,a2,a3,a4,by simp[hne,a5]⟩⟩
   ·split at hc
    ·rename_i ec;cases hc;subst ec;exact⟨_,_,h2⟩
    ·exact hd.frz c cs' hc
   ·split at hc
    ·rename_i ec;subst ec;exact .inr (hr.sr.own id c n h1).2
    ·exact hd.fo c cs' hc
  have hr1:Rel B h0 (fun c=>if c=b then some cs else F c) (Bx ρ id none) (st.Ph id) fr h:=⟨⟨hr.fp.n,fun t=>(hr.fp.slot t).mono hle⟩,hsr⟩;refine⟨_,_,hr1.note ?_,rfl,fun j hj=>by unfold Bx;rw[if_neg (by omega)],hmono⟩;simp only[PR]at hs ⊢;have hv2:=hs.2 b n h1;exact⟨b,0,cs,by rw[hv2],by simp,by omega,by rw[List.drop_zero,List.take_of_length_le (by omega)];exact hdc.mono hmono⟩
 rename_i id sz off len cap hg;split
 case h_2=>exact⟨F,ρ,hr,rfl,fun _ _=>rfl,fun _ _ h=>h⟩
 rename_i fz e s l ho;cases hz:zn sz s.sz with
 |false=>exact⟨F,ρ,hr,rfl,fun _ _=>rfl,fun _ _ h=>h⟩
 |true=>
 simp only[cond_true];rw[hg]at hs;obtain⟨F1,g1,g2,g3⟩:=KL hr.sr hs;have hfr:Bn st (.sl id sz off len cap)=st.setObj id (.arr true e s l):=by simp[Bn,ho]
 rw[hfr]at g1;have hle:Le F ρ st.nx F1 ρ st.nx:=⟨g2,fun _ _=>.inl rfl,zf _⟩;have hoff:off+len≤l.length:=by
  obtain⟨b,n,y,h1,_,⟨_,_,_,_,_,h6⟩,-⟩:=hr.sr.at ho;simp only[PR]at hs;rcases hs.2 b n h1 with⟨a1,a2,_⟩|⟨a1,_,a3,_⟩
  ·omega
  ·omega
 have hbv:Cb st (.sl id sz off len cap)=some (true,.dat (.list s) ((l.drop off).take len)):=by
  simp only[Cb,ho,hz,cond_true,decide_eq_true hoff]
 have hpc:=g3 _ hbv;have hr1:Rel B h0 F1 ρ (st.setObj id (.arr true e s l)) fr h:=⟨⟨hr.fp.n,fun t=>(hr.fp.slot t).mono hle⟩,g1⟩;exact⟨F1,ρ,hr1.note (hpc ρ _),rfl,fun _ _=>rfl,g2⟩
theorem Q4{fr:Fr}(base:Nat):∀(l:List (Nat×Sh)) {st:AF} {F:Fz} {ρ:DF},Rel B h0 F ρ st fr h→∃F1 ρ1,Rel B h0 F1 ρ1 (aK base l st) fr h∧(aK base l st).nx=st.nx∧(∀id,id<base→ρ1 id=ρ id)∧∀b cs,F b=some cs→F1 b=some cs
 |[],st,F,ρ,hr=>⟨F,ρ,hr,rfl,fun _ _=>rfl,fun _ _ h=>h⟩
 |x::l,st,F,ρ,hr=>by
  obtain⟨F1,ρ1,h1,h2,h0',h3⟩:=WE hr base x;obtain⟨F2,ρ2,h4,h5,h0'',h6⟩:=Q4 base l h1;exact⟨F2,ρ2,h4,h5.trans h2,fun id hid=>(h0'' id hid).trans (h0' id hid),fun b cs hb=>h6 b cs (h3 b cs hb)⟩
theorem Nb{st:AF}{fr:Fr}{base:Nat}(hr:Rel B h0 F ρ st fr h)(f:FuncId)(r:Nat)(hb:base≤st.nx):
  ∃F1 ρ',Rel B h0 F1 ρ' (Nw X f r base st) fr h∧base≤(Nw X f r base st).nx∧(∀id,id<base→ρ' id=ρ id)∧∀b cs,F b=some cs→F1 b=some cs:=by
 obtain⟨F1,ρ1,h1,h2,h0',h3⟩:=Q4 base (X.fz f r) hr;obtain⟨ρ',g1,g2,g3⟩:=Vh h1 base (X.pl f r) (by rw[h2];exact hb);exact⟨F1,ρ',g1,g2,fun id hid=>(g3 id hid).trans (h0' id hid),h3⟩
def Fp(B:Nat)(h0:H0)(X:AW)(base n:Nat)(Q:PV→Ob→Prop)(k:DX→AF→Tr)(F:Fz)(ρ:DF)(h:H)(nd:Bool)(run:Nat→Nat→Option (List Det.X))(ds:List Nat):Prop:=
 ∃l M,(∀m,M≤m→∀q,M≤q→run m q=some l)∧(nd=false→∃x,l=[x])∧∀x∈l,∃ps,(x.ds=ps++ds∧ps.Nodup∧∀b∈ps,h.nx≤b)∧∃n',n'≤n∧∃st1,Ev X Q n' (k x.e st1)∧∃F' ρ',Rel B (h0.pins ps) F' ρ' st1 x.fr x.h∧base≤st1.nx∧Le F ρ base F' ρ' base∧h.nx≤x.h.nx
theorem Le.low{F F':Fz}{ρ ρ':DF}{N N' base:Nat}(hl:Le F ρ N F' ρ' N')(hb:base≤N):Le F ρ base F' ρ' base:=
 ⟨hl.fz,fun id h=>hl.rho id (zy h hb),zf _⟩
theorem Xo{nd ro:Bool}{d:Nat}{f:FuncId}{base:Nat}{rv:Option Nat}{ct:Bool}(hrv:ro=false→rv=none∧ct=true)(hcall:∀h0,Fv B h0 X nd (B5 X nd d))(hcallD:∀h0,Fv B h0 X false (B5 X false d)){Q:PV→Ob→Prop}:∀(n:Nat) (c:Code) {h0:H0} {st:AF} {k:DX→AF→Tr} {F:Fz} {ρ:DF} {fr:Fr} {h:H} (ds:List Nat),base≤st.nx→Rel B h0 F ρ st fr h→
  Ev X Q n (exec X (B5 X nd d) (B5 X false d) nd ro d f base c st k)→Fp B h0 X base n Q k F ρ h nd (fun m q=>Bu X.C (Bf X.C m) rv ct q c fr h ds) ds:=by
 intro n;induction n using Nat.strongRecOn with
 |_ n IH=>
 have one:∀ {h0:H0} {e:DX} {st:AF} {k:DX→AF→Tr} {F:Fz} {ρ:DF} {fr:Fr} {h:H} {ds:List Nat} {c:Code},base≤st.nx→Rel B h0 F ρ st fr h→Ev X Q n (k e st)→(∀m q,1≤q→Bu X.C (Bf X.C m) rv ct q c fr h ds=some [⟨e,fr,h,ds⟩])→
   Fp B h0 X base n Q k F ρ h nd (fun m q=>Bu X.C (Bf X.C m) rv ct q c fr h ds) ds:=by
  intro h0 e st k F ρ fr h ds c hb hr he hd;exact⟨[⟨e,fr,h,ds⟩],1,fun m _ q hq=>hd m q hq,fun _=>⟨_,rfl⟩,fun x hx=>by
   cases zg.1 hx;exact⟨[],⟨rfl,zo,fun _ hb=>(by cases hb)⟩,n,zf _,st,he,F,ρ,hr,hb,zF,zf _⟩⟩
 have fuel:∀ {q:Nat},1≤q→∃q',q=q'+1:=fun h=>⟨_,(Nat.succ_pred_eq_of_pos h).symm⟩
 have chain:∀ {h0:H0} {F:Fz} {ρ:DF} {h:H} {ds:List Nat} {k k2:DX→AF→Tr} {n1:Nat} {run:Nat→Nat→Option (List Det.X)} {run2:Nat→Nat→Det.X→Option (List Det.X)},n1≤n→Fp B h0 X base n1 Q k2 F ρ h nd run ds→
   (∀(x:Det.X) (ps:List Nat),∀n1',n1'≤n1→∀st1,Ev X Q n1' (k2 x.e st1)→∀F' ρ',Rel B (h0.pins ps) F' ρ' st1 x.fr x.h→base≤st1.nx→Fp B (h0.pins ps) X base n Q k F' ρ' x.h nd (fun m q=>run2 m q x) x.ds)→
   Fp B h0 X base n Q k F ρ h nd (fun m q=>match run m q with|some l=>bl l (run2 m q)|none=>none) ds:=by
  rintro h0 F ρ h ds k k2 n1 run run2 hn1 ⟨l,M,h1,h2,h3⟩ hnext;obtain⟨r,M2,g1,g2,g3⟩:=Ql (f:=run2) (P:=fun x=>∃ps,(x.ds=ps++ds∧ps.Nodup∧∀b∈ps,h.nx≤b)∧∃n',n'≤n∧∃st1,Ev X Q n' (k x.e st1)∧∃F' ρ',Rel B (h0.pins ps) F' ρ' st1 x.fr x.h∧base≤st1.nx∧Le F ρ base F' ρ' base∧h.nx≤x.h.nx) h2 fun x hx=>by
   obtain⟨ps1,⟨k0,kn,kl⟩,n',k1,st1,k2',F',ρ',k3,k4,k5,k6⟩:=h3 x hx;obtain⟨r,M,j1,j2,j3⟩:=hnext x ps1 n' k1 st1 k2' F' ρ' k3 k4;refine⟨r,M,j1,j2,fun y hy=>?_⟩;obtain⟨ps2,⟨i0,i0n,i0l⟩,n2,i1,st2,i2,F2,ρ2,i3,i4,i5,i6⟩:=j3 y hy;refine⟨ps2++ps1,⟨by rw[i0,k0,List.append_assoc],?_,fun b hb=>?_⟩,n2,i1,st2,i2,F2,ρ2,by rw[←Oj];exact i3,i4,k5.trans i5,zr k6 i6⟩
   ·rw[List.nodup_append];refine⟨i0n,kn,fun a ha b hb e=>?_⟩;have h1:=i0l a ha;have h2:=k3.sr.lt b _ (k3.sr.pn b (List.mem_append_left _ hb)).1;omega
   ·rcases List.mem_append.1 hb with hb|hb
    ·exact zr k6 (i0l b hb)
    ·exact kl b hb
  exact⟨r,max M M2,fun m hm q hq=>by simp only;rw[h1 m (by omega) q (by omega)];exact g1 m (by omega) q (by omega),g2,g3⟩
 have stepq:∀ {h0:H0} {F:Fz} {ρ:DF} {h:H} {ds:List Nat} {k:DX→AF→Tr} {run run':Nat→Nat→Option (List Det.X)},Fp B h0 X base n Q k F ρ h nd run ds→(∀m q,run' m (q+1)=run m q)→Fp B h0 X base n Q k F ρ h nd run' ds:=by
  rintro h0 F ρ h ds k run run' ⟨l,M,h1,h2,h3⟩ he;refine⟨l,M+1,fun m hm q hq=>?_,h2,h3⟩;obtain⟨q',rfl⟩:=fuel (show 1≤q by omega);rw[he];exact h1 m (by omega) q' (by omega)
 intro c;induction c with
 |skip=>
  intro h0 st k F ρ fr h ds hb hr he;exact one hb hr he (fun m q hq=>by obtain⟨q',rfl⟩:=fuel hq;rfl)
 |label l=>
  intro h0 st k F ρ fr h ds hb hr he;exact one hb hr he (fun m q hq=>by obtain⟨q',rfl⟩:=fuel hq;rfl)
 |exit i=>
  intro h0 st k F ρ fr h ds hb hr he;exact one hb hr he (fun m q hq=>by obtain⟨q',rfl⟩:=fuel hq;rfl)
 |ret=>
  intro h0 st k F ρ fr h ds hb hr he;exact one hb hr he (fun m q hq=>by obtain⟨q',rfl⟩:=fuel hq;rfl)
 |region id ops dr=>
  intro h0 st k F ρ fr h ds hb hr he;unfold exec at he;cases dr with
  |true=>
   simp only[cond_true]at he;cases hst:(!ro||GM ops (DY ops))with
   |false=>rw[hst]at he;exact absurd he zw
   |true=>
   rw[hst]at he;simp only[cond_true]at he;have hdd:∀call,(bif ct then G8 X.C call ops fr h else QJ X.C call ops fr h)=G8 X.C call ops fr h:=by
    intro call;cases hro:ro with
    |false=>rw[(hrv hro).2];rfl
    |true=>
     rw[hro]at hst;have hst:GM ops (DY ops)=true:=hst;cases ct with
     |true=>rfl
     |false=>simp only[cond_false,QJ,hst,cond_true]
   obtain⟨n',hn,st1,he1,F',ρ',fr',h',hw,M,hM⟩:=VI (hcallD h0) hr he;refine⟨[⟨.normal,fr',h',ds⟩],M+1,fun m hm q hq=>?_,fun _=>⟨_,rfl⟩,fun x hx=>?_⟩
   ·obtain⟨q',rfl⟩:=fuel (show 1≤q by omega);have:=hM m (by omega);simp only[Bu,cond_true];rw[hdd,this]
   ·cases zg.1 hx;exact⟨[],⟨rfl,zo,fun _ hb=>(by cases hb)⟩,n',hn,st1,he1,F',ρ',hw.rel,zr hb hw.le.n,hw.le.low hb,hw.nx⟩
  |false=>
   simp only[cond_false]at he;obtain⟨r,M,hM,hone,hall⟩:=QP (hcall h0) hr he;refine⟨r.map fun x=>⟨.normal,x.1,x.2,ds⟩,M+1,fun m hm q hq=>?_,fun e=>?_,fun x hx=>?_⟩
   ·obtain⟨q',rfl⟩:=fuel (show 1≤q by omega);simp only[Bu,cond_false,hM m (by omega)]
   ·obtain⟨y,rfl⟩:=hone e;exact⟨_,rfl⟩
   ·obtain⟨y,hy,rfl⟩:=List.mem_map.1 hx;obtain⟨n',hn,st1,he1,F',ρ',hw⟩:=hall y hy;exact⟨[],⟨rfl,zo,fun _ hb=>(by cases hb)⟩,n',hn,st1,he1,F',ρ',hw.rel,zr hb hw.le.n,hw.le.low hb,hw.nx⟩
 |seq a b iha ihb=>
  intro h0 st k F ρ fr h ds hb hr he;unfold exec at he;refine stepq (chain (run2:=fun m q x=>match x.e with| .normal=>Bu X.C (Bf X.C m) rv ct q b x.fr x.h x.ds|_=>some [x]) (zf n) (iha ds hb hr he) fun x ps1 n1 hn1 st1 he1 F' ρ' hr1 hb1=>?_) (fun m q=>rfl);obtain⟨e,fr1,h1,ds1⟩:=x;cases e with
  |normal=>
   have rest:∀ {st2:AF} {F2:Fz} {ρ2:DF} {n2:Nat},n2≤n→Rel B (h0.pins ps1) F2 ρ2 st2 fr1 h1→base≤st2.nx→(∀id,id<base→ρ2 id=ρ' id)→(∀b cs,F' b=some cs→F2 b=some cs)→Ev X Q n2 (exec X (B5 X nd d) (B5 X false d) nd ro d f base b st2 k)→
     Fp B (h0.pins ps1) X base n Q k F' ρ' h1 nd (fun m q=>Bu X.C (Bf X.C m) rv ct q b fr1 h1 ds1) ds1:=by
    intro st2 F2 ρ2 n2 hn2 hr2 hb2 hρ2 hF2 he2;have hl0:Le F' ρ' base F2 ρ2 base:=⟨hF2,fun id hi=>.inl (hρ2 id hi),zf _⟩;have hc:Fp B (h0.pins ps1) X base n Q k F2 ρ2 h1 nd (fun m q=>Bu X.C (Bf X.C m) rv ct q b fr1 h1 ds1) ds1:=by
     by_cases hlt:n2<n
     ·obtain⟨l,M,h1,h2,h3⟩:=IH n2 hlt b ds1 hb2 hr2 he2;exact⟨l,M,h1,h2,fun x hx=>by obtain⟨ps,k0,n2,k1,k2⟩:=h3 x hx;exact⟨ps,k0,n2,by omega,k2⟩⟩
     ·have:n2=n:=by omega
      subst this;exact ihb ds1 hb2 hr2 he2
    obtain⟨l,M,h1,h2,h3⟩:=hc;exact⟨l,M,h1,h2,fun x hx=>by
     obtain⟨ps,k0,n3,k1,st3,k2,F3,ρ3,k3,k4,k5,k6⟩:=h3 x hx;exact⟨ps,k0,n3,k1,st3,k2,F3,ρ3,k3,k4,hl0.trans k5,k6⟩⟩
   simp only at he1;cases hct:X.ct f (CM b)with
   |false=>rw[hct]at he1;exact rest hn1 hr1 hb1 (fun _ _=>rfl) (fun _ _ h=>h) he1
   |true=>
    rw[hct]at he1;simp only[cond_true]at he1;cases he1 with
    |cut he1=>
     obtain⟨F2,ρ0,hr0,hb0,hρ0,hF⟩:=Nb hr1 f (CM b) hb1;exact rest hn1 hr0 hb0 hρ0 hF he1
  |exit i=>exact⟨[⟨.exit i,fr1,h1,ds1⟩],0,fun _ _ _ _=>rfl,fun _=>⟨_,rfl⟩,fun x hx=>by cases zg.1 hx;exact⟨[],⟨rfl,zo,fun _ hb=>(by cases hb)⟩,n1,hn1,st1,he1,F',ρ',hr1,hb1,zF,zf _⟩⟩
  |ret=>exact⟨[⟨.ret,fr1,h1,ds1⟩],0,fun _ _ _ _=>rfl,fun _=>⟨_,rfl⟩,fun x hx=>by cases zg.1 hx;exact⟨[],⟨rfl,zo,fun _ hb=>(by cases hb)⟩,n1,hn1,st1,he1,F',ρ',hr1,hb1,zF,zf _⟩⟩
 |cond x a b iha ihb=>
  intro h0 st k F ρ fr h ds hb hr he;unfold exec at he;have go:∀ {t:Bool} {st1:AF},ev X.C fr x=some (.bool t)→Rel B h0 F ρ st1 fr h→base≤st1.nx→Ev X Q n (bif t then exec X (B5 X nd d) (B5 X false d) nd ro d f base a st1 k else exec X (B5 X nd d) (B5 X false d) nd ro d f base b st1 k)→Fp B h0 X base n Q k F ρ h nd (fun m q=>Bu X.C (Bf X.C m) rv ct q (.cond x a b) fr h ds) ds:=by
   intro t st1 hx hr1 hb1 he;cases t with
   |true=>exact stepq (iha ds hb1 hr1 he) (fun m q=>by simp only[Bu,hx])
   |false=>exact stepq (ihb ds hb1 hr1 he) (fun m q=>by simp only[Bu,hx])
  split at he
  case h_4=>exact absurd he zw
  case h_3=>
   rename_i ht;obtain⟨y,g1,g2⟩:=Cd (C:=X.C) hr.fp ht;simp only[PR]at g2;obtain⟨t,rfl⟩:=g2;split at he
   case h_2=>exact absurd he zw
   rename_i s;have hs:fr.get s=.bool t:=by simpa [ev]using g1
   obtain⟨he1,he2⟩:=he.Rr;cases t with
   |true=>exact go g1 (hr.note (by rw[hs];exact KN _)) hb he1
   |false=>exact go g1 (hr.note (by rw[hs];exact KN _)) hb he2
  case h_1=>
   rename_i t ht;obtain⟨y,g1,g2⟩:=Cd (C:=X.C) hr.fp ht;obtain rfl:=MV g2;exact go g1 hr hb he
  case h_2=>
   rename_i t ht;obtain⟨y,g1,g2⟩:=Cd (C:=X.C) hr.fp ht;obtain rfl:=Gi g2;split at he
   case h_1=>
    rename_i s;have hs:fr.get s=.bool t:=by simpa [ev]using g1
    rcases he.D5 with⟨ht1,he2⟩|⟨ht1,he2⟩
    ·have ht1:t=true:=ht1;subst ht1;exact go g1 (hr.note (by rw[hs];exact KN _)) hb he2
    ·have ht1:t=false:=ht1;subst ht1;exact go g1 (hr.note (by rw[hs];exact KN _)) hb he2
   case h_2=>
    rcases he.D5 with⟨ht1,he2⟩|⟨ht1,he2⟩
    ·have ht1:t=true:=ht1;subst ht1;exact go g1 hr hb he2
    ·have ht1:t=false:=ht1;subst ht1;exact go g1 hr hb he2
 |block id b ih=>
  intro h0 st k F ρ fr h ds hb hr he;unfold exec at he;obtain⟨l,M,h1,h2,h3⟩:=ih ds hb hr he;refine⟨l.map fun x=>match x.e with
    | .exit i=>bif zn i id then { x with e:=.normal }else x
    |_=>x,M+1,fun m hm q hq=>?_,fun e=>?_,fun y hy=>?_⟩
  ·obtain⟨q',rfl⟩:=fuel (show 1≤q by omega);have g1:=h1 m (by omega) q' (by omega);simp only at g1;simp only[Bu,g1];rfl
  ·obtain⟨y,rfl⟩:=h2 e;exact⟨_,rfl⟩
  ·obtain⟨⟨e,fr1,hh1,ds1⟩,hx,rfl⟩:=List.mem_map.1 hy;obtain⟨ps,k0,n1,k1,st1,he1,F',ρ',k3,k4,k5,k6⟩:=h3 _ hx;cases e with
   |normal=>exact⟨ps,k0,n1,k1,st1,he1,F',ρ',k3,k4,k5,k6⟩
   |ret=>exact⟨ps,k0,n1,k1,st1,he1,F',ρ',k3,k4,k5,k6⟩
   |exit i=>
    simp only at he1 ⊢;cases hbe:zn i id with
    |true=>rw[hbe]at he1;exact⟨ps,k0,n1,k1,st1,he1,F',ρ',k3,k4,k5,k6⟩
    |false=>rw[hbe]at he1;exact⟨ps,k0,n1,k1,st1,he1,F',ρ',k3,k4,k5,k6⟩
 |loop b ih=>
  intro h0 st k F ρ fr h ds hb hr he;unfold exec at he;cases he with
  |@loop n0 _ _ _ _ _ _ _ _ he=>
  obtain⟨F0,ρ0,hr0,hb0,hρ0,hF0⟩:=Nb hr f (CM b) hb;have hl0:Le F ρ base F0 ρ0 base:=⟨hF0,fun id hi=>.inl (hρ0 id hi),zf _⟩;unfold body at he;have hbody:=IH n0 (Nat.lt_succ_self _) b ds hb0 hr0 he;have hch:Fp B h0 X base (n0+1) Q k F0 ρ0 h nd (fun m q=>match Bu X.C (Bf X.C m) rv ct q b fr h ds with|some l=>bl l (fun x=>match x.e with| .normal=>Bu X.C (Bf X.C m) rv ct q (.loop b) x.fr x.h x.ds|_=>some [x])|none=>none) ds:=by
   refine chain (run2:=fun m q x=>match x.e with| .normal=>Bu X.C (Bf X.C m) rv ct q (.loop b) x.fr x.h x.ds|_=>some [x]) (Nat.le_succ n0) hbody fun x ps1 n1 hn1 st1 he1 F' ρ' hr1 hb1=>?_
   obtain⟨e,fr1,h1,ds1⟩:=x;cases e with
   |normal=>
    have he1':Ev X Q n1 (exec X (B5 X nd d) (B5 X false d) nd ro d f base (.loop b) st1 k):=by unfold exec;exact he1
    obtain⟨l,M,h1,h2,h3⟩:=IH n1 (by omega) (.loop b) ds1 hb1 hr1 he1';exact⟨l,M,h1,h2,fun x hx=>by obtain⟨ps,k0,n2,k1,k2⟩:=h3 x hx;exact⟨ps,k0,n2,by omega,k2⟩⟩
   |exit i=>exact⟨[⟨.exit i,fr1,h1,ds1⟩],0,fun _ _ _ _=>rfl,fun _=>⟨_,rfl⟩,fun x hx=>by cases zg.1 hx;exact⟨[],⟨rfl,zo,fun _ hb=>(by cases hb)⟩,n1,by omega,st1,he1,F',ρ',hr1,hb1,zF,zf _⟩⟩
   |ret=>exact⟨[⟨.ret,fr1,h1,ds1⟩],0,fun _ _ _ _=>rfl,fun _=>⟨_,rfl⟩,fun x hx=>by cases zg.1 hx;exact⟨[],⟨rfl,zo,fun _ hb=>(by cases hb)⟩,n1,by omega,st1,he1,F',ρ',hr1,hb1,zF,zf _⟩⟩
  obtain⟨l,M,g1,g2,g3⟩:=stepq (run':=fun m q=>Bu X.C (Bf X.C m) rv ct q (.loop b) fr h ds) hch (fun m q=>rfl);refine⟨l,M,g1,g2,fun x hx=>?_⟩;obtain⟨ps,k0,n2,k1,st2,k2,F2,ρ2,k3,k4,k5,k6⟩:=g3 x hx;exact⟨ps,k0,n2,k1,st2,k2,F2,ρ2,k3,k4,hl0.trans k5,k6⟩
 |scope b ih=>
  intro h0 st k F ρ fr h ds hb hr he;unfold exec at he;exact stepq (ih ds hb hr he) (fun m q=>rfl)
 |rangeFunc g ps a b _ _=>
  intro h0 st k F ρ fr h ds hb hr he;unfold exec at he;exact absurd he zw
 |goto l=>intro h0 st k F ρ fr h ds hb hr he;exact absurd he zw
 |refuse s=>intro h0 st k F ρ fr h ds hb hr he;exact absurd he zw
end
section
variable {B:Nat}{h0:H0}{X:AW}{F:Fz}{ρ:DF}{N:Nat}{st st':AF}{fr:Fr}{h:H}
theorem IP:∀ {ps:List PV} {i t:Nat} {p:PV},(t,p)∈DL ps i→∃k,t=i+k∧ps[k]?=some p
 |[],i,t,p,h=>by cases h
 |q::ps,i,t,p,h=>by
  unfold DL at h;rcases zE.1 h with h|h
  ·cases h;exact⟨0,rfl,rfl⟩
  ·obtain⟨k,h1,h2⟩:=IP h;exact⟨k+1,by rw[h1];show i+1+k=_;omega,by simpa using h2⟩
theorem Z5{ps:List PV}{vs:List V}(hp:A8 F ρ N ps vs)(n:Nat)(ob:Ob)(nx:Nat)(_hnx:nx=N):FP F ρ N (Al (zz ps.length (Nat.sub n ps.length)) (DL ps 0) ob nx) (Ku n vs):=by
 refine⟨by show ps.length+(n-ps.length)=vs.length+(n-vs.length);rw[hp.len],fun t=>?_⟩;show PR F ρ N (((DK (DL ps 0)).get t).getD .any) _;cases hg:(DK (DL ps 0)).get t with
 |none=>show PR F ρ N .any _;simp[PR]
 |some p=>
  show PR F ρ N p _;rcases Ho _ .leaf t p hg with h1|h1
  ·obtain⟨k,h2,h3⟩:=IP h1;obtain rfl:t=k:=by omega
   obtain⟨v,h4,h5⟩:=hp.get h3;have hlt:=(List.getElem?_eq_some_iff.1 h4).1;unfold Ku Fr.get;simp only;rw[Kn,if_pos (by omega),Nat.sub_zero,h4];exact h5
  ·simp at h1
theorem YA{T:BZ}{st s:AF}{t:TypeId}{a p:PV}(h:(KS T st t a).To p s):s=st:=by
 unfold KS at h;split at h
 case h_2=>exact absurd h (by simp)
 split at h
 case h_4=>exact absurd h (by simp)
 ·split at h
  case h_3=>exact absurd h (by simp)
  ·simp only[LB]at h;exact h.2.symm
  ·rename_i s' l _;cases hc:(zn _ 0&&zn s'.sz 1)with
   |false=>rw[hc]at h;exact absurd h (by simp)
   |true=>rw[hc]at h;simp only[cond_true,MU]at h;exact h.2.2.symm
 ·split at h
  case h_2=>exact absurd h (by simp)
  rename_i sz j off _ _ _ s' l _;cases hc:(zn sz s'.sz)with
  |false=>rw[hc]at h;exact absurd h (by simp)
  |true=>rw[hc]at h;simp only[cond_true,MU]at h;exact h.2.2.symm
 ·simp only[LB]at h;exact h.2.symm
theorem Nt{Q:PV→Ob→Prop}{n:Nat}{t:Tr}:∀ {cs:List Bool},Ev X Q n (LV cs t)→(∀c∈cs,c=true)∧Ev X Q n t
 |[],h=>⟨fun c hc=>(by cases hc),h⟩
 |c::cs,h=>by
  unfold LV at h;rcases h.D5 with⟨hc,h1⟩|⟨_,h1⟩
  ·obtain⟨h2,h3⟩:=Nt h1;exact⟨fun d hd=>by
    rcases zE.1 hd with rfl|hd
    ·exact hc
    ·exact h2 d hd,h3⟩
  ·exact absurd h1 zw
theorem Q8:∀ {rs:List ResultVar} {ps:List PV} {F:Fz} {ρ:DF},Rel B h0 F ρ st fr h→WC X.C.T st rs=some ps→(∀c∈Jy X.C.T st rs,c=true)→
  ∃vs F' ρ',MH X.C fr h rs=some vs∧A8 F' ρ' st.nx ps vs∧Rel B h0 F' ρ' st fr h∧Le F ρ st.nx F' ρ' st.nx
 |[],ps,F,ρ,hr,hp,_=>by cases hp;exact⟨[],F,ρ,rfl,by simp,hr,zF⟩
 |r::rs,ps,F,ρ,hr,hp,hall=>by
  unfold WC at hp;split at hp
  case h_2=>cases hp
  rename_i p ps' h1 h2;cases hp;have key:∃v F1 ρ1,Ud X.C fr h r=some v∧PR F1 ρ1 st.nx p v∧Rel B h0 F1 ρ1 st fr h∧Le F ρ st.nx F1 ρ1 st.nx:=by
   cases r with
   |tmp t=>
    simp only[XU,zh]at h1;subst h1;exact⟨_,F,ρ,rfl,hr.fp.slot t,hr,zF⟩
   |cell a t=>
    have ht:∃s,(KS X.C.T st t (st.get a)).To p s:=by
     simp only[XU]at h1;split at h1
     case h_3=>cases h1
     ·rename_i u s hl;cases h1;exact⟨s,by rw[hl];exact .val⟩
     ·rename_i c u s hl;cases h1;refine⟨s,?_⟩;have:=hall c (by unfold Jy;rw[hl];exact zt);rw[hl,this];show(PO.HQ true p s).To p s;rw[By];exact⟨rfl,rfl,rfl⟩
    obtain⟨s,ht⟩:=ht;have hs:s=st:=YA ht;subst hs;obtain⟨v',h',F',ρ',g1,g2,g3,g4,g5,g6,g7,g8⟩:=X8 (C:=X.C) hr.sr (hr.fp.slot a) ht;cases hd:Ei X.C.T h t (fr.get a)with
    |none=>rw[hd]at g1;rcases g1 with g1|⟨g1,_⟩<;>cases g1
    |some w=>
     rw[hd]at g1;rcases g1 with g1|⟨g1,_⟩
     ·simp only[Bj,zh,OR.val.injEq]at g1;obtain⟨rfl,rfl⟩:=g1;exact⟨w,F',ρ',hd,g2,⟨hr.fp.mono g4,g3⟩,g4⟩
     ·cases g1
  obtain⟨v,F1,ρ1,k1,k2,k3,k4⟩:=key;obtain⟨vs,F2,ρ2,k5,k6,k7,k8⟩:=Q8 k3 h2 (fun c hc=>hall c (by
   cases r with
   |tmp t=>unfold Jy;exact hc
   |cell a t=>
    unfold Jy;split
    ·exact zB _ hc
    ·exact hc))
  exact⟨v::vs,F2,ρ2,by simp[MH,k1,k5],by simp only[AQ];exact⟨k2.mono k8,k6⟩,k7,k4.trans k8⟩
theorem EE{nd:Bool}{d:Nat}(hcall:∀h0,Fv B h0 X nd (B5 X nd d))(hcallD:∀h0,Fv B h0 X false (B5 X false d))(hmg:X.C.mg=false){g:FuncId}(hsp:X.C.spec g=none)(hprim:X.C.prim g=none)(hno:X.sp g=none){Q:PV→Ob→Prop}{n:Nat}{args:List PV}{k:PV→AF→Tr}{args':List V}
  (he:Ev X Q n (enter X (B5 X nd d) (B5 X false d) nd d g args st k)) (hr:Rel B h0 F ρ st fr h) (ha:A8 F ρ st.nx args args'):
  (X.C.prim g=none∧∃i,X.C.fn g=some i)∧∃l M,(∀m,M≤m→Bf X.C m (.fn g args') h=some l)∧(nd=false→∃x,l=[x])∧
   ∀x∈l,∃n',n'≤n∧∃r st',Ev X Q n' (k r st')∧∃F' ρ',PR F' ρ' st'.nx r x.1∧DD B h0 F ρ st.nx h st' fr x.2 F' ρ'∧(∀sp,X.sp g=some sp→∀b,b<h.nx→x.2.get b=h.get b):=by
 unfold enter at he;split at he
 case h_1=>exact absurd he zw
 rename_i i hi;cases hc:i.cert with
 |false=>rw[hc]at he;exact absurd he zw
 |true=>
  rw[hc]at he;simp only[cond_true]at he;have hr0:Rel B h0 F ρ (Al (zz args.length (Nat.sub i.ntmps args.length)) (DL args 0) st.ob st.nx) (Ku i.ntmps args') h:=⟨Z5 ha i.ntmps st.ob st.nx rfl,hr.sr⟩;obtain⟨l,M,hM,hone,hall⟩:=Xo (ro:=false) (rv:=none) (ct:=true) (fun _=>⟨rfl,rfl⟩) hcall hcallD n i.body (st:=Al (zz args.length (Nat.sub i.ntmps args.length)) (DL args 0) st.ob st.nx) [] (zf st.nx) hr0 he;have fin:∀x∈l,∃(r:List (V×H)) (M:Nat),(∀m:Nat,M≤m→∀q:Nat,M≤q→(match x.e with
      | .exit _=>none
      |_=>match ER x.ds x.h with
       |some h1=>match Nk X.C x.fr h1 i.results.toList with
        |some v=>some [(v,h1)]
        |none=>none
       |none=>none)=some r)∧(nd=false→∃x,r=[x])∧∀x∈r,∃n',n'≤n∧∃r st',Ev X Q n' (k r st')∧∃F' ρ',PR F' ρ' st'.nx r x.1∧DD B h0 F ρ st.nx h st' fr x.2 F' ρ'∧(∀sp,X.sp g=some sp→∀b,b<h.nx→x.2.get b=h.get b):=by
   intro x hx;obtain⟨ps,⟨hds,hnodup,hge⟩,n1,hn1,st1,he1,F1,ρ1,hr1',hb1,hl1,hx1'⟩:=hall x hx;obtain⟨e,fr1,hx0,ds1⟩:=x;simp only at hds he1 hr1' hx1' ⊢;obtain⟨h1,hlv,hsr1,hnx1,_⟩:=SR.leave hnodup (fun b hb hp=>by
    have k1:=hge b hb;have k2:=hr.sr.lt b _ (hr.sr.pn b hp).1;omega) hr1'.sr
   have hr1:Rel B h0 F1 ρ1 st1 fr1 h1:=⟨hr1'.fp,hsr1⟩;have hx1:h.nx≤h1.nx:=by rw[hnx1];exact hx1'
   rw[List.append_nil]at hds;subst hds;have go:(∀j,e≠ .exit j)→Ev X Q n1 (match WC X.C.T st1 i.results.toList with|some vs=>LV (Jy X.C.T st1 i.results.toList) (k (Go.Pe.one vs) ⟨st.n,st.fr,st1.ob,st1.nx⟩)|none=>.fail)→
     ∃v',Nk X.C fr1 h1 i.results.toList=some v'∧∃n',n'≤n∧∃r st',Ev X Q n' (k r st')∧∃F' ρ',PR F' ρ' st'.nx r v'∧DD B h0 F ρ st.nx h st' fr h1 F' ρ'∧(∀sp,X.sp g=some sp→∀b,b<h.nx→h1.get b=h.get b):=by
    intro hne he2;split at he2
    case h_2=>exact absurd he2 zw
    rename_i ps hps;obtain⟨hcond,he2⟩:=Nt he2;obtain⟨vs,F2,ρ2,k1,k2,k3,k4⟩:=Q8 hr1 hps hcond;have hle:Le F ρ st.nx F2 ρ2 st1.nx:=⟨fun b cs hb=>k4.fz _ _ (hl1.fz _ _ hb),fun id hid=>by
     rcases k4.rho id (zy hid hb1)with e|e
     ·rw[e];exact hl1.rho id hid
     ·exact .inr e,hb1⟩
    have hres:∃r',Nk X.C fr1 h1 i.results.toList=some r'∧PR F2 ρ2 st1.nx (Go.Pe.one ps) r':=by
     unfold Nk;rw[k1];cases ps with
     |nil=>simp at k2;subst k2;exact⟨_,rfl,by simp[Go.Pe.one,PR]⟩
     |cons p ps=>
      simp only[A8]at k2;obtain⟨v1,vs1,rfl,g1,g2⟩:=k2;cases ps with
      |nil=>simp at g2;subst g2;exact⟨_,rfl,g1⟩
      |cons q qs=>
       have g2':=g2;simp only[A8]at g2;obtain⟨v2,vs2,rfl,_,_⟩:=g2;refine⟨_,rfl,?_⟩;show PR F2 ρ2 st1.nx (.tup (p::q::qs)) _;unfold PR;exact⟨_,rfl,by simp only[AQ];exact⟨g1,by simpa only[AQ]using g2'⟩⟩
    obtain⟨r',q1,q2⟩:=hres;exact⟨r',q1,n1,hn1,_,_,he2,F2,ρ2,q2,⟨⟨⟨hr.fp.n,fun t=>(hr.fp.slot t).mono hle⟩,k3.sr⟩,hle,hx1⟩,fun sp h=>(by rw[hno]at h;cases h)⟩
   cases e with
   |normal=>
    obtain⟨v',q1,q2⟩:=go (fun j=>by simp) he1;exact⟨[(v',h1)],0,fun m _ q _=>(by simp only[hlv,q1]),fun _=>⟨_,rfl⟩,fun y hy=>by cases zg.1 hy;exact q2⟩
   |ret=>
    obtain⟨v',q1,q2⟩:=go (fun j=>by simp) he1;exact⟨[(v',h1)],0,fun m _ q _=>(by simp only[hlv,q1]),fun _=>⟨_,rfl⟩,fun y hy=>by cases zg.1 hy;exact q2⟩
   |exit j=>exact absurd he1 zw
  obtain⟨r,M2,g1,g2,g3⟩:=Ql (f:=fun _ _ (x:Det.X)=>match x.e with
      | .exit _=>none
      |_=>match ER x.ds x.h with
       |some h1=>match Nk X.C x.fr h1 i.results.toList with
        |some v=>some [(v,h1)]
        |none=>none
       |none=>none) (P:=fun x=>∃n',n'≤n∧∃r st',Ev X Q n' (k r st')∧∃F' ρ',PR F' ρ' st'.nx r x.1∧DD B h0 F ρ st.nx h st' fr x.2 F' ρ'∧(∀sp,X.sp g=some sp→∀b,b<h.nx→x.2.get b=h.get b)) hone fin
  refine⟨⟨hprim,i,hi⟩,r,max M M2+1,fun m hm=>?_,g2,g3⟩;obtain⟨m',rfl⟩:∃m',m=m'+1:=⟨m-1,by omega⟩;have hd:=hM m' (by omega) m' (by omega);have hg:=g1 m' (by omega) m' (by omega);simp only at hd;have:Bf X.C (m'+1) (.fn g args') h=(match Bu X.C (Bf X.C m') none i.cert m' i.body (Ku i.ntmps args') h []with
    |none=>none
    |some l=>match (bl l fun x=>match x.e with
     | .exit _=>none
     |_=>match ER x.ds x.h with
      |some h1=>match Nk X.C x.fr h1 i.results.toList with
       |some v=>some [(v,h1)]
       |none=>none
      |none=>none)with
     |some r=>some (bif X.C.mg then NF h.nx r else r)
     |none=>none):=by
   rw[Bf];simp only[hsp,hi];rfl
  rw[this,hc,hd];simp only;have hg':(bl l fun x=>match x.e with
     | .exit _=>none
     |_=>match ER x.ds x.h with
      |some h1=>match Nk X.C x.fr h1 i.results.toList with
       |some v=>some [(v,h1)]
       |none=>none
      |none=>none)=some r:=hg
  rw[hg',hmg];rfl
end
section
variable {B:Nat}{h0:H0}{X:AW}{F F1 F':Fz}{ρ:DF}{N:Nat}{st st':AF}{fr:Fr}{h h':H}
theorem Wb{p:PV}{v:V}(hp:PR F ρ N p v):∃w,A8 F ρ N p.cells w∧(Ix p=true→v=.agg w)∧(Ix p=false→w=[v]):=by
 cases p with
 |agg l=>simp only[PR]at hp;obtain⟨cs,rfl,h1⟩:=hp;exact⟨cs,h1,fun _=>rfl,fun e=>by cases e⟩
 |_=>exact⟨[v],by simp only[zp,AQ,BU,and_true];exact hp,fun e=>(by cases e),fun _=>rfl⟩
theorem Oo{st:AF}{s:Sh}{p:PV}{x:s.T}{v:V}{w:List V}(ha:Df st s p=some (true,x))(h1:Ix p=true→v=.agg w)(h2:Ix p=false→w=[v])(hw:∀xs,Dq st p.cells=some (true,xs)→Kv F xs w):PC F (BY s x) v:=by
 unfold Df at ha;cases hb:(Ix p==s.Mo)with
 |false=>rw[hb]at ha;cases ha
 |true=>
  rw[hb]at ha;simp only[cond_true]at ha;split at ha
  case h_2=>cases ha
  rename_i c cs hcs;split at ha
  case h_2=>cases ha
  rename_i y hy;simp only[zh,zA,zk]at ha;obtain⟨⟨hco,rfl⟩,rfl⟩:=ha;have hdc:=Kv.dc (fun ρ N=>OT (hw cs hcs ρ N) hco) hy;have hk:=PC.BY hdc;have hb:Ix p=s.Mo:=by simpa using hb
  cases hp:s.Mo with
  |true=>rw[hp]at hb;rw[h1 hb];exact hk.1 hp
  |false=>rw[hp]at hb;exact hk.2 hp v (h2 hb)
theorem handed:∀ {ps:List PV} {vs:List V} {st:AF} {F:Fz},SR B h0 F ρ st.nx st.ob h→A8 F ρ st.nx ps vs→
  ∃F1,SR B h0 F1 ρ (Ba (ps.flatMap zp) st).nx (Ba (ps.flatMap zp) st).ob h∧(∀b cs,F b=some cs→F1 b=some cs)∧∀l i,Cn st l ps=some (true,i)→Kv F1 (Ag l i) vs
 |[],vs,st,F,hr,hp=>⟨F,hr,fun _ _ h=>h,fun l i hi=>by
  have hv:vs=[]:=by simpa using hp
  subst hv;match l,i,hi with
  |[],_,_=>intro ρ' N';simp[Ag]
  |[a],_,hi=>cases hi
  |a::b::l,_,hi=>cases hi⟩
 |p::ps,vs,st,F,hr,hp=>by
  simp only[A8]at hp;obtain⟨v,vs,rfl,h1,h2⟩:=hp;obtain⟨w,c1,c2,c3⟩:=Wb h1;obtain⟨F1,g1,g2,g3⟩:=Hz hr c1;have h2':A8 F1 ρ (Ba p.cells st).nx ps vs:=by rw[(CW p.cells st).1];exact h2.mono (Le.VH g2)
  obtain⟨F2,k1,k2,k3⟩:=handed g1 h2';rw[List.flatMap_cons,Hf];refine⟨F2,k1,fun b cs hb=>k2 b cs (g2 b cs hb),fun l i hi=>?_⟩;match l,i,hi with
  |[],_,hi=>cases hi
  |[a],i,hi=>
   cases ps with
   |cons q qs=>cases hi
   |nil=>
    have hv:vs=[]:=by simpa using h2
    subst hv;have:=(Oo (st:=st) (F:=F1) (by simpa [Cn]using hi) c2 c3 g3).mono k2;intro ρ' N';simp only[Ag,AQ,BU,and_true];exact this ρ' N'
  |a::b::l,i,hi=>
   unfold Cn at hi;split at hi
   case h_2=>cases hi
   rename_i c x d y e1 e2;simp only[zh,zA,zk]at hi;obtain⟨⟨rfl,rfl⟩,rfl⟩:=hi;unfold Ag;exact Kv.cons ((Oo e1 c2 c3 g3).mono k2) (k3 (b::l) y (by rw[JU (Ko p.cells st)];exact e2))
theorem SR.after{ob:Ob}(hr:SR B h0 F ρ N ob h)(hs:∀b,b<h.nx→h'.get b=h.get b)(hx:h.nx≤h'.nx)(hlt:∀b o,h'.get b=some o→b<h'.nx)(hF:∀b cs,F b=some cs→F' b=some cs)
  (hN:∀b cs,F' b=some cs→F b=some cs∨h.nx≤b) (hfr:∀b cs,F' b=some cs→∃t fz,h'.get b=some (.cells cs t fz)):SR B h0 F' ρ N ob h':=by
 refine⟨fun id o ho=>?_,hr.inj,hfr,hr.own,hr.dead,fun b hb he=>?_,hlt,zr hr.le hx,fun b cs hb=>?_,fun b hb=>by obtain⟨g1,g2,g3⟩:=hr.pn b hb;exact⟨by rw[hs b (hr.lt b _ g1)];exact g1,g2,g3⟩⟩
 ·obtain⟨b,n,x,h1,h2,h3,h4,h5⟩:=hr.obj id o ho;have hb:=hr.lt b x h2;refine⟨b,n,x,h1,by rw[hs b hb];exact h2,h3.mono (Le.VH (ρ:=ρ) hF),fun e=>?_,fun e=>?_⟩
  ·cases hc:F' b with
   |none=>rfl
   |some cs=>
    rcases hN b cs hc with h6|h6
    ·rw[h4 e]at h6;cases h6
    ·omega
  ·obtain⟨cs,t,fz,k1,k2⟩:=h5 e;exact⟨cs,t,fz,k1,hF _ _ k2⟩
 ·rw[hs b (zy hb hr.le)];exact hr.old b hb he
 ·rcases hN b cs hb with h1|h1
  ·exact hr.fo b cs h1
  ·exact .inr (.inl (zr hr.le h1))
structure PT(C:Ctx)(f:FuncId)(sp:As):Prop where
 prim:C.prim f=none
 fn:∃i,C.fn f=some i
 run:∀(F:Fz) (h:H) (args:List V) (i:(Bi sp.ins).T),(∀b cs,F b=some cs→∃t fz,h.get b=some (.cells cs t fz))→(∀b o,h.get b=some o→b<h.nx)→Kv F (Ag sp.ins i) args→sp.pre i=true→
  ∃l M,(∀m,M≤m→Bf C m (.fn f args) h=some l)∧(sp.nd=false→∃x,l=[x])∧∀x∈l,h.nx≤x.2.nx∧(∀b,b<h.nx→x.2.get b=h.get b)∧(∀b o,x.2.get b=some o→b<x.2.nx)∧
   ∃F':Fz,(∀b cs,F b=some cs→F' b=some cs)∧(∀b cs,F' b=some cs→F b=some cs∨h.nx≤b)∧(∀b cs,F' b=some cs→∃t fz,x.2.get b=some (.cells cs t fz))∧
    PC F' (one (Ag sp.outs (sp.f i))) x.1
structure gF(C:Ctx)(f:FuncId)(sp:As):Prop where
 run:∃q,C.prim f=some q∧∀(F:Fz) (h:H) (args:List V) (i:(Bi sp.ins).T),Kv F (Ag sp.ins i) args→sp.pre i=true→∃v,q args h=some (v,h)∧PC F (one (Ag sp.outs (sp.f i))) v
def Ad(C:Ctx)(f:FuncId)(sp:As):Prop:=PT C f sp∨gF C f sp
theorem Ad.oP{C:Ctx}{f:FuncId}{sp:As}(h:PT C f sp):Ad C f sp:=.inl h
theorem Ad.zero{C:Ctx}{f:FuncId}{sp:As}(h:Ad C f sp)(hp:C.prim f=none):PT C f sp:=by
 rcases h with h|⟨q,hq,_⟩
 ·exact h
 ·rw[hp]at hq;cases hq
theorem Ad.go{C:Ctx}{f:FuncId}{sp:As}(ok:Ad C f sp)(F:Fz)(h:H)(args:List V)(i:(Bi sp.ins).T)(hfz:∀b cs,F b=some cs→∃t fz,h.get b=some (.cells cs t fz))(hlt:∀b o,h.get b=some o→b<h.nx)(ha:Kv F (Ag sp.ins i) args)(hp:sp.pre i=true):
  ∃l,(((C.prim f=none∧∃i,C.fn f=some i)∧∃M,∀m,M≤m→Bf C m (.fn f args) h=some l)∨∃q x,C.prim f=some q∧q args h=some x∧l=[x])∧(sp.nd=false→∃x,l=[x])∧∀x∈l,h.nx≤x.2.nx∧(∀b,b<h.nx→x.2.get b=h.get b)∧(∀b o,x.2.get b=some o→b<x.2.nx)∧
   ∃F':Fz,(∀b cs,F b=some cs→F' b=some cs)∧(∀b cs,F' b=some cs→F b=some cs∨h.nx≤b)∧(∀b cs,F' b=some cs→∃t fz,x.2.get b=some (.cells cs t fz))∧
    PC F' (one (Ag sp.outs (sp.f i))) x.1:=by
 rcases ok with ok|⟨q,hq,hrun⟩
 ·obtain⟨l,M,h1,h2,h3⟩:=ok.run F h args i hfz hlt ha hp;exact⟨l,.inl ⟨⟨ok.prim,ok.fn⟩,M,h1⟩,h2,h3⟩
 ·obtain⟨v,h1,h2⟩:=hrun F h args i ha hp;refine⟨[(v,h)],.inr ⟨q,(v,h),hq,h1,rfl⟩,fun _=>⟨_,rfl⟩,fun x hx=>?_⟩;cases zg.1 hx;exact⟨zf _,fun _ _=>rfl,hlt,F,fun _ _ h=>h,fun _ _ h=>.inl h,hfz,h2⟩
theorem DC.sc:∀ {s:Sh} {x:s.T} {cs:List V},s.sc=true→DC F s x cs→DC F' s x cs
 | .int _,_,_,_,h=>by simpa only[DC]using h
 | .bool,_,_,_,h=>by simpa only[DC]using h
 | .str,_,_,_,h=>by simpa only[DC]using h
 | .list s,l,_,e,h=>by cases e
 | .pair a b,x,_,e,h=>by
  simp only[DC]at h ⊢;simp only[Sh.sc,zk]at e;obtain⟨c,d,rfl,h1,h2⟩:=h;exact⟨c,d,rfl,h1.sc e.1,h2.sc e.2⟩
 | .unit,_,_,_,h=>by simpa only[DC]using h
 | .nlist s,l,_,e,h=>by cases e
 | .fnv,_,_,_,h=>by simpa only[DC]using h
theorem Qp:∀ {s:Sh} {x:s.T} {cs:List V},s.sc=true→A8 F ρ N (flat s x) cs→Kv F' (flat s x) cs
 | .int k,x,cs,_,h=>fun ρ' N'=>by
  simp only[flat,A8]at h ⊢;obtain⟨v,vs,rfl,h1,rfl⟩:=h;exact⟨v,[],rfl,by simp only[PR]at h1 ⊢;exact h1.sc rfl,rfl⟩
 | .bool,x,cs,_,h=>fun ρ' N'=>by
  simp only[flat,A8]at h ⊢;obtain⟨v,vs,rfl,h1,rfl⟩:=h;exact⟨v,[],rfl,by simp only[PR]at h1 ⊢;exact h1.sc rfl,rfl⟩
 | .str,x,cs,_,h=>fun ρ' N'=>by
  simp only[flat,A8]at h ⊢;obtain⟨v,vs,rfl,h1,rfl⟩:=h;exact⟨v,[],rfl,by simp only[PR]at h1 ⊢;exact h1.sc rfl,rfl⟩
 | .list s,x,cs,e,h=>by cases e
 | .pair a b,(x,y),cs,e,h=>fun ρ' N'=>by
  simp only[Sh.sc,zk]at e;have key:∀(ps qs:List PV) (l:List V),A8 F ρ N (ps++qs) l→∃c d,l=c++d∧A8 F ρ N ps c∧A8 F ρ N qs d:=by
   intro ps;induction ps with
   |nil=>intro qs l hl;exact⟨[],l,rfl,by simp,hl⟩
   |cons p ps ih=>
    intro qs l hl;simp only[List.cons_append,A8]at hl;obtain⟨v,vs,rfl,h1,h2⟩:=hl;obtain⟨c,d,rfl,h3,h4⟩:=ih qs vs h2;exact⟨v::c,d,rfl,by simp only[AQ];exact⟨h1,h3⟩,h4⟩
  obtain⟨c,d,rfl,h1,h2⟩:=key _ _ _ h;exact(Qp e.1 h1 ρ' N').append (Qp e.2 h2 ρ' N')
 | .unit,_,cs,_,h=>fun ρ' N'=>by simpa [flat]using h
 | .nlist s,x,cs,e,h=>by cases e
 | .fnv,x,cs,_,h=>fun ρ' N'=>by
  simp only[flat,A8]at h ⊢;obtain⟨v,vs,rfl,h1,rfl⟩:=h;refine⟨v,[],rfl,?_,rfl⟩;cases (x:Option Fn)<;>simp only[PR,BU]at h1 ⊢<;>exact h1
theorem T4{s:Sh}{x:s.T}{v:V}(e:s.sc=true)(h:PC F (BY s x) v):PC F' (BY s x) v:=by
 intro ρ' N';have h:=h ρ' N';cases s with
 |pair a b=>
  unfold Pe.BY PR at h ⊢;obtain⟨cs,rfl,h1⟩:=h;exact⟨cs,rfl,Qp e h1 ρ' N'⟩
 |unit=>unfold Pe.BY PR at h ⊢;obtain⟨cs,rfl,h1⟩:=h;exact⟨cs,rfl,by simpa using h1⟩
 |int k=>unfold Pe.BY PR at h ⊢;exact h.sc rfl
 |bool=>unfold Pe.BY PR at h ⊢;exact h.sc rfl
 |str=>unfold Pe.BY PR at h ⊢;exact h.sc rfl
 |list s=>cases e
 |nlist s=>cases e
 |fnv=>
  unfold Pe.BY at h ⊢;cases (x:Option Fn)<;>simp only[PR,BU]at h ⊢<;>exact h
theorem Ug:∀ {l:List Sh} {x:(Bi l).T} {vs:List V},l.all Sh.sc=true→Kv F (Ag l x) vs→Kv F' (Ag l x) vs
 |[],_,vs,_,h=>fun ρ' N'=>by have:=h ρ' N';simpa [Ag]using this
 |[a],x,vs,e,h=>fun ρ' N'=>by
  have h1:=h ρ' N';simp only[Ag,A8]at h1;obtain⟨v,vs',rfl,h2,rfl⟩:=h1;simp only[List.all_cons,List.all_nil,Bool.and_true]at e;simp only[Ag,AQ,BU,and_true];refine T4 (F:=F) e (fun ρ2 N2=>?_) ρ' N';have:=h ρ2 N2;simpa only[Ag,AQ,BU,and_true]using this
 |a::b::l,x,vs,e,h=>by
  have h1:=h (fun _=>none) 0;simp only[Ag,A8]at h1;obtain⟨v,vs',rfl,_,_⟩:=h1;have e':a.sc=true∧(b::l).all Sh.sc=true:=by simpa [List.all_cons,Bool.and_assoc]using e
  unfold Ag at h ⊢;exact Kv.cons (T4 e'.1 fun ρ2 N2=>((AQ ..).1 (h ρ2 N2)).1) (Ug e'.2 fun ρ2 N2=>((AQ ..).1 (h ρ2 N2)).2)
theorem M0{l:List Sh}{x:(Bi l).T}{v:V}:PC F (one (Ag l x)) v↔∃vs,Kv F (Ag l x) vs∧v=(match vs with|[u]=>u|us=>.tup us):=by
 have tupc:∀ps:List PV,(∀u,ps≠[u])→(PC F (one ps) v↔∃vs,Kv F ps vs∧v=(match vs with|[u]=>u|us=>.tup us)):=by
  intro ps hne;have h1:one ps=.tup ps:=by
   unfold one;split
   ·rename_i u;exact absurd rfl (hne u)
   ·rfl
  rw[h1];constructor
  ·intro h;have h2:=h (fun _=>none) 0;unfold PR at h2;obtain⟨cs,rfl,h3⟩:=h2;refine⟨cs,fun ρ N=>?_,?_⟩
   ·have h4:=h ρ N;unfold PR at h4;obtain⟨cs',e,h5⟩:=h4;cases e;exact h5
   ·have hl:=h3.len;split
    ·rename_i u;cases ps with
     |nil=>cases hl
     |cons q qs=>cases qs with
      |nil=>exact absurd rfl (hne q)
      |cons _ _=>cases hl
    ·rfl
  ·rintro⟨vs,h2,rfl⟩ ρ N;unfold PR;have hl:=(h2 ρ N).len;split
   ·rename_i u;cases ps with
    |nil=>cases hl
    |cons q qs=>cases qs with
     |nil=>exact absurd rfl (hne q)
     |cons _ _=>cases hl
   ·exact⟨_,rfl,h2 ρ N⟩
 match l,x with
 |[],x=>exact tupc [] (fun u e=>by cases e)
 |[a],x=>
  simp only[Ag,one];constructor
  ·intro h;exact⟨[v],fun ρ N=>by simp only[AQ,BU,and_true];exact h ρ N,rfl⟩
  ·rintro⟨vs,h2,rfl⟩ ρ N;have h3:=h2 ρ N;simp only[A8]at h3;obtain⟨u,us,rfl,h4,rfl⟩:=h3;exact h4
 |a::b::l,x=>
  refine tupc _ (fun u e=>?_);unfold Ag at e;cases l<;>cases e
theorem V0{nd:Bool}{g:FuncId}{sp:As}(_hsp:X.sp g=some sp)(hok:Ad X.C g sp)(hnd:nd=false→sp.nd=false){Q:PV→Ob→Prop}{n:Nat}{args:List PV}{k:PV→AF→Tr}{args':List V}(he:Ev X Q n (Yd sp args st k))(hr:Rel B h0 F ρ st fr h)(ha:A8 F ρ st.nx args args'):
  ∃l,KK X ρ h args' (.fn g) l∧(nd=false→∃x,l=[x])∧
   ∀x∈l,∃n',n'≤n∧∃r st',Ev X Q n' (k r st')∧∃F' ρ',PR F' ρ' st'.nx r x.1∧DD B h0 F ρ st.nx h st' fr x.2 F' ρ'∧(∀sp,X.sp g=some sp→∀b,b<h.nx→x.2.get b=h.get b):=by
 unfold Yd at he;split at he
 case h_2=>exact absurd he zw
 rename_i c i hi;rcases he.D5 with⟨hc,he1⟩|⟨_,he1⟩
 case inr=>exact absurd he1 zw
 simp only[zk]at hc;obtain⟨rfl,hpre⟩:=hc;obtain⟨F1,g1,g2,g3⟩:=handed hr.sr ha;obtain⟨l,hM,hone,hall⟩:=hok.go F1 h args' i g1.frz hr.sr.lt (g3 _ i hi) hpre;have hcd:KK X ρ h args' (.fn g) l:=by
  rcases hM with⟨h1,M,hM⟩|⟨q,x,h1,h2,rfl⟩
  ·exact .Bf ⟨rfl,h1⟩ hM
  ·exact .prim h1 h2
 refine⟨l,hcd,fun e=>hone (hnd e),fun x hx=>?_⟩;obtain⟨k1,k2,k3,F',k4,k5,k6,k7⟩:=hall x hx;refine⟨n,zf _,_,_,he1,?_⟩;cases hsc:sp.outs.all Sh.sc with
 |true=>
  simp only[cond_true];have hv:PC F (one (Ag sp.outs (sp.f i))) x.1:=by
   obtain⟨vs,h1,h2⟩:=M0.1 k7;exact M0.2 ⟨vs,Ug hsc h1,h2⟩
  refine⟨F,ρ,hv ρ _,⟨⟨hr.fp,?_⟩,zF,k1⟩,fun _ _ b hb=>k2 b hb⟩;refine hr.sr.after k2 k1 k3 (fun _ _ h=>h) (fun _ _ h=>.inl h) (fun b cs hb=>?_);obtain⟨t,fz,hg⟩:=hr.sr.frz b cs hb;exact⟨t,fz,by rw[k2 b (hr.sr.lt b _ hg)];exact hg⟩
 |false=>
  simp only[cond_false];obtain⟨e1,e2,e3⟩:=CW (args.flatMap zp) st;have hle:Le F ρ st.nx F' ρ (Ba (args.flatMap zp) st).nx:=by
   rw[e1];exact Le.VH fun b cs hb=>k4 b cs (g2 b cs hb)
  refine⟨F',ρ,k7 ρ _,⟨⟨⟨e3.trans hr.fp.n,fun t=>?_⟩,?_⟩,hle,k1⟩,fun _ _ b hb=>k2 b hb⟩
  ·have:(Ba (args.flatMap zp) st).get t=st.get t:=by unfold AF.get;rw[e2]
   rw[this];exact(hr.fp.slot t).mono hle
  ·exact g1.after k2 k1 k3 k4 k5 k6
structure Dm(C:Ctx)(f:FuncId)(w:Fi):Prop where
 prim:C.prim f=none
 fn:∃i,C.fn f=some i
 len:∀i l,w.pre i l=true→(w.g i l).length=l.length
 run:∀(F:Fz) (h:H) (args:List V) (i:(Bi w.ins).T) (l:List w.el.T) (b:Nat) (cs:List V) (fz:Nat×Nat) (o:Nat),(∀b cs,F b=some cs→∃t fz,h.get b=some (.cells cs t fz))→(∀b o,h.get b=some o→b<h.nx)→Kv F (Ag w.ins i) args→w.pre i l=true→
  h.get b=some (.cells cs w.ty fz)→DH F w.el l cs→fz.2≤fz.1→F b=none→(o=0∨o=w.el.sz)→
  ∃x M,(∀m,M≤m→Bf C m (.fn f (args++[.sl b 0 l.length l.length o])) h=some [x])∧x.1=.tup []∧h.nx≤x.2.nx∧(∀c,c<h.nx→c≠b→x.2.get c=h.get c)∧(∀c y,x.2.get c=some y→c<x.2.nx)∧
   ∃F':Fz,(∀b cs,F b=some cs→F' b=some cs)∧(∀b cs,F' b=some cs→F b=some cs∨h.nx≤b)∧(∀b cs,F' b=some cs→∃t fz,x.2.get b=some (.cells cs t fz))∧
    ∃cs' fz',x.2.get b=some (.cells cs' w.ty fz')∧DH F' w.el (w.g i l) cs'∧fz'.2≤fz'.1
 nils:∀(F:Fz) (h:H) (args:List V) (i:(Bi w.ins).T),(∀b cs,F b=some cs→∃t fz,h.get b=some (.cells cs t fz))→(∀b o,h.get b=some o→b<h.nx)→Kv F (Ag w.ins i) args→w.pre i []=true→
  ∃x M,(∀m,M≤m→Bf C m (.fn f (args++[.nils])) h=some [x])∧x.1=.tup []∧h.nx≤x.2.nx∧(∀c,c<h.nx→x.2.get c=h.get c)∧(∀c y,x.2.get c=some y→c<x.2.nx)∧
   ∃F':Fz,(∀b cs,F b=some cs→F' b=some cs)∧(∀b cs,F' b=some cs→F b=some cs∨h.nx≤b)∧(∀b cs,F' b=some cs→∃t fz,x.2.get b=some (.cells cs t fz))
theorem A8.split:∀ {a b:List PV} {vs:List V},A8 F ρ N (a++b) vs→∃x y,vs=x++y∧A8 F ρ N a x∧A8 F ρ N b y
 |[],b,vs,h=>⟨[],vs,rfl,by simp,h⟩
 |p::a,b,vs,h=>by
  simp only[List.cons_append,A8]at h;obtain⟨v,vs,rfl,h1,h2⟩:=h;obtain⟨x,y,rfl,h3,h4⟩:=h2.split;exact⟨v::x,y,rfl,by simp only[AQ];exact⟨h1,h3⟩,h4⟩
theorem SR.wrote{ob:Ob}(hr:SR B h0 F ρ N ob h){id b n:Nat}{o o':Obj}{x':O}(ho:AE ob id=some o)(hb:ρ id=some (b,n))(hbn:b<h.nx)(hFb:F b=none)(hf':o'.frozen=false)(hg':h'.get b=some x')(hx':Ur F' ρ N n o' x')
  (hs:∀c,c<h.nx→c≠b→h'.get c=h.get c) (hx:h.nx≤h'.nx) (hlt:∀b o,h'.get b=some o→b<h'.nx) (hF:∀b cs,F b=some cs→F' b=some cs)
  (hN:∀b cs,F' b=some cs→F b=some cs∨h.nx≤b) (hfr:∀b cs,F' b=some cs→∃t fz,h'.get b=some (.cells cs t fz)):SR B h0 F' ρ N (C6 ob id o') h':=by
 have hset:∀j,AE (C6 ob id o') j=if j=id then some o' else AE ob j:=fun j=>FH _ _ _ _ (by rw[ho];rfl)
 have none':∀c,c<h.nx→F c=none→F' c=none:=fun c hc hn=>by
  cases h1:F' c with
  |none=>rfl
  |some cs=>
   rcases hN c cs h1 with h2|h2
   ·rw[hn]at h2;cases h2
   ·omega
 refine⟨fun j oj hj=>?_,fun i j oi oj c m m' hi hj h1 h2=>?_,hfr,hr.own,fun j hj=>?_,fun c hc he=>?_,hlt,zr hr.le hx,fun c cs hc=>?_,fun c hc=>?_⟩
 ·rw[hset]at hj;by_cases e:j=id
  ·subst e;simp only[if_true,zh]at hj;subst hj;exact⟨b,n,x',hb,hg',hx',fun _=>none' b hbn hFb,fun e=>by rw[hf']at e;cases e⟩
  ·rw[if_neg e]at hj;obtain⟨c,m,y,h1,h2,h3,h4,h5⟩:=hr.obj j oj hj;have hne:c≠b:=fun ec=>e (hr.inj j id oj o c m n hj ho h1 (ec▸hb))
   have hc:=hr.lt c y h2;refine⟨c,m,y,h1,by rw[hs c hc hne];exact h2,h3.mono (Le.VH (ρ:=ρ) hF),fun e=>none' c hc (h4 e),fun e=>?_⟩;obtain⟨cs,t,fz,k1,k2⟩:=h5 e;exact⟨cs,t,fz,k1,hF _ _ k2⟩
 ·have get':∀k ok,AE (C6 ob id o') k=some ok→∃o2,AE ob k=some o2:=by
   intro k ok hk;rw[hset]at hk;by_cases e:k=id
   ·exact⟨o,e▸ho⟩
   ·rw[if_neg e]at hk;exact⟨ok,hk⟩
  obtain⟨_,g1⟩:=get' i oi hi;obtain⟨_,g2⟩:=get' j oj hj;exact hr.inj i j _ _ c m m' g1 g2 h1 h2
 ·rw[hset]at hj;by_cases e:j=id
  ·rw[if_pos e]at hj;cases hj
  ·rw[if_neg e]at hj;exact hr.dead j hj
 ·rw[hs c (zy hc hr.le) (Lt (hr.own id b n hb).2 hc he)];exact hr.old c hc he
 ·rcases hN c cs hc with h1|h1
  ·exact hr.fo c cs h1
  ·exact .inr (.inl (zr hr.le h1))
 ·obtain⟨g1,g2,g3⟩:=hr.pn c hc;have hne:c≠b:=fun e=>g3 id n (e▸hb)
  exact⟨by rw[hs c (hr.lt c _ g1) hne];exact g1,g2,g3⟩
theorem rev_eq{α:Type}{a:List α}{x:α}{r:List α}(h:a.reverse=x::r):a=r.reverse++[x]:=by
 have:=congrArg List.reverse h;simpa using this
theorem SQ{nd:Bool}{g:FuncId}{w:Fi}(hno:X.sp g=none)(hok:Dm X.C g w){Q:PV→Ob→Prop}{n:Nat}{args:List PV}{k:PV→AF→Tr}{args':List V}(he:Ev X Q n (Tu w args st k))(hr:Rel B h0 F ρ st fr h)(ha:A8 F ρ st.nx args args'):
  ∃l,KK X ρ h args' (.fn g) l∧(nd=false→∃x,l=[x])∧
   ∀x∈l,∃n',n'≤n∧∃r st',Ev X Q n' (k r st')∧∃F' ρ',PR F' ρ' st'.nx r x.1∧DD B h0 F ρ st.nx h st' fr x.2 F' ρ'∧(∀sp,X.sp g=some sp→∀b,b<h.nx→x.2.get b=h.get b):=by
 unfold Tu at he;split at he
 ·rename_i id sz nn r hrev;rw[rev_eq hrev]at ha;obtain⟨a1,a2,rfl,ha1,ha2⟩:=ha.split;simp only[A8]at ha2;obtain⟨v,_,rfl,hv,rfl⟩:=ha2;obtain⟨F1,g1,g2,g3⟩:=handed hr.sr ha1;split at he
  case h_2=>exact absurd he zw
  rename_i c i t s l hi ho;cases hty:zn t w.ty with
  |false=>rw[hty]at he;exact absurd he zw
  |true=>
  rw[hty]at he;simp only[cond_true]at he;have hty:=zu hty;split at he
  case h_2=>exact absurd he zw
  rename_i l' hl';obtain⟨e,rfl⟩:=CT hl';cases e;rcases he.D5 with⟨hc,he1⟩|⟨_,he1⟩
  case inr=>exact absurd he1 zw
  simp only[zk,decide_eq_true_eq]at hc;obtain⟨⟨⟨rfl,hpre⟩,hn⟩,hsz⟩:=hc;have hsz:=zu hsz;subst hn hsz hty;obtain⟨e1,e2,e3⟩:=CW (r.reverse.flatMap zp) st;obtain⟨b,m,x,h1,h2,⟨cs,fz,rfl,k1,k2,k3⟩,h4,_⟩:=g1.obj id _ ho;simp only[PR]at hv;obtain⟨o,ho',rfl⟩:∃o,(o=0∨o=w.el.sz)∧v=.sl b (0*w.el.sz) (zq l) (zq l) o:=by
   rcases hv.2 b m h1 with⟨_,_,g⟩|⟨_,e,_⟩
   ·exact g
   ·cases e
  rw[Nat.zero_mul];obtain⟨x,M,hM,q1,q2,q3,q4,F',f1,f2,f3,cs',fz',f4,f5,f6⟩:=hok.run F1 h a1 i l b cs fz o g1.frz hr.sr.lt (g3 _ i hi) hpre h2 k1 k2 (h4 rfl) ho';refine⟨[x],.Bf ⟨rfl,hok.prim,hok.fn⟩ hM,fun _=>⟨x,rfl⟩,fun y hy=>?_⟩;cases zg.1 hy;refine⟨n,zf _,_,_,he1,F',ρ,?_,⟨⟨⟨e3.trans hr.fp.n,fun t=>?_⟩,?_⟩,?_,q2⟩,fun sp hsp=>by rw[hno]at hsp;cases hsp⟩
  ·rw[q1];simp[PR]
  ·have:((Ba (r.reverse.flatMap zp) st).setObj id (.arr false w.ty w.el (w.g i l))).get t=st.get t:=by
    show((Ba (r.reverse.flatMap zp) st).fr.get t).getD .any=_;rw[e2];rfl
   rw[this];refine(hr.fp.slot t).mono ?_;show Le F ρ st.nx F' ρ (Ba (r.reverse.flatMap zp) st).nx;rw[e1];exact Le.VH fun b cs hb=>f1 b cs (g2 b cs hb)
  ·exact g1.wrote ho h1 (hr.sr.lt _ _ h2) (h4 rfl) rfl f4 ⟨cs',fz',rfl,f5,f6,by rw[←k3];exact hok.len i l hpre⟩ q3 q2 q4 f1 f2 f3
  ·show Le F ρ st.nx F' ρ (Ba (r.reverse.flatMap zp) st).nx;rw[e1];exact Le.VH fun b cs hb=>f1 b cs (g2 b cs hb)
 ·rename_i r hrev;rw[rev_eq hrev]at ha;obtain⟨a1,a2,rfl,ha1,ha2⟩:=ha.split;simp only[A8]at ha2;obtain⟨v,_,rfl,hv,rfl⟩:=ha2;simp only[PR]at hv;subst hv;obtain⟨F1,g1,g2,g3⟩:=handed hr.sr ha1;split at he
  case h_2=>exact absurd he zw
  rename_i c i hi;rcases he.D5 with⟨hc,he1⟩|⟨_,he1⟩
  case inr=>exact absurd he1 zw
  simp only[zk]at hc;obtain⟨rfl,hpre⟩:=hc;obtain⟨e1,e2,e3⟩:=CW (r.reverse.flatMap zp) st;obtain⟨x,M,hM,q1,q2,q3,q4,F',f1,f2,f3⟩:=hok.nils F1 h a1 i g1.frz hr.sr.lt (g3 _ i hi) hpre;have hle:Le F ρ st.nx F' ρ (Ba (r.reverse.flatMap zp) st).nx:=by
   rw[e1];exact Le.VH fun b cs hb=>f1 b cs (g2 b cs hb)
  refine⟨[x],.Bf ⟨rfl,hok.prim,hok.fn⟩ hM,fun _=>⟨x,rfl⟩,fun y hy=>?_⟩;cases zg.1 hy;refine⟨n,zf _,_,_,he1,F',ρ,?_,⟨⟨⟨e3.trans hr.fp.n,fun t=>?_⟩,?_⟩,hle,q2⟩,fun sp hsp=>by rw[hno]at hsp;cases hsp⟩
  ·rw[q1];simp[PR]
  ·have:(Ba (r.reverse.flatMap zp) st).get t=st.get t:=by unfold AF.get;rw[e2]
   rw[this];exact(hr.fp.slot t).mono hle
  ·exact g1.after q3 q2 q4 f1 f2 f3
 ·exact absurd he zw
theorem Ek(hmg:X.C.mg=false)(hall:∀g sp,X.sp g=some sp→Ad X.C g sp)(hws:∀g w,X.ws g=some w→Dm X.C g w):∀(d:Nat) (nd:Bool) (h0:H0),Fv B h0 X nd (B5 X nd d)
 |0,nd,h0=>by intro he;exact absurd he zw
 |d+1,nd,h0=>by
  rename_i Q n cg args st k;intro he F ρ fr h args' hr ha;unfold B5 at he;cases cg with
  |rnd id=>exact absurd he zw
  |fn g=>
  simp only at he;have conv:(∃l,KK X ρ h args' (.fn g) l∧(nd=false→∃x,l=[x])∧
   ∀x∈l,∃n',n'≤n∧∃r st',Ev X Q n' (k r st')∧∃F' ρ',PR F' ρ' st'.nx r x.1∧DD B h0 F ρ st.nx h st' fr x.2 F' ρ'∧(∀sp,X.sp g=some sp→∀b,b<h.nx→x.2.get b=h.get b))→
   ∃l,KK X ρ h args' (.fn g) l∧(nd=false→∃x,l=[x])∧
   ∀x∈l,∃n',n'≤n∧∃r st',Ev X Q n' (k r st')∧∃F' ρ',PR F' ρ' st'.nx r x.1∧DD B h0 F ρ st.nx h st' fr x.2 F' ρ'∧(∀gg,iX.fn g=.fn gg→∀sp,X.sp gg=some sp→∀b,b<h.nx→x.2.get b=h.get b):=by
   rintro⟨l,h1,h3,h4⟩;refine⟨l,h1,h3,fun x hx=>?_⟩;obtain⟨n',k1,r,st',k2,F',ρ',k3,k4,k5⟩:=h4 x hx;exact⟨n',k1,r,st',k2,F',ρ',k3,k4,fun gg e=>by cases e;exact k5⟩
  obtain⟨o,hs⟩:∃o,X.sp g=o:=⟨_,rfl⟩;cases o with
  |some sp=>
   rw[hs]at he;simp only at he;cases hb:(nd|| !sp.nd)with
   |false=>rw[hb]at he;exact absurd he zw
   |true=>
    rw[hb]at he;exact conv (V0 (nd:=nd) hs (hall g sp hs) (fun e=>by rw[e]at hb;simpa using hb) he hr ha)
  |none=>
   rw[hs]at he;simp only at he;obtain⟨ow,hw⟩:∃o,X.ws g=o:=⟨_,rfl⟩;cases ow with
   |some w=>rw[hw]at he;exact conv (SQ hs (hws g w hw) he hr ha)
   |none=>
   rw[hw]at he;simp only at he;split at he
   case h_2=>exact absurd he zw
   rename_i hp hsp;obtain⟨g1,l,M,g2,g3,g4⟩:=EE (Ek hmg hall hws d nd) (Ek hmg hall hws d false) hmg hsp hp hs he hr ha;exact conv ⟨l,.Bf ⟨rfl,g1⟩ g2,g3,g4⟩
theorem Mi{st:AF}:∀ {l:List Sh} {ps:List PV} {r:Bool×(Bi l).T},Cn st l ps=some r→l.length=ps.length
 |[],[],_,_=>rfl
 |[],_::_,_,h=>by cases h
 |[a],[p],_,_=>rfl
 |[a],[],_,h=>by cases h
 |[a],_::_::_,_,h=>by cases h
 |a::b::l,[],_,h=>by cases h
 |a::b::l,p::ps,_,h=>by
  unfold Cn at h;split at h
  case h_2=>cases h
  rename_i e1 e2;have:=Mi e2;simp at this ⊢;exact this
def Eu(outs:List Sh)(v:PV):List PV:=match outs with
 |[_]=>[v]
 |_=>match v with
  | .tup vs=>vs
  |_=>[v]
def Oi(outs:List Sh)(v:PV)(ob:Ob):Option (Bool×(Bi outs).T):=Cn ⟨0,.leaf,ob,0⟩ outs (Eu outs v)
def Ends(X:AW)(t:Tr)(Q:PV→Ob→Prop):Prop:=∃n,Ev X Q n t
def Ae(sp:As)(i:(Bi sp.ins).T)(v:PV)(ob:Ob):Prop:=∃y,Oi sp.outs v ob=some (true,y)∧y=sp.f i
theorem Vx(hmg:X.C.mg=false)(hall:∀g sp,X.sp g=some sp→Ad X.C g sp)(hws:∀g w,X.ws g=some w→Dm X.C g w){f:FuncId}{sp:As}{d:Nat}(hsp:X.C.spec f=none)(hprim:X.C.prim f=none)(hno:X.sp f=none)
  (hev:∀i,sp.pre i=true→Ends X (tree X sp.nd d f (Ag sp.ins i)) (Ae sp i)) (hfn:∃i,X.C.fn f=some i):Ad X.C f sp:=by
 refine .oP ⟨hprim,hfn,fun F h args i hfrz hlt hargs hpre=>?_⟩;obtain⟨n,he⟩:=hev i hpre;unfold tree at he;have hr:Rel h.nx ⟨h,F,[],fun _=>False⟩ F (fun _=>none) (Al 0 [] [] 0) ⟨0,.leaf⟩ h:=by
  refine⟨⟨rfl,fun t=>?_⟩,⟨fun id o ho=>(by cases ho),fun id id' o o' b n n' ho=>(by cases ho),hfrz,fun id b n hb=>(by cases hb),fun _ _=>rfl,fun _ _ _=>rfl,hlt,zf _,fun b cs hb=>.inl hb,fun b hb=>(by cases hb)⟩⟩;show PR _ _ _ (((DK []).get t).getD .any) _;have:(DK []).get t=none:=PM.Cz t;rw[this];simp[PR]
 obtain⟨_,l,M,hM,hone,hall⟩:=EE (Ek hmg hall hws d sp.nd) (Ek hmg hall hws d false) hmg hsp hprim hno he hr (hargs _ _);refine⟨l,M,hM,hone,fun x hx=>?_⟩;obtain⟨n',hn,r,st',he',F',ρ',hp,hw,_⟩:=hall x hx;have hq:=he'.Lq;obtain⟨y,hy,rfl⟩:=hq;have hold:∀b,b<h.nx→x.2.get b=h.get b:=fun b hb=>hw.rel.sr.old b hb (fun e=>e)
 refine⟨hw.nx,hold,hw.rel.sr.lt,?_⟩;have hvs:∃vs,A8 F' ρ' st'.nx (Eu sp.outs r) vs∧((∃a,sp.outs=[a])→vs=[x.1])∧((∀a,sp.outs≠[a])→(∃qs,r=.tup qs)→x.1=.tup vs):=by
  unfold Eu;split
  ·rename_i a ha;exact⟨[x.1],by simp only[AQ,BU,and_true];exact hp,fun _=>rfl,fun hne=>absurd ha (hne _)⟩
  ·rename_i hne;split
   ·rename_i qs;simp only[PR]at hp;obtain⟨cs,e,h1⟩:=hp;exact⟨cs,h1,fun⟨a,ha⟩=>absurd ha (hne a),fun _ _=>e⟩
   ·rename_i hnt;exact⟨[x.1],by simp only[AQ,BU,and_true];exact hp,fun _=>rfl,fun _ ⟨qs,hqs⟩=>absurd hqs (hnt qs)⟩
 obtain⟨vs,hvs1,hvs2,hvs3⟩:=hvs;obtain⟨F1,g1,g2,g3⟩:=handed (st:=st') hw.rel.sr hvs1;have hob:∀id,DB (AF.obj ⟨0,.leaf,st'.ob,0⟩ id) (st'.obj id):=fun id=>DB.refl _
 have hres:=g3 sp.outs _ (by rw[JU hob];exact hy);refine⟨F1,fun b cs hb=>g2 b cs (hw.le.fz b cs hb),fun b cs hb=>(g1.fo b cs hb).imp_right (fun h=>h.resolve_right (fun e=>e)),g1.frz,M0.2 ⟨vs,hres,?_⟩⟩;have hlen:sp.outs.length=(Eu sp.outs r).length:=Mi hy;have hl2:=hvs1.len;by_cases ho:∃a,sp.outs=[a]
 ·rw[hvs2 ho]
 ·have hne:∀a,sp.outs≠[a]:=fun a ha=>ho ⟨a,ha⟩
  have hn1:sp.outs.length≠1:=fun e=>by
   obtain⟨a,ha⟩:=List.length_eq_one_iff.1 e;exact hne a ha
  have ht:∃qs,r=.tup qs:=by
   cases r with
   |tup qs=>exact⟨qs,rfl⟩
   |_=>
    exfalso;apply hn1;rw[hlen];unfold Eu;split<;>rfl
  rw[hvs3 hne ht];split
  ·rename_i u;exact absurd (hlen.trans hl2) hn1
  ·rfl
def TK(w:Fi)(i:(Bi w.ins).T)(l:List w.el.T)(v:PV)(ob:Ob):Prop:=v=.tup []∧∃l2,AE ob 0=some (.arr false w.ty w.el l2)∧l2=w.g i l
theorem Sx(hmg:X.C.mg=false)(hall:∀g sp,X.sp g=some sp→Ad X.C g sp)(hws:∀g w,X.ws g=some w→Dm X.C g w){f:FuncId}{w:Fi}{d:Nat}(hsp:X.C.spec f=none)(hprim:X.C.prim f=none)(hno:X.sp f=none)
  (hlen:∀i l,w.pre i l=true→(w.g i l).length=l.length) (hev:∀i l,w.pre i l=true→Ends X (TR X d f w i l) (TK w i l)) (hev0:∀i,w.pre i []=true→Ends X (PH X d f w i) (fun v _=>v=.tup []))
  (hfn:∃i,X.C.fn f=some i):Dm X.C f w:=by
 have slot0:∀(F:Fz) (ρ:DF) (N:Nat) (ob:Ob) (nx t:Nat),PR F ρ N ((Al 0 [] ob nx).get t) (Fr.get ⟨0,.leaf⟩ t):=by
  intro F ρ N ob nx t;show PR _ _ _ (((DK []).get t).getD .any) _;have:(DK []).get t=none:=PM.Cz t;rw[this];simp[PR]
 refine⟨hprim,hfn,hlen,fun F h args i l b cs fz o hfrz hlt hargs hpre hg hd hz hF ho=>?_,fun F h args i hfrz hlt hargs hpre=>?_⟩
 ·obtain⟨n,he⟩:=hev i l hpre;unfold TR at he;have hbn:=hlt b _ hg;have hr:Rel h.nx ⟨h,F,[],fun c=>c=b⟩ F (fun id=>if id=0 then some (b,zq l)else none) (Al 0 [] [(0,.arr false w.ty w.el l)] 1) ⟨0,.leaf⟩ h:=by
   refine⟨⟨rfl,fun t=>slot0 ..⟩,⟨fun id o' ho'=>?_,fun id id' o o' b n n' h1 h2 _ _=>?_,hfrz,fun id b' n' hb=>?_,fun id hid=>?_,fun _ _ _=>rfl,hlt,zf _,fun b cs hb=>.inl hb,fun b hb=>(by cases hb)⟩⟩
   ·cases id with
    |zero=>
     cases ho';exact⟨b,zq l,_,by simp,hg,⟨cs,fz,rfl,hd,hz,rfl⟩,fun _=>hF,fun e=>by cases e⟩
    |succ id=>cases ho'
   ·have z:∀k ok,AE [(0,Obj.arr false w.ty w.el l)] k=some ok→k=0:=fun k ok hk=>by
     cases k with
     |zero=>rfl
     |succ k=>cases hk
    rw[z _ _ h1,z _ _ h2]
   ·by_cases e:id=0
    ·subst e;simp only[if_true,zh,zA]at hb;exact⟨zI,.inr hb.1.symm⟩
    ·rw[if_neg e]at hb;cases hb
   ·cases id with
    |zero=>cases hid
    |succ id=>rfl
  obtain⟨_,L,M,hM,hone,hall2⟩:=EE (Ek hmg hall hws d false) (Ek hmg hall hws d false) hmg hsp hprim hno he hr (args':=args++[.sl b 0 (zq l) (zq l) o])
   ((hargs _ _).append (by
    simp only[AQ,BU,and_true,PR];refine⟨zI,fun b' n' hb'=>?_⟩;simp only[if_true,zh,zA]at hb';obtain⟨rfl,rfl⟩:=hb';exact .inl ⟨zf _,by simp,o,ho,by simp⟩))
  obtain⟨x,rfl⟩:=hone rfl;obtain⟨n',hn,r,st',he',F',ρ',hp,hw,_⟩:=hall2 x zt;obtain⟨rfl,l2,hob,rfl⟩:=he'.Lq;obtain⟨b',m,y,k1,k2,⟨cs',fz',rfl,k3,k4,k5⟩,k6,_⟩:=hw.rel.sr.obj 0 _ hob;have hb':=hw.le.at zI k1;simp only[if_true,zh,zA]at hb';obtain⟨rfl,rfl⟩:=hb';refine⟨x,M,hM,?_,hw.nx,fun c hc hne=>hw.rel.sr.old c hc hne,hw.rel.sr.lt,F',hw.le.fz,fun c cs2 hc=>?_,hw.rel.sr.frz,cs',fz',k2,k3,k4⟩
  ·simp only[PR]at hp;obtain⟨cs3,e,h3⟩:=hp;rw[e];have:cs3=[]:=by simpa using h3
   rw[this]
  ·rcases hw.rel.sr.fo c cs2 hc with h1|h1|h1
   ·exact .inl h1
   ·exact .inr h1
   ·have h1:c=b:=h1;subst h1;rw[k6 rfl]at hc;cases hc
 ·obtain⟨n,he⟩:=hev0 i hpre;unfold PH at he;have hr:Rel h.nx ⟨h,F,[],fun _=>False⟩ F (fun _=>none) (Al 0 [] [] 0) ⟨0,.leaf⟩ h:=
   ⟨⟨rfl,fun t=>slot0 ..⟩,⟨fun id o ho=>(by cases ho),fun id id' o o' b n n' ho=>(by cases ho),hfrz,fun id b n hb=>(by cases hb),fun _ _=>rfl,fun _ _ _=>rfl,hlt,zf _,fun b cs hb=>.inl hb,fun b hb=>(by cases hb)⟩⟩
  obtain⟨_,L,M,hM,hone,hall2⟩:=EE (Ek hmg hall hws d false) (Ek hmg hall hws d false) hmg hsp hprim hno he hr (args':=args++[.nils]) ((hargs _ _).append (by simp[PR]));obtain⟨x,rfl⟩:=hone rfl;obtain⟨n',hn,r,st',he',F',ρ',hp,hw,_⟩:=hall2 x zt;have hq:=he'.Lq;subst hq;refine⟨x,M,hM,?_,hw.nx,fun c hc=>hw.rel.sr.old c hc (fun e=>e),hw.rel.sr.lt,F',hw.le.fz,fun c cs2 hc=>(hw.rel.sr.fo c cs2 hc).imp_right (fun h=>h.resolve_right (fun e=>e)),hw.rel.sr.frz⟩;simp only[PR]at hp;obtain⟨cs3,e,h3⟩:=hp;rw[e];have:cs3=[]:=by simpa using h3
  rw[this]
end
section
variable {X:AW}{Q Q':PV→Ob→Prop}
theorem Ev.mono{n:Nat}{t:Tr}(he:Ev X Q n t):∀ {m:Nat},n≤m→Ev X Q m t:=by
 induction he with
 |leaf h=>exact fun _=>.leaf h
 |ite _ _ i1 i2=>exact fun hm=>.ite (fun e=>i1 e hm) (fun e=>i2 e hm)
 |both _ _ i1 i2=>exact fun hm=>.both (i1 hm) (i2 hm)
 |alts _ ih=>exact fun hm=>.alts fun i hi=>ih i hi hm
 |cut _ ih=>exact fun hm=>.cut (ih hm)
 |loop _ ih=>
  intro m hm;obtain⟨k,rfl⟩:∃k,m=k+1:=⟨m-1,by omega⟩;exact .loop (ih (by omega))
theorem Ends.leaf{v:PV}{ob:Ob}(h:Q v ob):Ends X (.leaf v ob) Q:=⟨0,.leaf h⟩
theorem Ends.ite{c:Bool}{a b:Tr}(h1:c=true→Ends X a Q)(h2:c=false→Ends X b Q):Ends X (.ite c a b) Q:=by
 cases c with
 |true=>obtain⟨n,h⟩:=h1 rfl;exact⟨n,.ite (fun _=>h) (fun e=>by cases e)⟩
 |false=>obtain⟨n,h⟩:=h2 rfl;exact⟨n,.ite (fun e=>by cases e) (fun _=>h)⟩
theorem Ends.tt{c:Bool}{a b:Tr}(hc:c=true)(h:Ends X a Q):Ends X (.ite c a b) Q:=Ends.ite (fun _=>h) (fun e=>by rw[hc]at e;cases e)
theorem Ends.ff{c:Bool}{a b:Tr}(hc:c=false)(h:Ends X b Q):Ends X (.ite c a b) Q:=Ends.ite (fun e=>by rw[hc]at e;cases e) (fun _=>h)
theorem Ends.both{a b:Tr}(h1:Ends X a Q)(h2:Ends X b Q):Ends X (.both a b) Q:=by
 obtain⟨n,h1⟩:=h1;obtain⟨m,h2⟩:=h2;exact⟨max n m,.both (h1.mono (Nat.le_max_left _ _)) (h2.mono (Nat.le_max_right _ _))⟩
noncomputable def stepT(X:AW):Tr→Tr
 | .loop nd ro d f base b st k=>body X nd ro d f base b st k
 | .cut nd ro d f base b st k=>AG X nd ro d f base b st k
 |t=>t
theorem Ends.step{t:Tr}(h:Ends X (stepT X t) Q):Ends X t Q:=by
 cases t with
 |loop=>obtain⟨n,h⟩:=h;exact⟨n+1,.loop h⟩
 |cut=>obtain⟨n,h⟩:=h;exact⟨n,.cut h⟩
 |_=>exact h
theorem Ends.eq{t t':Tr}(e:t=t')(h:Ends X t' Q):Ends X t Q:=e▸h
theorem Ends.Af{t t':Tr}(e:stepT X t=t')(h:Ends X t' Q):Ends X t Q:=Ends.step (e▸h)
def Tr.L:Tr→Tr
 | .ite _ a _=>a
 | .both a _=>a
 |t=>t
def Tr.R:Tr→Tr
 | .ite _ _ b=>b
 | .both _ b=>b
 |t=>t
noncomputable def re:Tr→AF→Tr
 | .loop nd ro d f base b _ k,st=>.loop nd ro d f base b st k
 | .cut nd ro d f base b _ k,st=>.cut nd ro d f base b st k
 |t,_=>t
def Pk:List (FuncId×As)→FuncId→Option As
 |[],_=>none
 |(g,s)::l,f=>bif zn g f then some s else Pk l f
theorem Lp{C:Ctx}:∀ {l:List (FuncId×As)},(∀x∈l,Ad C x.1 x.2)→∀g sp,Pk l g=some sp→Ad C g sp
 |[],_,g,sp,h=>by cases h
 |(g',s)::l,hl,g,sp,h=>by
  unfold Pk at h;cases hb:zn g' g with
  |true=>
   rw[hb]at h;cases h;have:=zu hb;subst this;exact hl _ zt
  |false=>rw[hb]at h;exact Lp (fun x hx=>hl x (zB _ hx)) g sp h
def W6:List (FuncId×Fi)→FuncId→Option Fi
 |[],_=>none
 |(g,s)::l,f=>bif zn g f then some s else W6 l f
theorem UC{C:Ctx}:∀ {l:List (FuncId×Fi)},(∀x∈l,Dm C x.1 x.2)→∀g sp,W6 l g=some sp→Dm C g sp
 |[],_,g,sp,h=>by cases h
 |(g',s)::l,hl,g,sp,h=>by
  unfold W6 at h;cases hb:zn g' g with
  |true=>
   rw[hb]at h;cases h;have:=zu hb;subst this;exact hl _ zt
  |false=>rw[hb]at h;exact UC (fun x hx=>hl x (zB _ hx)) g sp h
def kW:List (FuncId×List Nat)→FuncId→Nat→Bool
 |[],_,_=>false
 |(g,t)::l,f,r=>bif zn g f then t.any (zn r)else kW l f r
def kX:List (FuncId×List (Nat×List (Nat×Sh)))→FuncId→Nat→List (Nat×Sh)
 |[],_,_=>[]
 |(g,t)::l,f,r=>bif zn g f then fz1 t r else kX l f r
 where fz1:List (Nat×List (Nat×Sh))→Nat→List (Nat×Sh)
 |[],_=>[]
 |(i,s)::l,r=>bif zn i r then s else fz1 l r
def iG:List (FuncId×List (Nat×List Nat))→FuncId→Nat→List Nat
 |[],_,_=>[]
 |(g,t)::l,f,r=>bif zn g f then pl1 t r else iG l f r
 where pl1:List (Nat×List Nat)→Nat→List Nat
 |[],_=>[]
 |(i,s)::l,r=>bif zn i r then s else pl1 l r
end
noncomputable section
open Go.Proofs.Tryz (prog)
def MP(C:Ctx)(q:FuncId→Option (List V→H→Option (V×H))):Ctx:=⟨C.T,C.ng,C.fn,C.prim,q,false⟩
theorem QS{C C':Ctx}{P:Program}(hC:C.Ok P)(hC':C'.Ok P)(hce:GN C')(hm:P.follows .mixedOrders=true)(hng:C'.ng=0){n:Nat}{M:K5}(h:Fh C' n M=true):(MP C (LI M)).Ok P where
 T:=hC.T
 fn:=hC.fn
 prim:=hC.prim
 spec:=TY hC' hce hm hng h
theorem Ml{C:Ctx}(hce:GN C)(q:FuncId→Option (List V→H→Option (V×H))):GN (MP C q):=hce
noncomputable def AR:Ctx:=MP C7 (LI A7)
theorem gV:AR.Ok prog:=QS dN jI (Mt Mw M7) SH rfl gZ
theorem Vq:GN AR:=Ml Mw _
noncomputable def lW:List (FuncId×List (Nat×List Nat)):=
 [(8,[(30,[15,21,24,26,216,217,218]),(29,[15,21,24,26,216,217,218]),(28,[15,21,24,216,217,218]),(27,[15,21,24,216,217,218]),(25,[15,21]),(21,[0,2,7,8,15,19,166,167]),(18,[0,2,7,8,15,19,166,167]),(17,[0,2,7,8,15,19,166,167]),(11,[0,2,7,8,15,16]),(12,[0,2,7,8,15,16]),(10,[0,2,7,8,15,16]),(8,[0,2,7,8]),(3,[0,2,4])]),
 (21,[(6,[5,6,7]),(3,[5,6,7]),(2,[5,6,7])]),
 (24,[(10,[5,7,8]),(8,[5,7,8]),(5,[0,1,5,6]),(3,[0,1,5,6])]),
 (25,[(11,[0,3,6]),(12,[0,3,6]),(10,[0,3,6]),(7,[0,3,4,5]),(5,[0,3,4,5]),(3,[0,3]),(2,[0,3])]),
 (27,[(5,[0,1,5]),(6,[0,1,5]),(4,[0,1,5]),(3,[0,1])]),
 (29,[(26,[0,1,9,15,61,62,63]),(25,[0,1,9,15,17,61,62,63]),(21,[0,1,9,15,61,62,63]),(20,[0,1,9,15,61,62,63]),(18,[0,1,2,9]),(15,[0,1,2,9,26,27,28]),(14,[0,1,2,9,26,27,28,35,36,37]),(13,[0,1,2,9,13,26,27,28,35,36,37]),(9,[0,1,2,9,26,27,28,35,36,37]),(8,[0,1,2,9,26,27,28,35,36,37]),(7,[0,1,2,9,11,26,27,28]),(4,[0,1,2,9,26,27,28]),(3,[0,1,2,9,26,27,28])]),
 (35,[(5,[0,5]),(6,[0,5]),(4,[0,5]),(3,[0])]),
 (42,[(5,[0,1,5]),(6,[0,1,5]),(4,[0,1,5]),(3,[0,1])]),
 (50,[(5,[0,5]),(6,[0,5]),(4,[0,5]),(3,[0])]),
 (51,[(6,[0,3,4]),(12,[0,3,4,5]),(10,[0,3,4,5]),(7,[0,3,4]),(5,[0,3,4]),(3,[0])]),
 (52,[(20,[1,12,16]),(15,[0,1,2,12,13,16,59,60,61]),(14,[0,1,2,12,13,16,59,60,61]),(11,[0,1,2,3,12,13,38,39,40]),(7,[0,1,2,3,12,13,38,39,40]),(6,[0,1,2,3,12,13,38,39,40]),(4,[0,1,2,3])]),
 (53,[(4,[3,6,7,8]),(3,[3,6,7,8])]),
 (54,[(10,[2,7,23,24,25]),(9,[2,7,9,23,24,25]),(6,[2,7,23,24,25]),(5,[2,7,23,24,25]),(3,[0,1,2])]),
 (84,[(3,[0,1,5]),(4,[0,1,5]),(2,[0,1,5])]),
 (87,[(6,[5,6,7]),(3,[5,6,7]),(2,[5,6,7])]),
 (90,[(5,[1,5,6]),(3,[1,5,6])]),
 (91,[(15,[0,3,32,33,34]),(12,[0,3,32,33,34]),(11,[0,3,32,33,34]),(6,[0,3,4,14,15,16]),(5,[0,3,4,14,15,16]),(3,[0,3]),(2,[0,3])]),
 (93,[(6,[0,1,7,8]),(3,[0,1,7,8]),(2,[0,1,7,8])]),
 (95,[(3,[0,3]),(2,[0,3])]),
 (97,[(6,[0,1,5,6]),(7,[0,1,5,6]),(5,[0,1,5,6]),(4,[0,1,5])]),
 (101,[(4,[3,8,9]),(3,[3,8,9])]),
 (112,[(5,[0,1,5]),(6,[0,1,5]),(4,[0,1,5]),(3,[0,1])]),
 (113,[(5,[0,3]),(6,[0,3]),(4,[0,3]),(3,[0])]),
 (127,[(5,[0,3,4]),(3,[0,3,4])]),
 (128,[(16,[]),(11,[3,4]),(9,[3,4]),(7,[3,4]),(4,[0,3])]),
 (134,[(7,[1,8,9,10]),(3,[1,8,9,10]),(2,[1,8,9,10])]),
 (135,[(4,[2])]),
 (136,[(9,[5,6,7]),(6,[5,6,7,8])]),
 (140,[(7,[0,1,5,6,7]),(6,[0,1,5,6,7]),(5,[0,1,5,6]),(3,[0,1,5,6])]),
 (153,[(6,[0,1,7,8]),(3,[0,1,7,8]),(2,[0,1,7,8])]),
 (158,[(3,[0,6,7]),(2,[0,6])]),
 (167,[(3,[0,3]),(4,[0,3]),(2,[0,3])]),
 (170,[(2,[0,1]),(1,[0,1])]),
 (179,[(6,[5,6,7]),(3,[5,6,7]),(2,[5,6,7])]),
 (181,[(3,[2,3,4]),(2,[2,3,4])]),
 (182,[(11,[2,4]),(5,[0,2,3,4]),(4,[0,2,3,4])]),
 (200,[(7,[3,6,7,8]),(4,[3,6,7,8]),(3,[3,6,7,8])]),
 (206,[(3,[0,3]),(4,[0,3]),(2,[0,3])]),
 (207,[(6,[0,2,3,4]),(5,[0,2,3,4]),(4,[0,2,3])]),
 (208,[(7,[0,2,3,4,5]),(4,[0,2,3,4]),(3,[0,2,3,4])]),
 (209,[(15,[8,9,10,11,12,13]),(39,[8,9,10,11,12,13,14]),(35,[8,9,10,11,12,13,14,19,20]),(33,[8,9,10,11,12,13,14,19,20]),(20,[8,9,10,11,12,13,14,15,16]),(27,[8,9,10,11,12,13,14,15,16,18]),(21,[8,9,10,11,12,13,14,15,16]),(19,[8,9,10,11,12,13,14,15,16]),(16,[8,9,10,11,12,13]),(14,[8,9,10,11,12,13]),(11,[0,8,9,10,11]),(10,[0,8,9,10,11]),(6,[0,1]),(3,[0,1])]),
 (210,[(16,[0,1,2,6]),(10,[0,1,2,6,7,8]),(9,[0,1,2,6,7,8]),(8,[0,1,2,6]),(7,[0,1,2,6]),(3,[0,1,2,6,7,8]),(2,[0,1,2,6,7,8])]),
 (211,[(15,[8,9]),(13,[6,8,9]),(10,[5,6,7]),(7,[5,6]),(4,[5])]),
 (221,[(12,[4,5,14,15]),(6,[2,3,4,5]),(5,[4,5,6,7])]),
 (225,[(3,[1,2,4,5]),(6,[1,2,4,5]),(4,[1,2,4,5]),(2,[1,2,4,5])]),
 (233,[(8,[1,5,6,7,8,20,21,22,27,28,29]),(7,[1,5,6,7,8,20,21,22,27,28,29]),(4,[1,5,20,21,22]),(3,[1,5,20,21,22])]),
 (263,[(5,[0,3,4]),(3,[0,3,4])]),
 (265,[(7,[0,1,5]),(10,[0,1,5]),(8,[0,1,5]),(6,[0,1,5]),(5,[0,1]),(4,[])]),
 (266,[(6,[0,1,6,7,8]),(4,[0,1,6,7,8])]),
 (267,[(2,[0]),(1,[0])]),
 (268,[(9,[0,1,5,6,7,8]),(7,[0,1,5,6,7,8]),(5,[0,1,5,6]),(3,[0,1,5,6])]),
 (269,[(5,[0,1,2,7,9,10]),(4,[0,1,2,7,9,10])]),
 (270,[(6,[0,1,2,3,8,9]),(4,[0,1,2,3,8,9]),(3,[0,1,2,3,8]),(1,[0,1,2,3,8])]),
 (272,[(2,[0,1]),(1,[0,1])]),
 (273,[(3,[0,1,5]),(2,[0,1,5])]),
 (282,[(3,[0,2,4]),(7,[0,2,4,5]),(4,[0,2,4]),(2,[0,2,4])]),
 (283,[(3,[0,1]),(2,[0,1]),(1,[0,1])]),
 (284,[(3,[0,1]),(2,[0,1]),(1,[0,1])]),
 (287,[(26,[9,11,12,13,96,97]),(22,[9,11,12,13,96,97]),(21,[9,11,12,13,96,97]),(19,[9,10,11,12,13,14]),(17,[9,10,11,12,13,14]),(11,[0,1]),(9,[0,1,6,7,8]),(7,[0,1,6,7,8]),(3,[0,1])]),
 (289,[(20,[0]),(19,[6]),(16,[5,6,47,48,49]),(15,[5,6,8,47,48,49]),(11,[5,6,47,48,49]),(10,[5,6,47,48,49]),(8,[0,5])]),
 (291,[(12,[0,1,5,6,21,22]),(11,[0,1,5,6,7,8,21,22]),(7,[0,1,5,6,21,22]),(6,[0,1,5,6,21,22]),(3,[0,1])]),
 (292,[(7,[0,1,5]),(11,[]),(8,[0,1,5]),(6,[0,1,5]),(5,[0,1]),(4,[])]),
 (293,[(10,[0,1,5,6,13,14]),(9,[0,1,5,6,7,8,13,14]),(5,[0,1,5,6,13,14]),(4,[0,1,5,6,13,14])]),
 (295,[(3,[0,3]),(2,[0,3])]),
 (317,[(25,[2,8,9,10,14,15,16,17,18]),(24,[2,8,9,10,14,15,16,17,18]),(18,[2,8,9,10,11,13,14,15,16]),(17,[2,8,9,10,11,13,14,15,16]),(7,[0,1,2]),(5,[0,1,2]),(3,[0,1,2])]),
 (319,[(8,[1,5,12,13,14]),(4,[1,5,12,13,14]),(3,[1,5,12,13,14])]),
 (320,[(29,[0,1,5,6,17,156,157]),(28,[0,1,5,6,17,156,157]),(26,[0,1,5,6]),(16,[0,1,5,6,11,12,104,105]),(15,[0,1,5,6,11,12,104,105]),(11,[0,1,5,6,7]),(9,[0,1,5,6,7]),(8,[0,1,5,6,7,8])])]
noncomputable def X7(l:List (FuncId×As)):AW:=⟨AR,Pk l,iG lW,fun _ _=>false,fun _ _=>[],fun _=>none⟩
noncomputable def eQ(cs:List (FuncId×List Nat))(fz:List (FuncId×List (Nat×List (Nat×Sh))))(t:List (FuncId×List (Nat×List Nat)))(l:List (FuncId×As)):AW:=⟨AR,Pk l,iG (t++lW),kW cs,kX fz,fun _=>none⟩
noncomputable def AW.wr(X:AW)(l:List (FuncId×Fi)):AW:={ X with ws:=W6 l }
end
end Go.Pe
end
section
namespace Go.Sp
def first:List Int→Int
 |[]=>0
 |x::l=>if x≠0 then x else first l
def Dk(c:Bool)(e:Int):Int:=bif c then e else 0
def out(n a b:Int):Int:=if n<a then 3 else if n>b then 3 else 0
def iota(n:Nat):List Int:=(List.range n).map Int.ofNat
def dT(l:List Int)(i k:Nat):List Int:=(l.set i (l.getD k 0)).set k (l.getD i 0)
def Ia(key:Int):Int:=zd (48271*key) 2147483647
def C0:Nat→Int→List Int→List Int
 |0,_,l=>l
 |i+1,key,l=>C0 i (Ia key) (dT l (i+1) (zd (Ia key) (i+2)).toNat)
def Cg(n key:Int):List Int:=C0 (n.toNat-1) key (iota n.toNat)
def expand(l:List Int):List Int:=l.flatMap fun s=>[s,2*l.length+1-s]
def grow:Nat→Int→List Int→List Int
 |0,_,l=>l
 |f+1,n,l=>if (l.length:Int)<n then grow f n (expand l)else l
def Dn(n:Int)(l:List Int):List Int:=l.map fun s=>if s>n then 0 else s
def bracket(n:Int):List Int:=Dn n (grow 8 n [1])
def size:Nat→Int→Int→Int
 |0,_,s=>s
 |f+1,n,s=>if s<n then size f n (2*s)else s
def index:List Int→Int→Int→Int
 |[],_,_=> -1
 |y::l,x,i=>if x=y then i else index l x (i+1)
def Fe(n key:Int):Int:=first [out n 0 200,out key 1 2147483646]
def G9(n key:Int):List Int×Int:=if Fe n key≠0 then([],Fe n key)else(Cg n key,0)
end Go.Sp
namespace Go.Pe
open Go.Det
noncomputable section
abbrev i64:Sh:=.int .i64
abbrev Cq:Sh:=.list (.int .i64)
noncomputable def CD:As:=⟨[Cq],fun l=>decide (l.length≤1000000),[i64],fun l=>Sp.first l,false⟩
noncomputable def GS:As:=⟨[i64,i64,i64],fun _=>true,[i64],fun i=>Sp.out i.1 i.2.1 i.2.2,false⟩
noncomputable def Ir:As:=⟨[.bool,i64],fun _=>true,[i64],fun i=>Sp.Dk i.1 i.2,false⟩
noncomputable def SS:As:=⟨[i64],fun _=>true,[i64],fun k=>Sp.out k 1 2147483646,false⟩
noncomputable def B2:As:=⟨[i64,i64],fun i=>decide (0≤i.1)&&decide (i.1≤200)&&decide (1≤i.2)&&decide (i.2≤2147483646),[Cq],fun i=>Sp.Cg i.1 i.2,false⟩
noncomputable def CL:As:=⟨[i64],fun n=>decide (1≤(n:Int))&&decide ((n:Int)≤200),[Cq],fun n=>Sp.bracket n,false⟩
noncomputable def Re:As:=⟨[i64],fun n=>decide ((n:Int)≤200),[i64],fun n=>Sp.size 8 n 1,false⟩
noncomputable def Nv:As:=⟨[Cq,i64],fun i=>decide (i.1.length≤1000000),[i64],fun i=>Sp.index i.1 i.2 0,false⟩
noncomputable def Ox:As:=⟨[Cq,Cq],fun i=>decide (i.1.length≤1000000),[.bool],fun i=>i.1==i.2,false⟩
noncomputable def Qm:As:=⟨[i64,i64],fun _=>true,[Cq,i64],fun i=>Sp.G9 i.1 i.2,false⟩
noncomputable def Pw:As:=⟨[],fun _=>true,[.bool],fun _=>true,false⟩
noncomputable def BW:AW:=X7 []
noncomputable def N0:AW:=X7 [(87,CD),(88,GS),(92,Ir),(93,Nv),(95,Re),(21,CD),(22,GS),(94,GS),(27,Ox),(90,B2),(91,CL),(24,B2)]
noncomputable def nQ:AW:=X7 [(89,SS),(23,SS),(25,CL),(87,CD),(88,GS),(92,Ir),(93,Nv),(95,Re),(21,CD),(22,GS),(94,GS),(27,Ox),(90,B2),(91,CL),(24,B2)]
end
end Go.Pe
end
section
namespace Go.Sp
abbrev kY:=List UInt8
def C1(seen:List kY)(x:kY):Int:=if isName x=true then(if x∈seen then 9 else 0)else 8
def NS(a b:Int):Int:=if a=0 then b else a
theorem J2{a:Int}(b:Int)(h:a≠0):NS a b=a:=if_neg h
def has(l:List kY)(x:kY):Bool:=decide (x∈l)
def eO(a b:List kY):Bool:=decide (a=b)
def Gj(l:List (List UInt8))(n:Int):Bool:= !((decide ((l.length:Int)>n)&&decide (l.length≤200))||decide (300<l.length))&&l.all fun s=>decide (s.length≤40)
def Y3(l:List (List UInt8)):Bool:=decide (l.length≤300)&&l.all fun s=>decide (s.length≤40)
end Go.Sp
end
section
namespace Go.Pe
open Go.Det
noncomputable section
abbrev Vz:Sh:=.list .str
noncomputable def DG:As:=⟨[.str],fun s=>decide (s.length≤1000000),[.bool],fun s=>Sp.isName s,false⟩
noncomputable def bS:As:=⟨[Vz,.str],fun i=>decide (i.1.length≤1000000),[.bool],fun i=>Sp.has i.1 i.2,false⟩
noncomputable def P9:As:=⟨[Vz,Vz],fun i=>decide (i.1.length≤1000000),[.bool],fun i=>Sp.eO i.1 i.2,false⟩
noncomputable def Jm:As:=⟨[Vz,i64],fun _=>true,[.bool],fun i=>Sp.Gj i.1 i.2,false⟩
noncomputable def EI:As:=⟨[Vz,i64],fun i=>Sp.Y3 i.1&&decide (0≤(i.2:Int))&&decide ((i.2:Int)<(i.1.length:Int)),[i64],fun i=>Sp.C1 ((i.1:List (List UInt8)).take (i.2:Int).toNat) ((i.1:List (List UInt8)).getD (i.2:Int).toNat []),false⟩
noncomputable def pA:List (FuncId×As):=[(158,DG),(113,DG),(84,bS),(42,P9),(35,Jm),(87,CD),(88,GS),(92,Ir),(93,Nv),(95,Re),(21,CD),(22,GS),(94,GS),(27,Ox),(91,CL),(25,CL)]
noncomputable def kV:AW:=X7 pA
end
noncomputable section
open List Int Prod
namespace T112
def T(l:List (List UInt8))(i:Int):Tr:=tree kV false 9 112 (Ag ([zi zx,zl ze]) (l,i))
def L1(v0:List (List UInt8))(v1 v5:Int):Tr:=re ((T [] 0).L.L.R) (Al 26 [(0,.dat (zi zx) v0),(1,.dat i64 v1),(5,.dat i64 v5)] [] 0)
theorem Ap(l:List (List UInt8))(i:Int):T l i=.ite (decide (0≤i)&&decide (i<(length l:Int))) (.ite (decide (length (getD l (toNat i) [])≤1000000)) (.ite (!Sp.isName (getD l (toNat i) [])) (.leaf (.dat i64 (8:Int)) []) (L1 l i 0)) .fail) .fail:=by kernel_rfl
theorem Ai(v0:List (List UInt8))(v1 v5:Int):stepT kV (L1 v0 v1 v5)=.ite (decide (v5<v1)) (.ite (decide (0≤v5)&&decide (v5<(length v0:Int))) (.ite (decide (0≤v1)&&decide (v1<(length v0:Int))) (.ite (getD v0 (toNat v5) []==getD v0 (toNat v1) []) (.leaf (.dat i64 (9:Int)) []) (L1 v0 v1 (zc .i64 (v5+1)))) .fail) .fail) (.leaf (.dat i64 (0:Int)) []):=by kernel_rfl
end T112
end
noncomputable section
open List Int Prod
namespace T158
def T(s:List UInt8):Tr:=tree BW false 9 158 (Ag ([zx]) s)
def L1(v0 o0:List UInt8):Tr:=re ((T [])) (Al 37 [(0,.dat zx v0),(6,.ptr 0 0)] [(0,zD o0 0)] 1)
theorem Ap(s:List UInt8):T s=L1 s s:=by kernel_rfl
def L2(v0 o0:List UInt8)(o0p:Nat):Tr:=re ((stepT BW (L1 [] [])).L.L.L) (Al 37 [(0,.dat zx v0),(6,.ptr 0 0)] [(0,zD o0 o0p)] 1)
theorem Ai(v0 o0:List UInt8):stepT BW (L1 v0 o0)=let b':=zz 0 (Io o0 0);let c':Tr:=.leaf (.bl false) ([(0,zD o0 b')]);let a':Tr:=.ite true c' (.ite (rune o0 0 !=95) (.ite (decide (rune o0 0<48)) c' (.ite (decide (rune o0 0>57)) c' (L2 v0 o0 b'))) (L2 v0 o0 b'));let d':Tr:=.ite (decide (rune o0 0≥65)) (.ite (!decide (rune o0 0≤90)) a' (L2 v0 o0 b')) a';.ite (decide (0<length o0)) (.ite (decide (rune o0 0≥97)) (.ite (decide (rune o0 0≤122)) (L2 v0 o0 b') d') d') (.ite (!v0==[]) (.leaf (.dat Sh.bool (decide ((length v0:Int)≤24))) ([(0,zD o0 0)])) (.leaf (.bl false) ([(0,zD o0 0)]))):=by kernel_rfl
theorem AN(v0 o0:List UInt8)(o0p:Nat):stepT BW (L2 v0 o0 o0p)=let b':=zz o0p (Io o0 o0p);let e':=[(0,zD o0 o0p)];let d':Tr:=.leaf (.bl false) ([(0,zD o0 b')]);let a':Tr:=.ite ((↑o0p:Int)==0) d' (.ite (rune o0 o0p !=95) (.ite (decide (rune o0 o0p<48)) d' (.ite (decide (rune o0 o0p>57)) d' (L2 v0 o0 b'))) (L2 v0 o0 b'));let c':Tr:=.ite (decide (rune o0 o0p≥65)) (.ite (!decide (rune o0 o0p≤90)) a' (L2 v0 o0 b')) a';.ite (decide (o0p<length o0)) (.ite (decide (rune o0 o0p≥97)) (.ite (decide (rune o0 o0p≤122)) (L2 v0 o0 b') c') c') (.ite (!v0==[]) (.leaf (.dat Sh.bool (decide ((length v0:Int)≤24))) e') (.leaf (.bl false) e')):=by kernel_rfl
end T158
namespace T113
def T(s:List UInt8):Tr:=tree BW false 9 113 (Ag ([zx]) s)
def L1(v0:List UInt8)(v3:Int):Tr:=re ((T []).R.R) (Al 56 [(0,.dat zx v0),(3,.dat i64 v3)] [] 0)
theorem Ap(s:List UInt8):T s=.ite (decide ((length s:Int)<1)) (.leaf (.bl false) []) (.ite (decide ((length s:Int)>24)) (.leaf (.bl false) []) (L1 s 0)):=by kernel_rfl
theorem Ai(v0:List UInt8)(v3:Int):stepT BW (L1 v0 v3)=let b':=(↑(UInt8.toNat (getD v0 (toNat v3) (0:UInt8))):Int);let c':=L1 v0 (zc .i64 (v3+1));let e':Tr:=.leaf (.bl false) [];let f':=decide (v3<(length v0:Int));let a':Tr:=.ite (v3==0) e' (.ite (decide (b'≥48)) (.ite (decide (b'≤57)) c' (.ite (!b'==95) e' c')) (.ite (!b'==95) e' c'));let d':Tr:=.ite (decide (b'≥65)) (.ite (!decide (b'≤90)) a' c') a';.ite (f') (.ite (decide (0≤v3)&&f') (.ite (decide (b'≥97)) (.ite (decide (b'≤122)) c' d') d') .fail) (.leaf (.bl true) []):=by kernel_rfl
end T113
namespace T84
def T(l:List (List UInt8))(s:List UInt8):Tr:=tree BW false 9 84 (Ag ([zi zx,zx]) (l,s))
def L1(v0:List (List UInt8))(v1:List UInt8)(v5:Int):Tr:=re ((T [] [])) (Al 18 [(0,.dat (zi zx) v0),(1,.dat zx v1),(5,.dat i64 v5)] [] 0)
theorem Ap(l:List (List UInt8))(s:List UInt8):T l s=L1 l s 0:=by kernel_rfl
theorem Ai(v0:List (List UInt8))(v1:List UInt8)(v5:Int):stepT BW (L1 v0 v1 v5)=let a':=decide (v5<(length v0:Int));.ite (a') (.ite (decide (0≤v5)&&a') (.ite (getD v0 (toNat v5) []==v1) (.leaf (.bl true) []) (L1 v0 v1 (zc .i64 (v5+1)))) .fail) (.leaf (.bl false) []):=by kernel_rfl
end T84
namespace T42
def T(a:List (List UInt8))(b:List (List UInt8)):Tr:=tree BW false 9 42 (Ag ([zi zx,zi zx]) (a,b))
def L1(v0:List (List UInt8))(v1:List (List UInt8))(v5:Int):Tr:=re ((T [] []).R) (Al 26 [(0,.dat (zi zx) v0),(1,.dat (zi zx) v1),(5,.dat i64 v5)] [] 0)
theorem Ap(a:List (List UInt8))(b:List (List UInt8)):T a b=.ite ((length a:Int) !=(length b:Int)) (.leaf (.bl false) []) (L1 a b 0):=by kernel_rfl
theorem Ai(v0:List (List UInt8))(v1:List (List UInt8))(v5:Int):stepT BW (L1 v0 v1 v5)=let a':=decide (v5<(length v0:Int));.ite (a') (.ite (decide (0≤v5)&&a') (.ite (decide (0≤v5)&&decide (v5<(length v1:Int))) (.ite (!getD v0 (toNat v5) []==getD v1 (toNat v5) []) (.leaf (.bl false) []) (L1 v0 v1 (zc .i64 (v5+1)))) .fail) .fail) (.leaf (.bl true) []):=by kernel_rfl
end T42
namespace T35
def T(l:List (List UInt8))(n:Int):Tr:=tree BW false 9 35 (Ag ([zi zx,zl ze]) (l,n))
def L1(v0:List (List UInt8))(v5:Int):Tr:=re ((T [] 0).L.R.R) (Al 32 [(0,.dat (zi zx) v0),(5,.dat i64 v5)] [] 0)
theorem Ap(l:List (List UInt8))(n:Int):T l n=let b':=(length l:Int);let a':Tr:=.ite (decide (b'>300)) (.leaf (.bl false) []) (L1 l 0);.ite (decide (b'>n)) (.ite (decide (b'≤200)) (.leaf (.bl false) []) a') a':=by kernel_rfl
theorem Ai(v0:List (List UInt8))(v5:Int):stepT BW (L1 v0 v5)=let a':=decide (v5<(length v0:Int));.ite (a') (.ite (decide (0≤v5)&&a') (.ite (decide ((↑(length (getD v0 (toNat v5) [])):Int)>40)) (.leaf (.bl false) []) (L1 v0 (zc .i64 (v5+1)))) .fail) (.leaf (.bl true) []):=by kernel_rfl
end T35
end
noncomputable section
open List Int Prod
namespace T87
def T(l:List Int):Tr:=tree BW false 9 87 (Ag ([zi i64]) l)
def L1(v5:List Int)(v6 v7:Int):Tr:=re ((T [])) (Al 15 [(5,.dat (zi i64) v5),(6,.dat i64 v6),(7,.dat i64 v7)] [] 0)
theorem Ap(l:List Int):T l=L1 l ((length l:Int)) 0:=by kernel_rfl
theorem Ai(v5:List Int)(v6 v7:Int):stepT BW (L1 v5 v6 v7)=.ite (decide (v7<v6)) (.ite (decide (0≤v7)&&decide (v7<(length v5:Int))) (.ite (getD v5 (toNat v7) 0 !=0) (.leaf (.dat i64 (getD v5 (toNat v7) 0)) []) (L1 v5 v6 (zc .i64 (v7+1)))) .fail) (.leaf (.dat i64 (0:Int)) []):=by kernel_rfl
end T87
namespace T88
def T(n a b:Int):Tr:=tree BW false 9 88 (Ag ([zl ze,zl ze,zl ze]) (n,a,b))
theorem Ap(n a b:Int):T n a b=.ite (decide (n<a)) (.leaf (.dat i64 (3:Int)) []) (.ite (decide (n>b)) (.leaf (.dat i64 (3:Int)) []) (.leaf (.dat i64 (0:Int)) [])):=by kernel_rfl
end T88
namespace T92
def T(c:Bool)(e:Int):Tr:=tree BW false 9 92 (Ag ([Sh.bool,zl ze]) (c,e))
theorem Ap(c:Bool)(e:Int):T c e=.ite c (.leaf (.dat i64 e) []) (.leaf (.dat i64 (0:Int)) []):=by kernel_rfl
end T92
namespace T93
def T(l:List Int)(x:Int):Tr:=tree BW false 9 93 (Ag ([zi i64,zl ze]) (l,x))
def L1(v0:List Int)(v1 v7 v8:Int):Tr:=re ((T [] 0)) (Al 19 [(0,.dat (zi i64) v0),(1,.dat i64 v1),(7,.dat i64 v7),(8,.dat i64 v8)] [] 0)
theorem Ap(l:List Int)(x:Int):T l x=L1 l x ((length l:Int)) 0:=by kernel_rfl
theorem Ai(v0:List Int)(v1 v7 v8:Int):stepT BW (L1 v0 v1 v7 v8)=.ite (decide (v8<v7)) (.ite (decide (0≤v8)&&decide (v8<(length v0:Int))) (.ite (v1==getD v0 (toNat v8) 0) (.leaf (.dat i64 v8) []) (L1 v0 v1 v7 (zc .i64 (v8+1)))) .fail) (.leaf (.dat i64 (-1:Int)) []):=by kernel_rfl
end T93
namespace T95
def T(n:Int):Tr:=tree BW false 9 95 (Ag ([zl ze]) n)
def L1(v0 v3:Int):Tr:=re ((T 0)) (Al 10 [(0,.dat i64 v0),(3,.dat i64 v3)] [] 0)
theorem Ap(n:Int):T n=L1 n 1:=by kernel_rfl
theorem Ai(v0 v3:Int):stepT BW (L1 v0 v3)=.ite (decide (v3<v0)) (L1 v0 (zc .i64 (2*v3))) (.leaf (.dat i64 v3) []):=by kernel_rfl
end T95
namespace T21
def T(l:List Int):Tr:=tree BW false 9 21 (Ag ([zi i64]) l)
def L1(v5:List Int)(v6 v7:Int):Tr:=re ((T [])) (Al 15 [(5,.dat (zi i64) v5),(6,.dat i64 v6),(7,.dat i64 v7)] [] 0)
theorem Ap(l:List Int):T l=L1 l ((length l:Int)) 0:=by kernel_rfl
theorem Ai(v5:List Int)(v6 v7:Int):stepT BW (L1 v5 v6 v7)=.ite (decide (v7<v6)) (.ite (decide (0≤v7)&&decide (v7<(length v5:Int))) (.ite (getD v5 (toNat v7) 0 !=0) (.leaf (.dat i64 (getD v5 (toNat v7) 0)) []) (L1 v5 v6 (zc .i64 (v7+1)))) .fail) (.leaf (.dat i64 (0:Int)) []):=by kernel_rfl
end T21
namespace T22
def T(n a b:Int):Tr:=tree BW false 9 22 (Ag ([zl ze,zl ze,zl ze]) (n,a,b))
theorem Ap(n a b:Int):T n a b=.ite (decide (n<a)) (.leaf (.dat i64 (3:Int)) []) (.ite (decide (n>b)) (.leaf (.dat i64 (3:Int)) []) (.leaf (.dat i64 (0:Int)) [])):=by kernel_rfl
end T22
namespace T94
def T(n a b:Int):Tr:=tree BW false 9 94 (Ag ([zl ze,zl ze,zl ze]) (n,a,b))
theorem Ap(n a b:Int):T n a b=.ite (decide (n<a)) (.leaf (.dat i64 (3:Int)) []) (.ite (decide (n>b)) (.leaf (.dat i64 (3:Int)) []) (.leaf (.dat i64 (0:Int)) [])):=by kernel_rfl
end T94
namespace T27
def T(a b:List Int):Tr:=tree BW false 9 27 (Ag ([zi i64,zi i64]) (a,b))
def L1(v0 v1:List Int)(v5:Int):Tr:=re ((T [] []).R) (Al 26 [(0,.dat (zi i64) v0),(1,.dat (zi i64) v1),(5,.dat i64 v5)] [] 0)
theorem Ap(a b:List Int):T a b=.ite ((length a:Int) !=(length b:Int)) (.leaf (.bl false) []) (L1 a b 0):=by kernel_rfl
theorem Ai(v0 v1:List Int)(v5:Int):stepT BW (L1 v0 v1 v5)=.ite (decide (v5<(length v0:Int))) (.ite (decide (0≤v5)&&decide (v5<(length v0:Int))) (.ite (decide (0≤v5)&&decide (v5<(length v1:Int))) (.ite (getD v0 (toNat v5) 0 !=getD v1 (toNat v5) 0) (.leaf (.bl false) []) (L1 v0 v1 (zc .i64 (v5+1)))) .fail) .fail) (.leaf (.bl true) []):=by kernel_rfl
end T27
namespace T90
def T(n key:Int):Tr:=tree BW false 9 90 (Ag ([zl ze,zl ze]) (n,key))
def L1(n key:Int)(v3n:Nat)(v8 v9:Int)(o0:List Int):Tr:=re ((T n key).L) (Al 18 [(3,.sl 0 1 0 v3n none),(8,.dat i64 v8),(9,.dat i64 v9)] [(0,.arr false 3 i64 o0)] 1)
theorem Ap(n key:Int):T n key=.ite (decide (0≤n)&&decide (n=n)&&decide (8*toNat n≤281474976710656)&&decide (n<9223372036854775808)) (L1 n key (toNat n) ((toNat n:Int)) 0 (replicate (toNat n) 0)) .fail:=by kernel_rfl
def L2(v1:Int)(v5n:Nat)(v6:Int)(o0:List Int):Tr:=re ((stepT BW (L1 0 0 0 0 0 [])).R) (Al 38 [(1,.dat i64 v1),(5,.sl 0 1 0 v5n none),(6,.dat i64 v6)] [(0,.arr false 3 i64 o0)] 1)
theorem Ai(n key:Int)(v3n:Nat)(v8 v9:Int)(o0:List Int):stepT BW (L1 n key v3n v8 v9 o0)=.ite (decide (v9<v8)) (.ite (decide (0≤v9)&&decide (v9<(↑v3n:Int))) (.ite (decide (toNat v9<length o0)) (L1 n key v3n v8 (zc .i64 (v9+1)) (set o0 (toNat v9) v9)) .fail) .fail) (L2 key v3n (zc .i64 (n-1)) o0):=by kernel_rfl
theorem AN(v1:Int)(v5n:Nat)(v6:Int)(o0:List Int):stepT BW (L2 v1 v5n v6 o0)=.ite (decide (v6≥1)) (.ite true (.ite (decide (zc .i64 (v6+1)≠0)) (.ite (decide (0≤zd (zd (zc .i64 (48271*v1)) 2147483647) (zc .i64 (v6+1)))&&decide (zd (zd (zc .i64 (48271*v1)) 2147483647) (zc .i64 (v6+1))<(↑v5n:Int))) (.ite (decide (toNat (zd (zd (zc .i64 (48271*v1)) 2147483647) (zc .i64 (v6+1)))<length o0)) (.ite (decide (0≤v6)&&decide (v6<(↑v5n:Int))) (.ite (decide (toNat v6<length o0)) (.ite (decide (0≤v6)&&decide (v6<(↑v5n:Int))) (.ite (decide (toNat v6<length o0)) (.ite (decide (0≤zd (zd (zc .i64 (48271*v1)) 2147483647) (zc .i64 (v6+1)))&&decide (zd (zd (zc .i64 (48271*v1)) 2147483647) (zc .i64 (v6+1))<(↑v5n:Int))) (.ite (decide (toNat (zd (zd (zc .i64 (48271*v1)) 2147483647) (zc .i64 (v6+1)))<length (set o0 (toNat v6) (getD o0 (toNat (zd (zd (zc .i64 (48271*v1)) 2147483647) (zc .i64 (v6+1)))) 0)))) (L2 (zd (zc .i64 (48271*v1)) 2147483647) v5n (zc .i64 (v6-1)) (set (set o0 (toNat v6) (getD o0 (toNat (zd (zd (zc .i64 (48271*v1)) 2147483647) (zc .i64 (v6+1)))) 0)) (toNat (zd (zd (zc .i64 (48271*v1)) 2147483647) (zc .i64 (v6+1)))) (getD o0 (toNat v6) 0))) .fail) .fail) .fail) .fail) .fail) .fail) .fail) .fail) .fail) .fail) (.leaf (.sl 0 1 0 v5n none) ([(0,.arr false 3 i64 o0)])):=by kernel_rfl
end T90
namespace T91
def T(n:Int):Tr:=tree BW false 9 91 (Ag ([zl ze]) n)
def L1(v0:Int)(v3n:Nat)(o0:List Int):Tr:=re ((T 0)) (Al 47 [(0,.dat i64 v0),(3,.sl 0 1 0 v3n none)] [(0,.arr false 3 i64 o0)] 1)
theorem Ap(n:Int):T n=L1 n 1 ([1]):=by kernel_rfl
def L2(v0:Int)(v3n v14n:Nat)(v15 v16:Int)(o0:List Int):Tr:=re ((stepT BW (L1 0 0 [])).L) (Al 47 [(0,.dat i64 v0),(3,.sl 0 1 0 v3n none),(4,.nil),(14,.sl 0 1 0 v14n none),(15,.dat i64 v15),(16,.dat i64 v16)] [(0,.arr false 3 i64 o0)] 1)
def L3(v0:Int)(v3n v32n:Nat)(v33 v34:Int)(o0:List Int):Tr:=re ((stepT BW (L1 0 0 [])).R) (Al 47 [(0,.dat i64 v0),(3,.sl 0 1 0 v3n none),(32,.sl 0 1 0 v32n none),(33,.dat i64 v33),(34,.dat i64 v34)] [(0,.arr false 3 i64 o0)] 1)
theorem Ai(v0:Int)(v3n:Nat)(o0:List Int):stepT BW (L1 v0 v3n o0)=.ite (decide ((↑v3n:Int)<v0)) (L2 v0 v3n v3n ((↑v3n:Int)) 0 o0) (L3 v0 v3n v3n ((↑v3n:Int)) 0 o0):=by kernel_rfl
def L4(v0:Int)(v3n v4n v14n:Nat)(v15 v16:Int)(o1 o0:List Int):Tr:=re ((stepT BW (L2 0 0 0 0 0 [])).L.L.L.L) (Al 47 [(0,.dat i64 v0),(3,.sl 0 1 0 v3n none),(4,.sl 1 1 0 v4n none),(14,.sl 0 1 0 v14n none),(15,.dat i64 v15),(16,.dat i64 v16)] [(1,.arr false 3 i64 o1),(0,.arr false 3 i64 o0)] 2)
def L5(v0:Int):Tr:=re ((stepT BW (L2 0 0 0 0 0 [])).R) (Al 47 [(0,.dat i64 v0),(3,.nil)] [] 0)
theorem AN(v0:Int)(v3n v14n:Nat)(v15 v16:Int)(o0:List Int):stepT BW (L2 v0 v3n v14n v15 v16 o0)=.ite (decide (v16<v15)) (.ite (decide (0≤v16)&&decide (v16<(↑v14n:Int))) (.ite (decide (toNat v16<length o0)) (.ite (decide (2≤2)&&decide (0<2)&&decide ((2*2+1000)*8≤281474976710656)) (L4 v0 v3n 2 v14n v15 (zc .i64 (v16+1)) ([getD o0 (toNat v16) 0,zc .i64 (zc .i64 (zc .i64 (2*(↑v3n:Int))+1)-getD o0 (toNat v16) 0)]) o0) .fail) .fail) .fail) (L5 v0):=by kernel_rfl
theorem Bk(v0:Int)(v3n v32n:Nat)(v33 v34:Int)(o0:List Int):stepT BW (L3 v0 v3n v32n v33 v34 o0)=.ite (decide (v34<v33)) (.ite (decide (0≤v34)&&decide (v34<(↑v32n:Int))) (.ite (decide (toNat v34<length o0)) (.ite (decide (getD o0 (toNat v34) 0>v0)) (.ite (decide (0≤v34)&&decide (v34<(↑v3n:Int))) (.ite (decide (toNat v34<length o0)) (L3 v0 v3n v32n v33 (zc .i64 (v34+1)) (set o0 (toNat v34) 0)) .fail) .fail) (L3 v0 v3n v32n v33 (zc .i64 (v34+1)) o0)) .fail) .fail) (.leaf (.sl 0 1 0 v3n none) ([(0,.arr false 3 i64 o0)])):=by kernel_rfl
theorem BA(v0:Int)(v3n v4n v14n:Nat)(v15 v16:Int)(o1 o0:List Int):stepT BW (L4 v0 v3n v4n v14n v15 v16 o1 o0)=.ite (decide (v16<v15)) (.ite (decide (0≤v16)&&decide (v16<(↑v14n:Int))) (.ite (decide (toNat v16<length o0)) (.ite (decide (2≤2)&&true&&decide (v4n=length o1)&&decide ((2*(v4n+2)+1000)*8≤281474976710656)) (L4 v0 v3n (zz v4n 2) v14n v15 (zc .i64 (v16+1)) (o1++[getD o0 (toNat v16) 0,zc .i64 (zc .i64 (zc .i64 (2*(↑v3n:Int))+1)-getD o0 (toNat v16) 0)]) o0) .fail) .fail) .fail) (L1 v0 v4n o1):=by kernel_rfl
end T91
namespace T24
def T(n key:Int):Tr:=tree BW false 9 24 (Ag ([zl ze,zl ze]) (n,key))
def L1(v0 v1 v6:Int):Tr:=re ((T 0 0)) (Al 48 [(0,.dat i64 v0),(1,.dat i64 v1),(5,.nil),(6,.dat i64 v6)] [] 0)
theorem Ap(n key:Int):T n key=L1 n key 0:=by kernel_rfl
def L2(v0 v1:Int)(v5n:Nat)(v6:Int)(o0:List Int):Tr:=re ((stepT BW (L1 0 0 0)).L.L) (Al 48 [(0,.dat i64 v0),(1,.dat i64 v1),(5,.sl 0 1 0 v5n none),(6,.dat i64 v6)] [(0,.arr false 3 i64 o0)] 1)
def L3(v7 v8:Int):Tr:=re ((stepT BW (L1 0 0 0)).R) (Al 48 [(5,.nil),(7,.dat i64 v7),(8,.dat i64 v8)] [] 0)
theorem Ai(v0 v1 v6:Int):stepT BW (L1 v0 v1 v6)=.ite (decide (v6<v0)) (.ite (decide (1≤1)&&decide (0<1)&&decide ((2*1+1000)*8≤281474976710656)) (L2 v0 v1 1 (zc .i64 (v6+1)) [v6]) .fail) (L3 v1 (zc .i64 (v0-1))):=by kernel_rfl
def L4(v5n:Nat)(v7 v8:Int)(o0:List Int):Tr:=re ((stepT BW (L2 0 0 0 0 [])).R) (Al 48 [(5,.sl 0 1 0 v5n none),(7,.dat i64 v7),(8,.dat i64 v8)] [(0,.arr false 3 i64 o0)] 1)
theorem AN(v0 v1:Int)(v5n:Nat)(v6:Int)(o0:List Int):stepT BW (L2 v0 v1 v5n v6 o0)=.ite (decide (v6<v0)) (.ite (decide (1≤1)&&true&&decide (v5n=length o0)&&decide ((2*(v5n+1)+1000)*8≤281474976710656)) (L2 v0 v1 (zz v5n 1) (zc .i64 (v6+1)) (o0++[v6])) .fail) (L4 v5n v1 (zc .i64 (v0-1)) o0):=by kernel_rfl
theorem Bk(v7 v8:Int):stepT BW (L3 v7 v8)=.ite (decide (v8≥1)) (.ite true (.ite (decide (zc .i64 (v8+1)≠0)) .fail .fail) .fail) (.leaf .nil []):=by kernel_rfl
theorem BA(v5n:Nat)(v7 v8:Int)(o0:List Int):stepT BW (L4 v5n v7 v8 o0)=.ite (decide (v8≥1)) (.ite true (.ite (decide (zc .i64 (v8+1)≠0)) (.ite (decide (0≤zd (zd (zc .i64 (48271*v7)) 2147483647) (zc .i64 (v8+1)))&&decide (zd (zd (zc .i64 (48271*v7)) 2147483647) (zc .i64 (v8+1))<(↑v5n:Int))) (.ite (decide (toNat (zd (zd (zc .i64 (48271*v7)) 2147483647) (zc .i64 (v8+1)))<length o0)) (.ite (decide (0≤v8)&&decide (v8<(↑v5n:Int))) (.ite (decide (toNat v8<length o0)) (.ite (decide (0≤v8)&&decide (v8<(↑v5n:Int))) (.ite (decide (toNat v8<length o0)) (.ite (decide (0≤zd (zd (zc .i64 (48271*v7)) 2147483647) (zc .i64 (v8+1)))&&decide (zd (zd (zc .i64 (48271*v7)) 2147483647) (zc .i64 (v8+1))<(↑v5n:Int))) (.ite (decide (toNat (zd (zd (zc .i64 (48271*v7)) 2147483647) (zc .i64 (v8+1)))<length (set o0 (toNat v8) (getD o0 (toNat (zd (zd (zc .i64 (48271*v7)) 2147483647) (zc .i64 (v8+1)))) 0)))) (L4 v5n (zd (zc .i64 (48271*v7)) 2147483647) (zc .i64 (v8-1)) (set (set o0 (toNat v8) (getD o0 (toNat (zd (zd (zc .i64 (48271*v7)) 2147483647) (zc .i64 (v8+1)))) 0)) (toNat (zd (zd (zc .i64 (48271*v7)) 2147483647) (zc .i64 (v8+1)))) (getD o0 (toNat v8) 0))) .fail) .fail) .fail) .fail) .fail) .fail) .fail) .fail) .fail) .fail) (.leaf (.sl 0 1 0 v5n none) ([(0,.arr false 3 i64 o0)])):=by kernel_rfl
end T24
namespace T89
def T(k:Int):Tr:=tree N0 false 9 89 (Ag ([zl ze]) k)
theorem Ap(k:Int):T k=.ite true (.leaf (.dat i64 (Sp.out k 1 2147483646)) []) .fail:=by kernel_rfl
end T89
namespace T23
def T(k:Int):Tr:=tree N0 false 9 23 (Ag ([zl ze]) k)
theorem Ap(k:Int):T k=.ite true (.leaf (.dat i64 (Sp.out k 1 2147483646)) []) .fail:=by kernel_rfl
end T23
namespace T25
def T(n:Int):Tr:=tree N0 false 9 25 (Ag ([zl ze]) n)
def L1(v0:Int)(v3n:Nat)(o0:List Int):Tr:=re ((T 0)) (Al 52 [(0,.dat i64 v0),(3,.sl 0 1 0 v3n none)] [(0,.arr false 3 i64 o0)] 1)
theorem Ap(n:Int):T n=L1 n 1 ([1]):=by kernel_rfl
def L2(v0:Int)(v3n:Nat)(v5:Int)(o0:List Int):Tr:=re ((stepT N0 (L1 0 0 [])).L.L) (Al 52 [(0,.dat i64 v0),(3,.sl 0 1 0 v3n none),(4,.nil),(5,.dat i64 v5)] [(0,.arr false 3 i64 o0)] 1)
def L3(v0:Int)(v3n:Nat)(v6:Int)(o0:List Int):Tr:=re ((stepT N0 (L1 0 0 [])).L.R) (Al 52 [(0,.dat i64 v0),(3,.sl 0 1 0 v3n none),(6,.dat i64 v6)] [(0,.arr false 3 i64 o0)] 1)
theorem Ai(v0:Int)(v3n:Nat)(o0:List Int):stepT N0 (L1 v0 v3n o0)=.ite (decide (v0≤200)) (.ite (decide ((↑v3n:Int)<Sp.size 8 v0 1)) (L2 v0 v3n 0 o0) (L3 v0 v3n 0 o0)) .fail:=by kernel_rfl
def L4(v0:Int)(v3n v4n:Nat)(v5:Int)(o1 o0:List Int):Tr:=re ((stepT N0 (L2 0 0 0 [])).L.L.L.L.L.L) (Al 52 [(0,.dat i64 v0),(3,.sl 0 1 0 v3n none),(4,.sl 1 1 0 v4n none),(5,.dat i64 v5)] [(1,.arr false 3 i64 o1),(0,.arr false 3 i64 o0)] 2)
def L5(v0:Int):Tr:=re ((stepT N0 (L2 0 0 0 [])).R) (Al 52 [(0,.dat i64 v0),(3,.nil)] [] 0)
theorem AN(v0:Int)(v3n:Nat)(v5:Int)(o0:List Int):stepT N0 (L2 v0 v3n v5 o0)=.ite (decide (v5<(↑v3n:Int))) (.ite (decide (0≤v5)&&decide (v5<(↑v3n:Int))) (.ite (decide (toNat v5<length o0)) (.ite (decide (0≤v5)&&decide (v5<(↑v3n:Int))) (.ite (decide (toNat v5<length o0)) (.ite (decide (2≤2)&&decide (0<2)&&decide ((2*2+1000)*8≤281474976710656)) (L4 v0 v3n 2 (zc .i64 (v5+1)) ([getD o0 (toNat v5) 0,zc .i64 (zc .i64 (zc .i64 (2*(↑v3n:Int))+1)-getD o0 (toNat v5) 0)]) o0) .fail) .fail) .fail) .fail) .fail) (L5 v0):=by kernel_rfl
theorem Bk(v0:Int)(v3n:Nat)(v6:Int)(o0:List Int):stepT N0 (L3 v0 v3n v6 o0)=.ite (decide (v6<(↑v3n:Int))) (.ite (decide (0≤v6)&&decide (v6<(↑v3n:Int))) (.ite (decide (toNat v6<length o0)) (.ite (decide (getD o0 (toNat v6) 0>v0)) (.ite (decide (0≤v6)&&decide (v6<(↑v3n:Int))) (.ite (decide (toNat v6<length o0)) (L3 v0 v3n (zc .i64 (v6+1)) (set o0 (toNat v6) 0)) .fail) .fail) (L3 v0 v3n (zc .i64 (v6+1)) o0)) .fail) .fail) (.leaf (.sl 0 1 0 v3n none) ([(0,.arr false 3 i64 o0)])):=by kernel_rfl
theorem BA(v0:Int)(v3n v4n:Nat)(v5:Int)(o1 o0:List Int):stepT N0 (L4 v0 v3n v4n v5 o1 o0)=.ite (decide (v5<(↑v3n:Int))) (.ite (decide (0≤v5)&&decide (v5<(↑v3n:Int))) (.ite (decide (toNat v5<length o0)) (.ite (decide (0≤v5)&&decide (v5<(↑v3n:Int))) (.ite (decide (toNat v5<length o0)) (.ite (decide (2≤2)&&true&&decide (v4n=length o1)&&decide ((2*(v4n+2)+1000)*8≤281474976710656)) (L4 v0 v3n (zz v4n 2) (zc .i64 (v5+1)) (o1++[getD o0 (toNat v5) 0,zc .i64 (zc .i64 (zc .i64 (2*(↑v3n:Int))+1)-getD o0 (toNat v5) 0)]) o0) .fail) .fail) .fail) .fail) .fail) (L1 v0 v4n o1):=by kernel_rfl
end T25
namespace T18
def T(n key:Int):Tr:=tree nQ false 9 18 (Ag ([zl ze,zl ze]) (n,key))
theorem Ap(n key:Int):T n key=.ite true (.ite true (.ite (decide (2≤2)&&true&&decide (2≤1000000)) (.ite (Sp.first [Sp.out n 0 200,Sp.out key 1 2147483646] !=0) (.leaf (.tup [.nil,.dat i64 (Sp.first [Sp.out n 0 200,Sp.out key 1 2147483646])]) ([(0,.arr false 25 i64 [Sp.out n 0 200,Sp.out key 1 2147483646])])) (.ite (decide (0≤n)&&decide (n≤200)&&decide (1≤key)&&decide (key≤2147483646)) (.leaf (.tup [.dat (zi i64) (Sp.Cg n key),.dat i64 (0:Int)]) ([(0,.arr false 25 i64 [Sp.out n 0 200,Sp.out key 1 2147483646])])) .fail)) .fail) .fail) .fail:=by kernel_rfl
end T18
end
end Go.Pe
end
section
namespace Go.Pe
open Sp
open Go.Det
section
variable {X:AW}{Q:PV→Ob→Prop}
@[simp] theorem kB:Ends X .fail Q↔False:=⟨fun⟨_,h⟩=>zw h,fun h=>h.elim⟩
@[simp] theorem Bc{v:PV}{ob:Ob}:Ends X (.leaf v ob) Q↔Q v ob:=⟨fun⟨_,h⟩=>h.Lq,fun h=>.leaf h⟩
@[simp] theorem AI{c:Bool}{a b:Tr}:Ends X (.ite c a b) Q↔if c=true then Ends X a Q else Ends X b Q:=by
 constructor
 ·rintro⟨n,h⟩;rcases h.D5 with⟨hc,h⟩|⟨hc,h⟩
  ·rw[if_pos hc];exact⟨n,h⟩
  ·rw[if_neg (by simp[hc])];exact⟨n,h⟩
 ·intro h;refine .ite (fun hc=>?_) (fun hc=>?_)
  ·rwa [if_pos hc]at h
  ·rwa [if_neg (by simp[hc])]at h
theorem Ae.of{sp:As}{i:(Bi sp.ins).T}{v:PV}{ob:Ob}{c:Bool}{y:(Bi sp.outs).T}(h:Oi sp.outs v ob=some (c,y))(hc:c=true)(hy:y=sp.f i):Ae sp i v ob:=⟨y,by rw[h,hc],hy⟩
@[simp] theorem Gm(s:Sh)(x:List s.T):Jh (Sh.leaves (.list s)) [.dat (.list s) x]=(true,[.dat (.list s) x]):=rfl
theorem wr(x:Int)(h1: -9223372036854775808≤x)(h2:x≤9223372036854775807):zc .i64 x=x:=IntWalk.i64_in x ⟨h1,h2⟩
theorem drop_cons{α:Type}{l r:List α}{x d:α}{i:Nat}(h:l.drop i=x::r):i<l.length∧l.getD i d=x∧l.drop (i+1)=r:=by
 have hlt:i<l.length:=by
  rcases Nat.lt_or_ge i l.length with h1|h1
  ·exact h1
  ·rw[zG h1]at h;cases h
 have h2:=zm hlt;rw[h]at h2;simp only[List.cons.injEq]at h2;exact⟨hlt,by simp[hlt,h2.1],h2.2.symm⟩
end
theorem Cv:∀g sp,BW.sp g=some sp→Ad AR g sp:=fun g sp h=>by cases h
theorem Av{X:AW}(hX:X.C=AR)(hall:∀g sp,X.sp g=some sp→Ad AR g sp){f:FuncId}{sp:As}{d:Nat}(hsp:AR.spec f=none)(hprim:AR.prim f=none)(hno:X.sp f=none)
  (hev:∀i,sp.pre i=true→Ends X (tree X sp.nd d f (Ag sp.ins i)) (Ae sp i)) (hfn:∃i,AR.fn f=some i) (hws:∀g w,X.ws g=some w→Dm AR g w:=by intro _ _ h;cases h):Ad AR f sp:=by
 have hmg:X.C.mg=false:=by rw[hX];rfl
 rw[←hX]at*;exact Vx hmg hall hws hsp hprim hno hev hfn
theorem Ab{α:Type}{o:Option α}(h:o.isSome=true):∃i,o=some i:=Option.isSome_iff_exists.1 h
namespace T87
theorem loop{Q:PV→Ob→Prop}(l:List Int)(hl:l.length≤1000000):∀(r:List Int) (i:Nat),l.drop i=r→i≤l.length→Q (.dat i64 (Sp.first r)) []→Ends BW (L1 l ((l.length:Int)) i) Q
 |[],i,h,hi,hq=>by
  refine Ends.Af (Ai ..) ?_;conv=>zeta
  have:¬i<l.length:=by
   intro h1;have:=zm h1;rw[h]at this;cases this
  have he:i=l.length:=by omega
  subst he;simpa [Sp.first]using hq
 |x::r,i,h,hi,hq=>by
  obtain⟨h1,h2,h3⟩:=drop_cons (d:=0) h;refine Ends.Af (Ai ..) ?_;conv=>zeta
  rw[AI,if_pos (by simp;omega),AI,if_pos (by simp;omega),AI];simp only[zj,h2];by_cases hx:x=0
  ·subst hx;rw[if_neg (by simp),wr _ (by omega) (by omega)];exact loop l hl r (i+1) h3 h1 (by simpa [Sp.first]using hq)
  ·rw[if_pos (by simpa using hx)];simpa [Sp.first,hx]using hq
theorem ok:Ad AR 87 CD:=by
 refine Av (X:=BW) rfl Cv (d:=9) (by kernel_rfl) (by kernel_rfl) rfl (fun l hl=>?_) (Ab (by kernel_rfl));refine Ends.eq (Ap l) ?_;conv=>zeta
 exact loop l (by simpa [CD]using hl) l 0 rfl (zJ _) (Ae.of rfl rfl rfl)
end T87
namespace T21
theorem loop{Q:PV→Ob→Prop}(l:List Int)(hl:l.length≤1000000):∀(r:List Int) (i:Nat),l.drop i=r→i≤l.length→Q (.dat i64 (Sp.first r)) []→Ends BW (L1 l ((l.length:Int)) i) Q
 |[],i,h,hi,hq=>by
  refine Ends.Af (Ai ..) ?_;conv=>zeta
  have:¬i<l.length:=by
   intro h1;have:=zm h1;rw[h]at this;cases this
  have he:i=l.length:=by omega
  subst he;simpa [Sp.first]using hq
 |x::r,i,h,hi,hq=>by
  obtain⟨h1,h2,h3⟩:=drop_cons (d:=0) h;refine Ends.Af (Ai ..) ?_;conv=>zeta
  rw[AI,if_pos (by simp;omega),AI,if_pos (by simp;omega),AI];simp only[zj,h2];by_cases hx:x=0
  ·subst hx;rw[if_neg (by simp),wr _ (by omega) (by omega)];exact loop l hl r (i+1) h3 h1 (by simpa [Sp.first]using hq)
  ·rw[if_pos (by simpa using hx)];simpa [Sp.first,hx]using hq
theorem ok:Ad AR 21 CD:=by
 refine Av (X:=BW) rfl Cv (d:=9) (by kernel_rfl) (by kernel_rfl) rfl (fun l hl=>?_) (Ab (by kernel_rfl));refine Ends.eq (Ap l) ?_;conv=>zeta
 exact loop l (by simpa [CD]using hl) l 0 rfl (zJ _) (Ae.of rfl rfl rfl)
end T21
theorem Nl{X:AW}{n a b:Int}:Ends X (.ite (decide (n<a)) (.leaf (.dat i64 (3:Int)) []) (.ite (decide (n>b)) (.leaf (.dat i64 (3:Int)) []) (.leaf (.dat i64 (0:Int)) []))) (Ae GS (n,a,b)):=by
 simp only[AI,Bc];have key:∀x:Int,x=Sp.out n a b→Ae GS (n,a,b) (.dat i64 x) []:=fun x hx=>Ae.of rfl rfl hx
 split
 ·rename_i h;exact key _ (by simp at h;simp[Sp.out,h])
 ·rename_i h;split
  ·rename_i h2;exact key _ (by simp at h h2;simp only[Sp.out];rw[if_neg (by omega),if_pos (by omega)])
  ·rename_i h2;exact key _ (by simp at h h2;simp only[Sp.out];rw[if_neg (by omega),if_neg (by omega)])
theorem T88.ok:Ad AR 88 GS:=
 Av (X:=BW) rfl Cv (d:=9) (by kernel_rfl) (by kernel_rfl) rfl (fun⟨n,a,b⟩ _=>Ends.eq (T88.Ap n a b) Nl) (Ab (by kernel_rfl))
theorem T22.ok:Ad AR 22 GS:=
 Av (X:=BW) rfl Cv (d:=9) (by kernel_rfl) (by kernel_rfl) rfl (fun⟨n,a,b⟩ _=>Ends.eq (T22.Ap n a b) Nl) (Ab (by kernel_rfl))
theorem T94.ok:Ad AR 94 GS:=
 Av (X:=BW) rfl Cv (d:=9) (by kernel_rfl) (by kernel_rfl) rfl (fun⟨n,a,b⟩ _=>Ends.eq (T94.Ap n a b) Nl) (Ab (by kernel_rfl))
theorem T92.ok:Ad AR 92 Ir:=by
 refine Av (X:=BW) rfl Cv (d:=9) (by kernel_rfl) (by kernel_rfl) rfl (fun⟨c,e⟩ _=>?_) (Ab (by kernel_rfl));refine Ends.eq (T92.Ap c e) ?_;conv=>zeta
 have key:∀x:Int,x=Dk c e→Ae Ir (c,e) (.dat i64 x) []:=fun x hx=>Ae.of rfl rfl hx
 simp only[AI,Bc];cases c
 ·exact key _ rfl
 ·exact key _ rfl
namespace T93
theorem loop{Q:PV→Ob→Prop}(l:List Int)(x:Int)(hl:l.length≤1000000):∀(r:List Int) (i:Nat),l.drop i=r→i≤l.length→Q (.dat i64 (Sp.index r x i)) []→Ends BW (L1 l x ((l.length:Int)) i) Q
 |[],i,h,hi,hq=>by
  refine Ends.Af (Ai ..) ?_;conv=>zeta
  have:¬i<l.length:=by
   intro h1;have:=zm h1;rw[h]at this;cases this
  have he:i=l.length:=by omega
  subst he;simpa [Sp.index]using hq
 |y::r,i,h,hi,hq=>by
  obtain⟨h1,h2,h3⟩:=drop_cons (d:=0) h;refine Ends.Af (Ai ..) ?_;conv=>zeta
  rw[AI,if_pos (by simp;omega),AI,if_pos (by simp;omega),AI];simp only[zj,h2];by_cases hx:x=y
  ·rw[if_pos (by simpa using hx)];simpa [Sp.index,hx]using hq
  ·rw[if_neg (by simpa using hx),wr _ (by omega) (by omega)];exact loop l x hl r (i+1) h3 h1 (by simpa [Sp.index,hx]using hq)
theorem ok:Ad AR 93 Nv:=by
 refine Av (X:=BW) rfl Cv (d:=9) (by kernel_rfl) (by kernel_rfl) rfl (fun⟨l,x⟩ hl=>?_) (Ab (by kernel_rfl));refine Ends.eq (Ap l x) ?_;conv=>zeta
 exact loop l x (by simpa [Nv]using hl) l 0 rfl (zJ _) (Ae.of rfl rfl rfl)
end T93
namespace T95
theorem loop{Q:PV→Ob→Prop}(n:Int)(hn:n≤200):∀(f:Nat) (s:Int),1≤s→n≤s*2^f→Q (.dat i64 (Sp.size f n s)) []→Ends BW (L1 n s) Q
 |0,s,h1,h,hq=>by
  refine Ends.Af (Ai ..) ?_;conv=>zeta
  rw[AI,if_neg (by simp at h ⊢;omega),Bc];exact hq
 |f+1,s,h1,h,hq=>by
  refine Ends.Af (Ai ..) ?_;conv=>zeta
  by_cases hs:s<n
  ·rw[AI,if_pos (by simpa using hs),wr _ (by omega) (by omega)];refine loop n hn f (2*s) (by omega) ?_ (by simpa [Sp.size,hs]using hq);rw[Int.pow_succ]at h;rw[zH 2 s,Int.mul_assoc,zH 2];exact h
  ·rw[AI,if_neg (by simpa using hs),Bc];simpa [Sp.size,hs]using hq
theorem ok:Ad AR 95 Re:=by
 refine Av (X:=BW) rfl Cv (d:=9) (by kernel_rfl) (by kernel_rfl) rfl (fun(n:Int) hn=>?_) (Ab (by kernel_rfl));have hn:n≤200:=by simpa [Re]using hn
 refine Ends.eq (Ap n) ?_;conv=>zeta
 exact loop n hn 8 1 (by omega) (by omega) (Ae.of rfl rfl rfl)
end T95
namespace T27
theorem loop{Q:PV→Ob→Prop}(a b:List Int)(hl:a.length≤1000000)(he:a.length=b.length):∀(r q:List Int) (i:Nat),a.drop i=r→b.drop i=q→i≤a.length→Q (.bl (r==q)) []→Ends BW (L1 a b i) Q
 |[],q,i,h,h',hi,hq=>by
  have hla:i=a.length:=by
   have:=congrArg zq h;simp at this;omega
  have hq0:q=[]:=by
   rw[←h'];exact zG (by omega)
  subst hq0;refine Ends.Af (Ai ..) ?_;conv=>zeta
  rw[AI,if_neg (by simp;omega),Bc];exact hq
 |x::r,q,i,h,h',hi,hq=>by
  obtain⟨h1,h2,h3⟩:=drop_cons (d:=0) h;cases q with
  |nil=>
   have:=congrArg zq h';simp at this;omega
  |cons y q=>
   obtain⟨g1,g2,g3⟩:=drop_cons (d:=0) h';refine Ends.Af (Ai ..) ?_;conv=>zeta
   refine Ends.tt (by simp<;>omega) (Ends.tt (by simp<;>omega) (Ends.tt (by simp<;>omega) ?_));simp only[zj,h2,g2,AI];by_cases hx:x=y
   ·subst hx;rw[if_neg (by simp),wr _ (by omega) (by omega)];exact loop a b hl he r q (i+1) h3 g3 h1 (by simpa using hq)
   ·rw[if_pos (by simpa using hx),Bc];have:((x::r)==(y::q))=false:=by simp[hx]
    rw[this]at hq;exact hq
theorem ok:Ad AR 27 Ox:=by
 refine Av (X:=BW) rfl Cv (d:=9) (by kernel_rfl) (by kernel_rfl) rfl (fun⟨a,b⟩ hl=>?_) (Ab (by kernel_rfl));refine Ends.eq (Ap a b) ?_;conv=>zeta
 have key:∀c:Bool,c=(a==b)→Ae Ox (a,b) (.bl c) []:=fun c hc=>Ae.of rfl rfl hc
 rw[AI];by_cases h:a.length=b.length
 ·rw[if_neg (by simp[h])];exact loop a b (by simpa [Ox]using hl) h a b 0 rfl rfl (zJ _) (key _ rfl)
 ·rw[if_pos (by simp;omega),Bc];refine key _ ?_;have:a≠b:=fun e=>h (by rw[e])
  simp[this]
end T27
abbrev exp(m:Nat)(r:List Int):List Int:=r.flatMap fun s=>[s,2*(m:Int)+1-s]
theorem drop_nil{α:Type}{l:List α}{i:Nat}(h:l.drop i=[])(hi:i≤l.length):i=l.length:=by
 have:=congrArg zq h;simp at this;omega
theorem CO{α:Type}{l r:List α}{x:α}{i:Nat}(h:l.drop i=x::r):x∈l:=by
 have:x∈l.drop i:=by rw[h];simp
 exact List.mem_of_mem_drop this
def Bd(l:List Int):Prop:=∀s∈l,0≤s∧s≤2*l.length
theorem IV(m:Nat)(l:List Int):(exp m l).length=2*l.length:=by
 induction l with
 |nil=>rfl
 |cons a l ih=>simp[exp]at ih ⊢;omega
theorem Bd.exp{l:List Int}(h:Bd l)(h1:1≤l.length):Bd (exp l.length l):=by
 intro s hs;rw[IV];obtain⟨a,ha,hs⟩:=List.mem_flatMap.1 hs;have:=h a ha;simp at hs;rcases hs with rfl|rfl<;>constructor<;>push_cast<;>omega
namespace T91
set_option maxRecDepth 10000 in
theorem A1{Q:PV→Ob→Prop}(n:Int)(l:List Int)(hl:l.length≤400)(hb:Bd l):∀(r:List Int) (i:Nat) (acc:List Int),l.drop i=r→i≤l.length→acc.length≤2*i→Ends BW (L1 n (acc++exp l.length r).length (acc++exp l.length r)) Q→
  Ends BW (L4 n l.length acc.length l.length ((l.length:Int)) i acc l) Q
 |[],i,acc,h,hi,ha,hq=>by
  have:=drop_nil h hi;refine Ends.Af (BA ..) (Ends.ff (by simp;omega) ?_);simpa [exp]using hq
 |x::r,i,acc,h,hi,ha,hq=>by
  obtain⟨h1,h2,h3⟩:=drop_cons (d:=0) h;have hx:=hb x (CO h);refine Ends.Af (BA ..) ?_;conv=>zeta
  refine Ends.tt (by simp<;>omega) (Ends.tt (by simp<;>omega) (Ends.tt (by simp<;>omega) (Ends.tt (by simp<;>omega) ?_)));simp only[zj,h2];rw[wr (2*(l.length:Int)) (by omega) (by omega),wr (2*(l.length:Int)+1) (by omega) (by omega),wr (2*(l.length:Int)+1-x) (by omega) (by omega),wr _ (by omega) (by omega)];rw[show zz acc.length 2=(acc++[x,2*(l.length:Int)+1-x]).length from by simp];refine A1 n l hl hb r (i+1) _ h3 h1 (by simp;omega) ?_;simpa [exp]using hq
theorem AL{Q:PV→Ob→Prop}(n:Int)(l:List Int)(h1:1≤l.length)(hl:l.length≤400)(hb:Bd l)(hq:Ends BW (L1 n (exp l.length l).length (exp l.length l)) Q):Ends BW (L2 n l.length l.length ((l.length:Int)) 0 l) Q:=by
 cases hc:l with
 |nil=>rw[hc]at h1;cases h1
 |cons x r=>
  rw[←hc];have hd:l.drop 0=x::r:=by rw[hc];rfl
  obtain⟨g1,g2,g3⟩:=drop_cons (d:=0) hd;have hx:=hb x (CO hd);refine Ends.Af (AN ..) ?_;conv=>zeta
  refine Ends.tt (by simp<;>omega) (Ends.tt (by simp<;>omega) (Ends.tt (by simp<;>omega) (Ends.tt (by simp<;>omega) ?_)));simp only[Int.toNat_zero,g2];rw[wr (2*(l.length:Int)) (by omega) (by omega),wr (2*(l.length:Int)+1) (by omega) (by omega),wr (2*(l.length:Int)+1-x) (by omega) (by omega),wr _ (by omega) (by omega)];refine A1 n l hl hb r 1 [x,2*(l.length:Int)+1-x] g3 g1 (by simp) ?_;have:[x,2*(l.length:Int)+1-x]++exp l.length r=exp l.length l:=by
   rw[show exp l.length l=exp l.length (x::r)by rw[hc]];simp[exp]
  rw[this];exact hq
theorem Bb{Q:PV→Ob→Prop}(n:Int)(m:Nat)(hm:m≤1000):∀(r done:List Int),(done++r).length=m→Q (.sl 0 1 0 m none) [(0,.arr false 3 i64 (done++Dn n r))]→Ends BW (L3 n m m (m:Int) done.length (done++r)) Q
 |[],done,h,hq=>by
  refine Ends.Af (Bk ..) (Ends.ff (by simp at h ⊢;omega) ?_);simpa [Dn]using hq
 |x::r,done,h,hq=>by
  simp at h;have hg:(done++x::r).getD done.length 0=x:=by simp
  have hs:(done++x::r).set done.length 0=done++0::r:=by simp
  refine Ends.Af (Bk ..) ?_;conv=>zeta
  refine Ends.tt (by simp<;>omega) (Ends.tt (by simp<;>omega) (Ends.tt (by simp<;>omega) ?_));simp only[zj,hg,hs];rw[wr _ (by omega) (by omega),AI];by_cases hx:x>n
  ·rw[if_pos (by simpa using hx)];refine Ends.tt (by simp<;>omega) (Ends.tt (by simp<;>omega) ?_);have:=Bb (Q:=Q) n m hm r (done++[0]) (by simp;omega) (by simpa [Dn,hx]using hq);simpa using this
  ·rw[if_neg (by simpa using hx)];have:=Bb (Q:=Q) n m hm r (done++[x]) (by simp;omega) (by simpa [Dn,hx]using hq);simpa using this
theorem Aj{Q:PV→Ob→Prop}(n:Int)(hn:n≤200):∀(f:Nat) (l:List Int),1≤l.length→l.length≤400→n≤l.length*2^f→Bd l→(Q (.sl 0 1 0 (Sp.grow f n l).length none) [(0,.arr false 3 i64 (Dn n (Sp.grow f n l)))])→Ends BW (L1 n l.length l) Q
 |0,l,h1,h2,h3,hb,hq=>by
  refine Ends.Af (Ai ..) (Ends.ff (by simp at h3 ⊢;omega) ?_);have:=Bb (Q:=Q) n l.length (by omega) l [] rfl (by simpa [Sp.grow]using hq);simpa using this
 |f+1,l,h1,h2,h3,hb,hq=>by
  refine Ends.Af (Ai ..) ?_;conv=>zeta
  rw[AI];by_cases hc:(l.length:Int)<n
  ·rw[if_pos (by simpa using hc)];refine AL n l h1 h2 hb (Aj n hn f _ (by rw[IV];omega) (by rw[IV];omega) ?_ (hb.exp h1) ?_)
   ·rw[IV];rw[Int.pow_succ]at h3;push_cast;rw[zH 2 (l.length:Int),Int.mul_assoc,zH 2];exact h3
   ·simpa [Sp.grow,hc,Sp.expand]using hq
  ·rw[if_neg (by simpa using hc)];have:=Bb (Q:=Q) n l.length (by omega) l [] rfl (by simpa [Sp.grow,hc]using hq);simpa using this
theorem ok:Ad AR 91 CL:=by
 refine Av (X:=BW) rfl Cv (d:=9) (by kernel_rfl) (by kernel_rfl) rfl (fun(n:Int) hn=>?_) (Ab (by kernel_rfl));have hn:1≤n∧n≤200:=by simpa [CL]using hn
 refine Ends.eq (Ap n) ?_;conv=>zeta
 refine Aj n hn.2 8 [1] (by simp) (by simp) (by simp;omega) (by intro s hs;simp at hs;subst hs;simp) ?_;have hlen:(Sp.grow 8 n [1]).length=(Dn n (Sp.grow 8 n [1])).length:=by simp[Dn]
 rw[hlen];exact Ae.of rfl (by rw[Gm];simp) (by simp[CL,Sp.bracket])
end T91
theorem NN(c:Int):zC c=true↔(97≤c∧c≤122)∨(65≤c∧c≤90)∨(48≤c∧c≤57)∨c=95:=by
 simp[zC,Sp.letter,or_assoc]
theorem It(c:Int):Sp.letter c=true↔(97≤c∧c≤122)∨(65≤c∧c≤90):=by
 simp[Sp.letter]
namespace T158
variable {Q:PV→Ob→Prop}
theorem loop(s:List UInt8)(hne:s≠[]):∀(r:List UInt8) (i:Nat),s.drop i=r→i≤s.length→1≤i→
  ((r.all fun c=>zC (c.toNat:Int))=false→∀ob,Q (.bl false) ob)→((r.all fun c=>zC (c.toNat:Int))=true→∀ob,Q (.dat .bool (decide ((s.length:Int)≤24))) ob)→Ends BW (L2 s s i) Q
 |[],i,h,hi,h1,hf,ht=>by
  have:=drop_nil h hi;refine Ends.Af (AN ..) (Ends.ff (by simp;omega) (Ends.tt (by simpa using hne) ?_));exact Ends.leaf (ht rfl _)
 |x::r,i,h,hi,h1,hf,ht=>by
  obtain⟨g1,g2,g3⟩:=drop_cons (d:=0) h;refine Ends.Af (AN ..) (Ends.tt (by simpa using g1) ?_);have hn:((i:Int)==0)=false:=by simp;omega
  simp only[AI,Bc,hn,Bool.false_eq_true,if_false,decide_eq_true_eq,Bool.not_eq_true',decide_eq_false_iff_not,bne_iff_ne,ne_eq];have step:zC (x.toNat:Int)=true→Io s i=1→Ends BW (L2 s s (zz i (Io s i))) Q:=by
   intro hm hw;rw[hw];refine loop s hne r (i+1) g3 g1 (by omega) (fun e=>hf (by simp[e])) (fun e=>ht (by simp[e];exact hm))
  have no:zC (x.toNat:Int)=false→∀ob,Q (.bl false) ob:=fun hm=>hf (by simp[hm])
  by_cases hl:(s.getD i 0).toNat<128
  ·obtain⟨e1,e2⟩:=QY g1 hl;rw[e1,g2];have mi:=NN (x.toNat:Int);generalize ((x.toNat:Nat):Int)=c at mi step no ⊢;by_cases hm:zC c=true
   ·have:=mi.1 hm;repeat' split
    all_goals first|exact step hm e2|(exfalso;omega)
   ·have hm2:zC c=false:=by simpa using hm
    have:¬_:=fun h=>hm (mi.2 h)
    repeat' split
    all_goals first|exact no hm2 _|(exfalso;omega)
  ·have hr:=Ov g1 (by omega);have hx:zC (x.toNat:Int)=false:=by
    have:¬zC (x.toNat:Int)=true:=fun h=>by
     have:=(NN _).1 h;rw[g2]at hl;omega
    simpa using this
   repeat' split
   all_goals first|exact no hx _|(exfalso;omega)
end T158
end Go.Pe
end
section
namespace Go.Pe
open Sp
open Go.Det
theorem T6{key:Int}(h0:0≤key):0≤Ia key∧Ia key≤2147483646:=by
 unfold Ia;rw[Int.tmod_eq_emod_of_nonneg (by omega)];omega
theorem UD{a b:Int}(ha:0≤a)(hb:0<b):0≤zd a b∧zd a b<b:=⟨Int.tmod_nonneg _ ha,Int.tmod_lt_of_pos _ hb⟩
theorem bX(l:List Int)(i k:Nat):(dT l i k).length=l.length:=by simp[dT]
theorem GW:∀(i:Nat) (key:Int) (l:List Int),(C0 i key l).length=l.length
 |0,_,_=>rfl
 |i+1,key,l=>by unfold C0;rw[GW,bX]
theorem Og(i:Nat):Sp.iota (i+1)=Sp.iota i++[(i:Int)]:=by simp[Sp.iota,List.range_succ]
theorem D8(i:Nat):(Sp.iota i).length=i:=by simp[Sp.iota]
namespace T90
set_option maxRecDepth 10000 in
theorem AL{Q:PV→Ob→Prop}(N:Nat)(hN:N≤1000):∀(i:Nat) (key v:Int) (l:List Int),v.toNat=i→v<N→l.length=N→0≤key→key≤2147483646→Q (.sl 0 1 0 N none) [(0,.arr false 3 i64 (C0 i key l))]→Ends BW (L2 key N v l) Q
 |0,key,v,l,hv,hlt,hl,k0,k1,hq=>by
  refine Ends.Af (AN ..) (Ends.ff (by simp;omega) ?_);simpa [C0]using hq
 |i+1,key,v,l,hv,hlt,hl,k0,k1,hq=>by
  obtain rfl:v=(i:Int)+1:=by omega
  have hnk:=T6 k0;have hk:=UD hnk.1 (show(0:Int)<(i:Int)+1+1 by omega);have e1:((i:Int)+1).toNat=i+1:=by omega
  have e2:(i:Int)+1+1=(i:Int)+2:=by omega
  refine Ends.Af (AN ..) ?_;conv=>zeta
  rw[wr (48271*key) (by omega) (by omega),wr ((i:Int)+1+1) (by omega) (by omega),wr ((i:Int)+1-1) (by omega) (by omega),e1];rw[show zd (48271*key) 2147483647=Ia key from rfl];generalize hkk:zd (Ia key) ((i:Int)+1+1)=kk at hk ⊢;have hq':Q (.sl 0 1 0 N none) [(0,.arr false 3 i64 (C0 i (Ia key) (dT l (i+1) kk.toNat)))]:=by
   rw[←hkk,e2];exact hq
  clear hq;refine Ends.tt (by simp<;>omega) (Ends.tt (by simp) (Ends.tt (by simp<;>omega) (Ends.tt (by simp<;>omega) (Ends.tt (by simp<;>omega) (Ends.tt (by simp<;>omega) (Ends.tt (by simp<;>omega) (Ends.tt (by simp<;>omega) (Ends.tt (by simp<;>omega) (Ends.tt (by simp<;>omega) (Ends.tt (by simp<;>omega) ?_))))))))));exact AL N hN i _ _ _ (by omega) (by omega) (by simp[hl]) hnk.1 hnk.2 hq'
theorem Aj{Q:PV→Ob→Prop}(n key:Int)(N:Nat)(hN:N≤1000)(hn:n=N):∀(k i:Nat),i+k=N→Ends BW (L2 key N (n-1) (Sp.iota N)) Q→Ends BW (L1 n key N N i (Sp.iota i++zK k 0)) Q
 |0,i,h,hq=>by
  obtain rfl:i=N:=by omega
  refine Ends.Af (Ai ..) (Ends.ff (by simp) ?_);rw[wr _ (by omega) (by omega)];simpa using hq
 |k+1,i,h,hq=>by
  refine Ends.Af (Ai ..) ?_;conv=>zeta
  refine Ends.tt (by simp<;>omega) (Ends.tt (by simp<;>omega) (Ends.tt (by simp[D8]<;>omega) ?_));have e:(Sp.iota i++zK (k+1) (0:Int)).set i (i:Int)=Sp.iota (i+1)++zK k 0:=by
   rw[Og,List.replicate_succ,List.set_append_right _ _ (by rw[D8];exact zf _),D8];simp
  rw[zj,e,wr _ (by omega) (by omega)];exact Aj n key N hN hn k (i+1) (by omega) hq
theorem ok:Ad AR 90 B2:=by
 refine Av (X:=BW) rfl Cv (d:=9) (by kernel_rfl) (by kernel_rfl) rfl (fun(i:Int×Int) hn=>?_) (Ab (by kernel_rfl));obtain⟨n,key⟩:=i;have hn:((0≤n∧n≤200)∧1≤key)∧key≤2147483646:=by simpa [B2]using hn
 refine Ends.eq (Ap n key) (Ends.tt (by simp;omega) ?_);have:=Aj (Q:=Ae B2 (n,key)) n key n.toNat (by omega) (by omega) n.toNat 0 (by omega) (AL n.toNat (by omega) (n.toNat-1) key (n-1) _ (by omega) (by omega) (D8 _) (by omega) (by omega) ?_)
 ·simpa [Sp.iota]using this
 ·have hlen:n.toNat=(Cg n key).length:=by simp[Cg,GW,D8]
  show Ae B2 (n,key) (.sl 0 1 0 n.toNat none) [(0,.arr false 3 i64 (Cg n key))];rw[hlen];exact Ae.of rfl (by simp) (by simp[B2])
end T90
namespace T24
set_option maxRecDepth 10000 in
theorem A1{Q:PV→Ob→Prop}(N:Nat)(hN:N≤1000):∀(i:Nat) (key v:Int) (l:List Int),v.toNat=i→v<N→l.length=N→0≤key→key≤2147483646→Q (.sl 0 1 0 N none) [(0,.arr false 3 i64 (C0 i key l))]→Ends BW (L4 N key v l) Q
 |0,key,v,l,hv,hlt,hl,k0,k1,hq=>by
  refine Ends.Af (BA ..) (Ends.ff (by simp;omega) ?_);simpa [C0]using hq
 |i+1,key,v,l,hv,hlt,hl,k0,k1,hq=>by
  obtain rfl:v=(i:Int)+1:=by omega
  have hnk:=T6 k0;have hk:=UD hnk.1 (show(0:Int)<(i:Int)+1+1 by omega);have e1:((i:Int)+1).toNat=i+1:=by omega
  have e2:(i:Int)+1+1=(i:Int)+2:=by omega
  refine Ends.Af (BA ..) ?_;conv=>zeta
  rw[wr (48271*key) (by omega) (by omega),wr ((i:Int)+1+1) (by omega) (by omega),wr ((i:Int)+1-1) (by omega) (by omega),e1];rw[show zd (48271*key) 2147483647=Ia key from rfl];generalize hkk:zd (Ia key) ((i:Int)+1+1)=kk at hk ⊢;have hq':Q (.sl 0 1 0 N none) [(0,.arr false 3 i64 (C0 i (Ia key) (dT l (i+1) kk.toNat)))]:=by
   rw[←hkk,e2];exact hq
  clear hq;refine Ends.tt (by simp<;>omega) (Ends.tt (by simp) (Ends.tt (by simp<;>omega) (Ends.tt (by simp<;>omega) (Ends.tt (by simp<;>omega) (Ends.tt (by simp<;>omega) (Ends.tt (by simp<;>omega) (Ends.tt (by simp<;>omega) (Ends.tt (by simp<;>omega) (Ends.tt (by simp<;>omega) (Ends.tt (by simp<;>omega) ?_))))))))));exact A1 N hN i _ _ _ (by omega) (by omega) (by simp[hl]) hnk.1 hnk.2 hq'
theorem AL{Q:PV→Ob→Prop}(n key:Int)(N:Nat)(hN:N≤1000)(hn:n=N):∀(k i:Nat),i+k=N→Ends BW (L4 N key (n-1) (Sp.iota N)) Q→Ends BW (L2 n key i i (Sp.iota i)) Q
 |0,i,h,hq=>by
  obtain rfl:i=N:=by omega
  refine Ends.Af (AN ..) (Ends.ff (by simp;omega) ?_);rw[wr _ (by omega) (by omega)];exact hq
 |k+1,i,h,hq=>by
  refine Ends.Af (AN ..) ?_;conv=>zeta
  refine Ends.tt (by simp<;>omega) (Ends.tt (by simp[D8]<;>omega) ?_);rw[show zz i 1=i+1 from rfl, ←Og,wr _ (by omega) (by omega)];exact AL n key N hN hn k (i+1) (by omega) hq
theorem ok:Ad AR 24 B2:=by
 refine Av (X:=BW) rfl Cv (d:=9) (by kernel_rfl) (by kernel_rfl) rfl (fun(i:Int×Int) hn=>?_) (Ab (by kernel_rfl));obtain⟨n,key⟩:=i;have hn:((0≤n∧n≤200)∧1≤key)∧key≤2147483646:=by simpa [B2]using hn
 refine Ends.eq (Ap n key) (Ends.Af (Ai ..) ?_);by_cases h0:n=0
 ·subst h0;refine Ends.ff (by simp) (Ends.Af (Bk ..) ?_);rw[wr _ (by omega) (by omega)];refine Ends.ff (by simp) (Ends.leaf (Ae.of rfl rfl ?_));simp[B2,Cg,C0,Sp.iota]
 ·refine Ends.tt (by simp;omega) (Ends.tt (by simp) ?_);rw[wr _ (by omega) (by omega)];refine AL (Q:=Ae B2 (n,key)) n key n.toNat (by omega) (by omega) (n.toNat-1) 1 (by omega) (A1 n.toNat (by omega) (n.toNat-1) key (n-1) _ (by omega) (by omega) (D8 _) (by omega) (by omega) ?_);have hlen:n.toNat=(Cg n key).length:=by simp[Cg,GW,D8]
  show Ae B2 (n,key) (.sl 0 1 0 n.toNat none) [(0,.arr false 3 i64 (Cg n key))];rw[hlen];exact Ae.of rfl (by simp) (by simp[B2])
end T24
theorem SZ:∀g sp,N0.sp g=some sp→Ad AR g sp:=Lp fun x hx=>by
 simp only[zE,List.mem_nil_iff,or_false]at hx;rcases hx with rfl|rfl|rfl|rfl|rfl|rfl|rfl|rfl|rfl|rfl|rfl|rfl
 ·exact T87.ok
 ·exact T88.ok
 ·exact T92.ok
 ·exact T93.ok
 ·exact T95.ok
 ·exact T21.ok
 ·exact T22.ok
 ·exact T94.ok
 ·exact T27.ok
 ·exact T90.ok
 ·exact T91.ok
 ·exact T24.ok
theorem T89.ok:Ad AR 89 SS:=
 Av (X:=N0) rfl SZ (d:=9) (by kernel_rfl) (by kernel_rfl) (by kernel_rfl) (fun(k:Int) _=>Ends.eq (T89.Ap k) (Ends.tt rfl (Ends.leaf (Ae.of rfl rfl rfl)))) (Ab (by kernel_rfl))
theorem T23.ok:Ad AR 23 SS:=
 Av (X:=N0) rfl SZ (d:=9) (by kernel_rfl) (by kernel_rfl) (by kernel_rfl) (fun(k:Int) _=>Ends.eq (T23.Ap k) (Ends.tt rfl (Ends.leaf (Ae.of rfl rfl rfl)))) (Ab (by kernel_rfl))
end Go.Pe
end
